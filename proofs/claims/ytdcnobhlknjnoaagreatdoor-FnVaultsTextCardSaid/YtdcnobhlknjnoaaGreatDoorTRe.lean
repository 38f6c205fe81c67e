/- A verified evaluator for the program, part Re of this claim. -/
import Derived.Test.YtdcnobhlknjnoaaGreatDoorTRq
set_option linter.unusedSimpArgs false
set_option linter.unusedVariables false
set_option linter.unusedVariables false
namespace Go.Proofs.YtdcnobhlknjnoaaGreatDoor.Ra
open Go
theorem rc0 (k:Nat):cl env (k+120) aI [aQ aS 0 0 0,(T.sl bJ).nth 0]=some [aQ aS 1 0 0,.bool true]:=by kernel_rfl
theorem rc1 (k:Nat):cl env (k+120) aI [aQ aS 1 0 0,(T.sl bJ).nth 1]=some [aQ aS 2 0 0,.bool true]:=by kernel_rfl
theorem rc2 (k:Nat):cl env (k+120) aI [aQ aS 2 0 0,(T.sl bJ).nth 2]=some [aQ aS 2 1 0,.bool true]:=by kernel_rfl
theorem rc3 (k:Nat):cl env (k+120) aI [aQ aS 2 1 0,(T.sl bJ).nth 3]=some [aQ aS 2 1 1,.bool true]:=by kernel_rfl
theorem rc4 (k:Nat):cl env (k+120) aI [aQ aS 2 1 1,(T.sl bJ).nth 4]=some [aQ aS 2 1 2,.bool true]:=by kernel_rfl
theorem rc5 (k:Nat):cl env (k+120) aI [aQ aS 2 1 2,(T.sl bJ).nth 5]=some [aQ aS 2 1 3,.bool true]:=by kernel_rfl
theorem rc6 (k:Nat):cl env (k+120) aI [aQ aS 2 1 3,(T.sl bJ).nth 6]=some [aQ aS 2 2 0,.bool true]:=by kernel_rfl
theorem rc7 (k:Nat):cl env (k+120) aI [aQ aS 2 2 0,(T.sl bJ).nth 7]=some [aQ aS 2 2 1,.bool true]:=by kernel_rfl
theorem rc8 (k:Nat):cl env (k+120) aI [aQ aS 2 2 1,(T.sl bJ).nth 8]=some [aQ aS 2 2 2,.bool true]:=by kernel_rfl
theorem rc9 (k:Nat):cl env (k+120) aI [aQ aS 2 2 2,(T.sl bJ).nth 9]=some [aQ aS 2 2 3,.bool true]:=by kernel_rfl
theorem rc10 (k:Nat):cl env (k+120) aI [aQ aS 2 2 3,(T.sl bJ).nth 10]=some [aQ aS 2 2 4,.bool true]:=by kernel_rfl
theorem rc11 (k:Nat):cl env (k+120) aI [aQ aS 2 2 4,(T.sl bJ).nth 11]=some [aQ aS 2 2 5,.bool true]:=by kernel_rfl
theorem rc12 (k:Nat):cl env (k+120) aI [aQ aS 2 2 5,(T.sl bJ).nth 12]=some [aQ aS 2 3 0,.bool true]:=by kernel_rfl
theorem rc13 (k:Nat):cl env (k+120) aI [aQ aS 2 3 0,(T.sl bJ).nth 13]=some [aQ aS 2 3 1,.bool true]:=by kernel_rfl
theorem rc14 (k:Nat):cl env (k+120) aI [aQ aS 2 3 1,(T.sl bJ).nth 14]=some [aQ aS 2 3 2,.bool true]:=by kernel_rfl
theorem rc15 (k:Nat):cl env (k+120) aI [aQ aS 2 3 2,(T.sl bJ).nth 15]=some [aQ aS 2 3 3,.bool true]:=by kernel_rfl
theorem rc16 (k:Nat):cl env (k+120) aI [aQ aS 2 3 3,(T.sl bJ).nth 16]=some [aQ aS 2 3 4,.bool true]:=by kernel_rfl
theorem rc17 (k:Nat):cl env (k+120) aI [aQ aS 2 3 4,(T.sl bJ).nth 17]=some [aQ aS 2 3 5,.bool true]:=by kernel_rfl
theorem rc18 (k:Nat):cl env (k+120) aI [aQ aS 2 3 5,(T.sl bJ).nth 18]=some [aQ aS 2 3 6,.bool true]:=by kernel_rfl
theorem rc19 (k:Nat):cl env (k+120) aI [aQ aS 2 3 6,(T.sl bJ).nth 19]=some [aQ aS 2 3 7,.bool true]:=by kernel_rfl
theorem rc20 (k:Nat):cl env (k+120) aI [aQ aS 2 3 7,(T.sl bJ).nth 20]=some [aQ aS 2 3 8,.bool true]:=by kernel_rfl
theorem rc21 (k:Nat):cl env (k+120) aI [aQ aS 2 3 8,(T.sl bJ).nth 21]=some [aQ aS 2 3 9,.bool true]:=by kernel_rfl
theorem rc22 (k:Nat):cl env (k+120) aI [aQ aS 2 3 9,(T.sl bJ).nth 22]=some [aQ aS 2 3 10,.bool true]:=by kernel_rfl
theorem rc23 (k:Nat):cl env (k+120) aI [aQ aS 2 3 10,(T.sl bJ).nth 23]=some [aQ aS 2 3 11,.bool true]:=by kernel_rfl
theorem rc24 (k:Nat):cl env (k+120) aI [aQ aS 2 3 11,(T.sl bJ).nth 24]=some [aQ aS 2 3 12,.bool true]:=by kernel_rfl
theorem rc25 (k:Nat):cl env (k+120) aI [aQ aS 2 3 12,(T.sl bJ).nth 25]=some [aQ aS 2 3 13,.bool true]:=by kernel_rfl
theorem rc26 (k:Nat):cl env (k+120) aI [aQ aS 2 3 13,(T.sl bJ).nth 26]=some [aQ aS 2 3 14,.bool true]:=by kernel_rfl
theorem rc27 (k:Nat):cl env (k+120) aI [aQ aS 2 3 14,(T.sl bJ).nth 27]=some [aQ aS 2 3 15,.bool true]:=by kernel_rfl
theorem rc28 (k:Nat):cl env (k+120) aI [aQ aS 2 3 15,(T.sl bJ).nth 28]=some [aQ aS 2 3 16,.bool true]:=by kernel_rfl
theorem rc29 (k:Nat):cl env (k+120) aI [aQ aS 2 3 16,(T.sl bJ).nth 29]=some [aQ aS 2 3 17,.bool true]:=by kernel_rfl
theorem rc30 (k:Nat):cl env (k+120) aI [aQ aS 2 3 17,(T.sl bJ).nth 30]=some [aQ aS 2 4 0,.bool true]:=by kernel_rfl
theorem rc31 (k:Nat):cl env (k+120) aI [aQ aS 2 4 0,(T.sl bJ).nth 31]=some [aQ aS 2 4 1,.bool true]:=by kernel_rfl
theorem rc32 (k:Nat):cl env (k+120) aI [aQ aS 2 4 1,(T.sl bJ).nth 32]=some [aQ aS 2 4 2,.bool true]:=by kernel_rfl
theorem rc33 (k:Nat):cl env (k+120) aI [aQ aS 2 4 2,(T.sl bJ).nth 33]=some [aQ aS 2 4 3,.bool true]:=by kernel_rfl
theorem rc34 (k:Nat):cl env (k+120) aI [aQ aS 2 4 3,(T.sl bJ).nth 34]=some [aQ aS 2 4 4,.bool true]:=by kernel_rfl
theorem rc35 (k:Nat):cl env (k+120) aI [aQ aS 2 4 4,(T.sl bJ).nth 35]=some [aQ aS 2 4 5,.bool true]:=by kernel_rfl
theorem rc36 (k:Nat):cl env (k+120) aI [aQ aS 2 4 5,(T.sl bJ).nth 36]=some [aQ aS 2 4 6,.bool true]:=by kernel_rfl
theorem rc37 (k:Nat):cl env (k+120) aI [aQ aS 2 4 6,(T.sl bJ).nth 37]=some [aQ aS 2 4 7,.bool true]:=by kernel_rfl
theorem rc38 (k:Nat):cl env (k+120) aI [aQ aS 2 4 7,(T.sl bJ).nth 38]=some [aQ aS 2 4 8,.bool true]:=by kernel_rfl
theorem rc39 (k:Nat):cl env (k+120) aI [aQ aS 2 4 8,(T.sl bJ).nth 39]=some [aQ aS 2 4 9,.bool true]:=by kernel_rfl
theorem rc40 (k:Nat):cl env (k+120) aI [aQ aS 2 4 9,(T.sl bJ).nth 40]=some [aQ aS 2 4 10,.bool true]:=by kernel_rfl
theorem rc41 (k:Nat):cl env (k+120) aI [aQ aS 2 4 10,(T.sl bJ).nth 41]=some [aQ aS 2 4 11,.bool true]:=by kernel_rfl
theorem CT (k:Nat):cl env (k+500) qZ [.str CK]=some [.sl bJ,.bool true]:=by kernel_rfl
theorem CY (k:Nat):cl env (k+120) eA [aS]=some [.str CK]:=by kernel_rfl
end Go.Proofs.YtdcnobhlknjnoaaGreatDoor.Ra
