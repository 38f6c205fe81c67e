/- A verified evaluator for the program, part Rf of this claim. -/
import Derived.Test.YtdcnobhlknjnoaaGreatDoorTRq
set_option linter.unusedSimpArgs false
set_option linter.unusedVariables false
set_option linter.unusedVariables false
namespace Go.Proofs.YtdcnobhlknjnoaaGreatDoor.Ra
open Go
theorem rg0 (k:Nat):cl env (k+120) aI [aQ aU 0 0 0,(T.sl cf).nth 0]=some [aQ aU 1 0 0,.bool true]:=by kernel_rfl
theorem rg1 (k:Nat):cl env (k+120) aI [aQ aU 1 0 0,(T.sl cf).nth 1]=some [aQ aU 2 0 0,.bool true]:=by kernel_rfl
theorem rg2 (k:Nat):cl env (k+120) aI [aQ aU 2 0 0,(T.sl cf).nth 2]=some [aQ aU 2 1 0,.bool true]:=by kernel_rfl
theorem rg3 (k:Nat):cl env (k+120) aI [aQ aU 2 1 0,(T.sl cf).nth 3]=some [aQ aU 2 1 1,.bool true]:=by kernel_rfl
theorem rg4 (k:Nat):cl env (k+120) aI [aQ aU 2 1 1,(T.sl cf).nth 4]=some [aQ aU 2 1 2,.bool true]:=by kernel_rfl
theorem rg5 (k:Nat):cl env (k+120) aI [aQ aU 2 1 2,(T.sl cf).nth 5]=some [aQ aU 2 1 3,.bool true]:=by kernel_rfl
theorem rg6 (k:Nat):cl env (k+120) aI [aQ aU 2 1 3,(T.sl cf).nth 6]=some [aQ aU 2 1 4,.bool true]:=by kernel_rfl
theorem rg7 (k:Nat):cl env (k+120) aI [aQ aU 2 1 4,(T.sl cf).nth 7]=some [aQ aU 2 1 5,.bool true]:=by kernel_rfl
theorem rg8 (k:Nat):cl env (k+120) aI [aQ aU 2 1 5,(T.sl cf).nth 8]=some [aQ aU 2 1 6,.bool true]:=by kernel_rfl
theorem rg9 (k:Nat):cl env (k+120) aI [aQ aU 2 1 6,(T.sl cf).nth 9]=some [aQ aU 2 2 0,.bool true]:=by kernel_rfl
theorem rg10 (k:Nat):cl env (k+120) aI [aQ aU 2 2 0,(T.sl cf).nth 10]=some [aQ aU 2 2 1,.bool true]:=by kernel_rfl
theorem rg11 (k:Nat):cl env (k+120) aI [aQ aU 2 2 1,(T.sl cf).nth 11]=some [aQ aU 2 2 2,.bool true]:=by kernel_rfl
theorem rg12 (k:Nat):cl env (k+120) aI [aQ aU 2 2 2,(T.sl cf).nth 12]=some [aQ aU 2 2 3,.bool true]:=by kernel_rfl
theorem rg13 (k:Nat):cl env (k+120) aI [aQ aU 2 2 3,(T.sl cf).nth 13]=some [aQ aU 2 2 4,.bool true]:=by kernel_rfl
theorem rg14 (k:Nat):cl env (k+120) aI [aQ aU 2 2 4,(T.sl cf).nth 14]=some [aQ aU 2 2 5,.bool true]:=by kernel_rfl
theorem rg15 (k:Nat):cl env (k+120) aI [aQ aU 2 2 5,(T.sl cf).nth 15]=some [aQ aU 2 3 0,.bool true]:=by kernel_rfl
theorem rg16 (k:Nat):cl env (k+120) aI [aQ aU 2 3 0,(T.sl cf).nth 16]=some [aQ aU 2 3 1,.bool true]:=by kernel_rfl
theorem rg17 (k:Nat):cl env (k+120) aI [aQ aU 2 3 1,(T.sl cf).nth 17]=some [aQ aU 2 3 2,.bool true]:=by kernel_rfl
theorem rg18 (k:Nat):cl env (k+120) aI [aQ aU 2 3 2,(T.sl cf).nth 18]=some [aQ aU 2 3 3,.bool true]:=by kernel_rfl
theorem rg19 (k:Nat):cl env (k+120) aI [aQ aU 2 3 3,(T.sl cf).nth 19]=some [aQ aU 2 3 4,.bool true]:=by kernel_rfl
theorem rg20 (k:Nat):cl env (k+120) aI [aQ aU 2 3 4,(T.sl cf).nth 20]=some [aQ aU 2 3 5,.bool true]:=by kernel_rfl
theorem rg21 (k:Nat):cl env (k+120) aI [aQ aU 2 3 5,(T.sl cf).nth 21]=some [aQ aU 2 3 6,.bool true]:=by kernel_rfl
theorem rg22 (k:Nat):cl env (k+120) aI [aQ aU 2 3 6,(T.sl cf).nth 22]=some [aQ aU 2 3 7,.bool true]:=by kernel_rfl
theorem rg23 (k:Nat):cl env (k+120) aI [aQ aU 2 3 7,(T.sl cf).nth 23]=some [aQ aU 2 3 8,.bool true]:=by kernel_rfl
theorem rg24 (k:Nat):cl env (k+120) aI [aQ aU 2 3 8,(T.sl cf).nth 24]=some [aQ aU 2 3 9,.bool true]:=by kernel_rfl
theorem rg25 (k:Nat):cl env (k+120) aI [aQ aU 2 3 9,(T.sl cf).nth 25]=some [aQ aU 2 3 10,.bool true]:=by kernel_rfl
theorem rg26 (k:Nat):cl env (k+120) aI [aQ aU 2 3 10,(T.sl cf).nth 26]=some [aQ aU 2 4 0,.bool true]:=by kernel_rfl
theorem rg27 (k:Nat):cl env (k+120) aI [aQ aU 2 4 0,(T.sl cf).nth 27]=some [aQ aU 2 4 1,.bool true]:=by kernel_rfl
theorem rg28 (k:Nat):cl env (k+120) aI [aQ aU 2 4 1,(T.sl cf).nth 28]=some [aQ aU 2 4 2,.bool true]:=by kernel_rfl
theorem rg29 (k:Nat):cl env (k+120) aI [aQ aU 2 4 2,(T.sl cf).nth 29]=some [aQ aU 2 4 3,.bool true]:=by kernel_rfl
theorem rg30 (k:Nat):cl env (k+120) aI [aQ aU 2 4 3,(T.sl cf).nth 30]=some [aQ aU 2 4 4,.bool true]:=by kernel_rfl
theorem rg31 (k:Nat):cl env (k+120) aI [aQ aU 2 4 4,(T.sl cf).nth 31]=some [aQ aU 2 4 5,.bool true]:=by kernel_rfl
theorem rg32 (k:Nat):cl env (k+120) aI [aQ aU 2 4 5,(T.sl cf).nth 32]=some [aQ aU 2 4 6,.bool true]:=by kernel_rfl
theorem rg33 (k:Nat):cl env (k+120) aI [aQ aU 2 4 6,(T.sl cf).nth 33]=some [aQ aU 2 4 7,.bool true]:=by kernel_rfl
theorem CU (k:Nat):cl env (k+500) qZ [.str CL]=some [.sl cf,.bool true]:=by kernel_rfl
theorem CZ (k:Nat):cl env (k+120) eA [aU]=some [.str CL]:=by kernel_rfl
end Go.Proofs.YtdcnobhlknjnoaaGreatDoor.Ra
