/- FnShapeWritten: What is lent to write is lent by one reference alone on a way without calls. Proved for every input, without a condition. -/
import Derived.Test.YtdmgnefllclaoaaGreatLPl3
import Derived.Test.YtdmgnefllclaoaaGreatRows
import Derived.WalkKit
import Derived.ProofKit
import Derived.OpenShut
import Derived.SizedLaws
set_option linter.unusedSimpArgs false
set_option linter.unusedVariables false
namespace Go.Proofs.YtdmgnefllclaoaaGreat.Ra.fin
open Go Go.ChangeShapes Go.WideShapes Go.ChangeAt Go.RowKit
theorem own:ownKnob Tryz.prog.godebug=none:=by kernel_rfl
theorem lays:laidOutB Tryz.prog=true:=by kernel_rfl
def dts:List Nat:=[tz,lY]
theorem I6:Ji env dts=true:=by kernel_rfl
theorem law (t:T) (h:ee env lY t):Yields (fun k=>cl env k OC [t]) [.bool true]:=by
 obtain ⟨es,rfl,_,h2⟩:=h.sl_inv (show env.ty lY = .sl tz from rfl)
 refine Qg fun x hx=>?_
 obtain ⟨n,rfl,h3,h4⟩:=(h2 x hx).int_inv (show env.ty tz = .int .u8 from rfl)
 exact ⟨n,rfl,h3,h4⟩
theorem contract (H:Type) (enc:TypeId × Value→H) (W:World) (base:Nat) (args:Array Value) (ds gs:List (DataW H)) (before:List MemPlace)
  (hval : ∀(j:Nat) t v,Tryz.f4.params[j]?=some t→args[j]?=some v→Value.okWide Tryz.prog W .any base t v)
  (hW:DataW.Whole enc Tryz.prog Tryz.f4.params.toList Rows.fnShapeWrittenSpec.vars false W args.toList ds gs before) :
  Calls Tryz.prog 4 args W fun e W'=>∃v,e = .returned v∧Rows.fnShapeWrittenSpec.post enc Tryz.prog Tryz.f4 false true false false W args v W':=by
 have hW':=hW;obtain ⟨p,q,hA0,hV,rfl,hfz,hnd⟩:=hW;have hA:DataW.TrodAll enc Tryz.prog W 0 (fun _=>true) true [lY] args.toList ds p:=hA0
 obtain ⟨rfl,rfl⟩:=trodVars_none hV;obtain ⟨d0,rfl⟩ : ∃d0,ds = [d0]:=by
  obtain ⟨v0,vs0,d0,ds0,p0,q0,_,rfl,_,_,r0⟩:=trodAll_cons hA;obtain ⟨_,rfl,_⟩:=trodAll_nil r0;exact ⟨d0,rfl⟩
 refine (J9 (f:=4) (fi:=Oz) (bt:=Ke) (ty:=lY) (e:=tz) (ik:=.u8) (dts:=dts) prOk LG LF rfl Kx mixed I6 rfl rfl rfl rfl rfl (by decide) rfl rfl law (fun b cs h=>by cases h) Tryz.params4 @hval hA).mono fun e W' ⟨he,bel⟩=>?_
 subst he;have back:=xA lays bel [lY] args.toList _ p (by intro t ht;simp only[List.mem_cons,List.not_mem_nil,or_false] at ht;subst ht;exact ⟨by kernel_rfl,of_decide_eq_true (by kernel_rfl)⟩) hA
 exact ⟨_,rfl,_,_,_,[],p,[],hW',trodAll_mk1 (shut_bool Tryz.underlying4 _),back,rfl,bel.frame _,fun h=>by cases h⟩
set_option maxRecDepth 100000 in
theorem lifted (os:Os) (started:os.Started) (H:Type) (enc:TypeId × Value→H) :
  ReturnsInHanded {} Tryz.checked os 4 .any (Rows.fnShapeWrittenSpec.pre6 enc Tryz.prog Tryz.f4 Rows.fnShapeWrittenRow.domain false) (Rows.fnShapeWrittenSpec.post enc Tryz.prog Tryz.f4 false true false false):=by
 refine returnsInHanded_of_change_sized (C:=Tryz.checked) own started (by kernel_rfl) Tryz.func4
  (ChangeSpec.witness6 (enc:=enc) (C:=Tryz.checked) false ⟨#[],#[.slice none 0 0],[]⟩ 8 (by kernel_rfl) (by kernel_rfl) (by kernel_rfl) (by kernel_rfl)) ?_
 intro W base args ds gs before hval hW _ _ _;exact contract H enc W base args ds gs before @hval hW
theorem over:Rows.fnShapeWrittenRow.holds Tryz.pinned (OpenSpec.ofChange Rows.fnShapeWrittenSpec):=
 OpenClaim.holds_of_wide 4 Tryz.f4 rfl rfl rfl rfl rfl rfl rfl ⟨rfl,rfl,rfl,rfl,rfl⟩ rfl rfl rfl rfl rfl (by kernel_rfl) Tryz.func4 (by kernel_rfl)
  (of_decide_eq_true (by kernel_rfl)) (by unfold Func.isWrapper;first | (rw[if_pos (by decide +kernel)];kernel_rfl) | (rw[if_neg (by decide +kernel)];exact ⟨rfl,rfl⟩))
  (fun os started H enc _=>lifted os started H enc)
theorem proved:Rows.FnShapeWrittenSaid:=over
end Go.Proofs.YtdmgnefllclaoaaGreat.Ra.fin
namespace Go.Proofs.YtdmgnefllclaoaaGreat
theorem shapeWritten_holds:Rows.FnShapeWrittenSaid:=Ra.fin.proved
end Go.Proofs.YtdmgnefllclaoaaGreat
