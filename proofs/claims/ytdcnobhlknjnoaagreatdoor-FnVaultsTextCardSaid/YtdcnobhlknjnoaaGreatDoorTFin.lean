/- FnVaultsText: Vaults have a line for each record. Proved for every input; the package-level tables that the row lists hold what the text of the program lays (tied). -/
import Derived.Test.YtdcnobhlknjnoaaGreatDoorTPl3
import Derived.Test.YtdcnobhlknjnoaaGreatDoorRows
import Derived.Test.YtdcnobhlknjnoaaGreatDoorCards
import Derived.Test.YtdcnobhlknjnoaaGreatDoorTie
import Derived.WalkKit
import Derived.ProofKit
import Derived.OpenShut
import Derived.SizedLaws
import Derived.LaidMore
import Derived.MakeChecks
import Derived.Lib.LaidTab
set_option linter.unusedSimpArgs false
set_option linter.unusedVariables false
namespace Go.Proofs.YtdcnobhlknjnoaaGreatDoor.Ra.fin
open Go Go.ChangeShapes Go.WideShapes Go.ChangeAt Go.RowKit
theorem own:ownKnob Tryz.prog.godebug=none:=by kernel_rfl
theorem lays:laidOutB Tryz.prog=true:=by kernel_rfl
def dts:List Nat:=[tz,lY]
theorem I6:Ji env dts=true:=by kernel_rfl
theorem law (t:T) (h:ee env lY t):Yields (fun k=>cl env k Xe [t]) [.bool true]:=by
 obtain ⟨es,rfl,_,h2⟩:=h.sl_inv (show env.ty lY = .sl tz from rfl)
 refine XF fun x hx=>?_
 obtain ⟨n,rfl,h3,h4⟩:=(h2 x hx).int_inv (show env.ty tz = .int .u8 from rfl)
 exact ⟨n,rfl,h3,h4⟩
def S7:List (String × DataW Unit):=Rows.fnVaultsTextRow.laid
theorem gT : Tryz.prog.globalNamed "internal/strconv.uint64pow10" = some 1 := by kernel_rfl
theorem TB:(Tryz.prog.globals[1]?).map (·.type)=some 204:=by kernel_rfl
theorem Tt:Tryz.prog.cellsOf 185=1:=by kernel_rfl
theorem Tu:Tryz.prog.cellsOf 204=20:=by kernel_rfl
theorem T6 (os:Os) (args:Array Value):laidMetH Tryz.prog S7 ((World.doorLaid Tryz.prog 400 os).forCall (fun _ _=>0) ⟨#[],args,[]⟩).memory:=
 laidMetH_of_parts3 (fuel:=8) (laidMet_of_run' 8 (by kernel_rfl) (by kernel_rfl)) (by kernel_rfl) (by kernel_rfl)
theorem TG:(Rows.laid_internal_strconv_uint64pow10:DataW Unit)=Lib.tabData .u64 Lib.pow10Tab:=by kernel_rfl
theorem Tj {W:World} (h:laidMetH Tryz.prog S7 W) : ∀b cs,(b,cs)∈env.tab→b < W.heap.size∧∀o,W.cell? ⟨b,o,none⟩=cs[o]?:=by
 have htab : Lib.TabIs Tryz.prog W "internal/strconv.uint64pow10" .u64 Lib.pow10Tab := by
  rw[MakeChecks.laidMetH_plain _ _ _ (by kernel_rfl)] at h
  obtain ⟨ps,⟨g0,t0,cs0,f0,p0,q0,hg0,ht0,hv0,hd0,⟨g1,t1,cs1,f1,p1,q1,hg1,ht1,hv1,hd1,⟨g2,t2,cs2,f2,p2,q2,hg2,ht2,hv2,hd2,_,_⟩,_⟩,_⟩,_,_⟩:=h;obtain rfl:=Option.some.inj (gT.symm.trans hg2);obtain rfl:=Option.some.inj (TB.symm.trans ht2);rw[TG] at hd2;unfold Lib.TabIs;rw[hv2,← Lib.cells_of_tab Tryz.underlying204 Tryz.underlying185 Tt Tu hd2]
 have hcell : ∀o,W.cell? ⟨1,o,none⟩=Ru[o]?:=fun o=>by
  have h1:=World.var?_cell gT htab o;rw[h1];have:(Lib.pow10Tab.map fun z=>Value.int .u64 z)=Ru:=by simp[Ru]
  rw[this];simp
 intro b cs hb;have hb':(b,cs)∈[((1:Nat),Ru)]:=hb
 simp only[List.mem_cons,List.not_mem_nil,or_false,Prod.mk.injEq] at hb';obtain ⟨rfl,rfl⟩:=hb';exact ⟨World.block_lt_of_cell? W _ (by rw[hcell 0];rfl),hcell⟩
theorem contract (H:Type) (enc:TypeId × Value→H) (W:World) (base:Nat) (args:Array Value) (ds gs:List (DataW H)) (before:List MemPlace)
  (hval : ∀(j:Nat) t v,Tryz.f6.params[j]?=some t→args[j]?=some v→Value.okWide Tryz.prog W .any base t v)
  (hW:DataW.Whole enc Tryz.prog Tryz.f6.params.toList Rows.fnVaultsTextSpec.vars false W args.toList ds gs before) (hL:laidMetH Tryz.prog S7 W) :
  Calls Tryz.prog 6 args W fun e W'=>∃v,e = .returned v∧Rows.fnVaultsTextSpec.post enc Tryz.prog Tryz.f6 false true false false W args v W':=by
 have hW':=hW;obtain ⟨p,q,hA0,hV,rfl,hfz,hnd⟩:=hW;have hA:DataW.TrodAll enc Tryz.prog W 0 (fun _=>true) true [lY] args.toList ds p:=hA0
 obtain ⟨rfl,rfl⟩:=trodVars_none hV;obtain ⟨d0,rfl⟩ : ∃d0,ds = [d0]:=by
  obtain ⟨v0,vs0,d0,ds0,p0,q0,_,rfl,_,_,r0⟩:=trodAll_cons hA;obtain ⟨_,rfl,_⟩:=trodAll_nil r0;exact ⟨d0,rfl⟩
 refine (J9 (f:=6) (fi:=fb) (bt:=Ke) (ty:=lY) (e:=tz) (ik:=.u8) (dts:=dts) prOk LG LF rfl Kx mixed I6 rfl rfl rfl rfl rfl (by decide) rfl rfl law (Tj hL) Tryz.params6 @hval hA).mono fun e W' ⟨he,bel⟩=>?_
 subst he;have back:=xA lays bel [lY] args.toList _ p (by intro t ht;simp only[List.mem_cons,List.not_mem_nil,or_false] at ht;subst ht;exact ⟨by kernel_rfl,of_decide_eq_true (by kernel_rfl)⟩) hA
 exact ⟨_,rfl,_,_,_,[],p,[],hW',trodAll_mk1 (shut_bool Tryz.underlying4 _),back,rfl,bel.frame _,fun h=>by cases h⟩
set_option maxRecDepth 100000 in
theorem lifted (os:Os) (started:os.Started) (H:Type) (enc:TypeId × Value→H) :
  ReturnsInHanded {} Tryz.checked os 6 .any (fun w args=>(Rows.fnVaultsTextSpec.pre enc Tryz.prog Tryz.f6 [] false w args∧laidMetH Tryz.prog S7 w)∧sizedMet enc Tryz.prog Tryz.f6 (OpenSpec.ofChange Rows.fnVaultsTextSpec) false w args)
   (Rows.fnVaultsTextSpec.post enc Tryz.prog Tryz.f6 false true false false):=by
 refine returnsInHanded_of_change_and (C:=Tryz.checked) (X:=fun w _=>laidMetH Tryz.prog S7 w) (fun _ _ _ hh h=>h.of_heap hh) own started (by kernel_rfl) Tryz.func6
  (ChangeSpec.witness_shaped (enc:=enc) (C:=Tryz.checked) (os:=os) (X:=fun w _=>laidMetH Tryz.prog S7 w) false (World.doorLaid Tryz.prog 400 os) #[.slice none 0 0] 8 rfl
   (World.shaped_of_RefB (by kernel_rfl) (by kernel_rfl)) (by kernel_rfl) (by kernel_rfl) (by kernel_rfl) (T6 os _)) ?_
 intro W base args ds gs before hval hW _ _ hL _;exact contract H enc W base args ds gs before @hval hW hL
theorem over:Rows.fnVaultsTextRow.holds Tryz.pinned (OpenSpec.ofChange Rows.fnVaultsTextSpec):=
 OpenClaim.holds_of_wide 6 Tryz.f6 rfl rfl rfl rfl rfl rfl rfl ⟨rfl,rfl,rfl,rfl,rfl⟩ rfl rfl rfl rfl rfl (by kernel_rfl) Tryz.func6 (by kernel_rfl)
  (of_decide_eq_true (by kernel_rfl)) (by unfold Func.isWrapper;first | (rw[if_pos (by decide +kernel)];kernel_rfl) | (rw[if_neg (by decide +kernel)];exact ⟨rfl,rfl⟩))
  (fun os started H enc _=>lifted os started H enc)
theorem proved:Rows.FnVaultsTextCardSaid:=
 Claim7.holds_tied_plain_at .later [] [.data, .data, .data] true (true, "54356b2f12819c174e28c2b34b3116cc3b1e966e9787b31501402c06f0ea126f") false
  over (fun _ h=>by cases h) (by kernel_rfl) (fun _ h=>by cases h) fnVaultsText_row_tie rfl ⟨rfl,rfl⟩ (by kernel_rfl) rfl
  (fun f fn hf hfn=>by
   obtain rfl : f = 6 := Option.some.inj ((show Tryz.prog.funcNamed "loop.example/heirlooms/laws.FnVaultsText" = some 6 by kernel_rfl).symm.trans hf) |>.symm
   obtain rfl:fn=Tryz.f6:=(Option.some.inj (Tryz.func6.symm.trans hfn)).symm;exact ⟨by kernel_rfl,fun j t ht=>by
    rw[Tryz.params6] at ht;have hm:t∈[lY]:=by simpa using Array.mem_of_getElem? ht
    have hall:([lY].all fun u=>!Tryz.prog.wantsStandIn u)=true:=by kernel_rfl
    exact (show Tryz.prog.wantsStandIn t=false by simpa using List.all_eq_true.1 hall t hm)⟩)
  (by kernel_rfl)
end Go.Proofs.YtdcnobhlknjnoaaGreatDoor.Ra.fin
namespace Go.Proofs.YtdcnobhlknjnoaaGreatDoor
theorem vaultsText_holds:Rows.FnVaultsTextCardSaid:=Ra.fin.proved
end Go.Proofs.YtdcnobhlknjnoaaGreatDoor
