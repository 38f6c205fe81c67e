/- Each function as a readable term. Written by gen.py. -/
import Derived.Test.YtmhjjanaackknaaPEq0
set_option linter.unusedSimpArgs false
set_option linter.unusedVariables false
namespace Go.Proofs.Ytmhjjanaackknaa.Ra
open Go
theorem y_slices_IndexFunc_impl_Kept_0 (x1 : T) (x2 : T) (x3 : T) (x4 : T) {r : List T} (h : Yields (fun k => b_slices_IndexFunc_impl_Kept_0 (hl env k fi_slices_IndexFunc_impl_Kept) (cl env k) x1 x2 x3 x4) r) : Yields (fun k => l_slices_IndexFunc_impl_Kept_0 (hl env k fi_slices_IndexFunc_impl_Kept) x1 x2 x3 x4) r := Yields.head (fun H C => q_slices_IndexFunc_impl_Kept_0 H C x1 x2 x3 x4) h
/- loop.example/heirlooms/impl.vaultAt$1 -/
noncomputable abbrev b_impl_vaultAt_1 (H : List Item → CS → R) (C : CallsE) (a0 a1 a2 : T) : R :=
 bif ((a0.fld 0).i == a1.i) then
 some [(T.bool ((((a0.fld 1).fld 0).s).toList == a2.s.toList))]
 else
 some [(T.bool false)]
theorem e_impl_vaultAt_1 (H : List Item → CS → R) (C : CallsE) (a0 a1 a2 : T) : enterE fi_impl_vaultAt_1 env H C [a0, a1, a2] =
 bif ((!(((a0.fld 0).i == a1.i) == true)) || true) then
 bif ((!(((a0.fld 0).i == a1.i) == true)) || (((a0.fld 0).i == a1.i) == true)) then
 bif ((!(((a0.fld 0).i == a1.i) == true)) || (((a0.fld 0).i == a1.i) == true)) then
 bif ((!(((a0.fld 0).i == a1.i) == true)) || true) then
 bif ((!(((a0.fld 0).i == a1.i) == true)) || (((((a0.fld 0).i == a1.i) == true) && (((a0.fld 0).i == a1.i) == true)) && true)) then
 bif (bif ((a0.fld 0).i == a1.i) then (((a0.fld 0).i == a1.i) == true) else true) then
 some [(bif ((a0.fld 0).i == a1.i) then (T.bool ((((a0.fld 1).fld 0).s).toList == a2.s.toList)) else (T.bool false))]
 else
 none
 else
 none
 else
 none
 else
 none
 else
 none
 else
 none := by kernel_rfl
theorem q_impl_vaultAt_1 (H : List Item → CS → R) (C : CallsE) (a0 a1 a2 : T) : enterE fi_impl_vaultAt_1 env H C [a0, a1, a2] = b_impl_vaultAt_1 H C a0 a1 a2 := by
 refine (e_impl_vaultAt_1 H C a0 a1 a2).trans ?_
 unfold b_impl_vaultAt_1
 all_goals cases hc : (((a0.fld 0).i == a1.i)) with
 | true =>
  try simp only [bs]
  all_goals kernel_rfl
 | false =>
  try simp only [bs]
  all_goals kernel_rfl
theorem y_impl_vaultAt_1 (a0 a1 a2 : T) {r : List T} (h : Yields (fun k => b_impl_vaultAt_1 (hl env k fi_impl_vaultAt_1) (cl env k) a0 a1 a2) r) : Yields (fun k => cl env k F_impl_vaultAt_1 [a0, a1, a2]) r := Yields.call (fi := fi_impl_vaultAt_1) rfl (fun H C => q_impl_vaultAt_1 H C a0 a1 a2) h
/- loop.example/heirlooms/impl.copyInts -/
noncomputable abbrev b_impl_copyInts (H : List Item → CS → R) (C : CallsE) (a0 : T) : R :=
 bif (decide (([] : List T).length + a0.es.length ≤ LIM)) then
 obind (C F_slices_Clip_int [(T.sl (([] : List T) ++ a0.es))]) fun r1 =>
 some [(T.sl (((([] : List T) ++ a0.es).take ((([] : List T) ++ a0.es).length)).drop 0))]
 else
 none
theorem q_impl_copyInts (H : List Item → CS → R) (C : CallsE) (a0 : T) : enterE fi_impl_copyInts env H C [a0] = b_impl_copyInts H C a0 := by kernel_rfl
theorem y_impl_copyInts (a0 : T) {r : List T} (h : Yields (fun k => b_impl_copyInts (hl env k fi_impl_copyInts) (cl env k) a0) r) : Yields (fun k => cl env k F_impl_copyInts [a0]) r := Yields.call (fi := fi_impl_copyInts) rfl (fun H C => q_impl_copyInts H C a0) h
/- slices.Clip[[]loop.example/heirlooms/impl.Value,loop.example/heirlooms/impl.Value] -/
noncomputable abbrev b_slices_Clip_impl_Value (H : List Item → CS → R) (C : CallsE) (a0 : T) : R :=
 bif (decide (0 ≤ (0 : Int)) && (decide ((0 : Int) ≤ (a0.es.length : Int)) && (decide ((a0.es.length : Int) ≤ (a0.es.length : Int)) && decide ((a0.es.length : Int) ≤ (a0.es.length : Int))))) then
 some [(T.sl ((a0.es.take a0.es.length).drop 0))]
 else
 none
theorem q_slices_Clip_impl_Value (H : List Item → CS → R) (C : CallsE) (a0 : T) : enterE fi_slices_Clip_impl_Value env H C [a0] = b_slices_Clip_impl_Value H C a0 := by kernel_rfl
theorem y_slices_Clip_impl_Value (a0 : T) {r : List T} (h : Yields (fun k => b_slices_Clip_impl_Value (hl env k fi_slices_Clip_impl_Value) (cl env k) a0) r) : Yields (fun k => cl env k F_slices_Clip_impl_Value [a0]) r := Yields.call (fi := fi_slices_Clip_impl_Value) rfl (fun H C => q_slices_Clip_impl_Value H C a0) h
noncomputable def l_laws_markStringS_0 (H : List Item → CS → R) (x1 : T) (x2 : T) (x3 : T) : R := H (hdAt fi_laws_markStringS.body 0) ([(0, .sref 90 100000 []), (1, .val 3 x1), (5, .val 3 x2)], [(100000, ⟨90, x3, .dp, false⟩)])
/- loop.example/heirlooms/laws.markStringS -/
noncomputable abbrev b_laws_markStringS (H : List Item → CS → R) (C : CallsE) (a0 a1 : T) : R :=
 l_laws_markStringS_0 H a1 (T.int (0 : Int)) a0
theorem q_laws_markStringS (H : List Item → CS → R) (C : CallsE) (a0 a1 : T) : enterE fi_laws_markStringS env H C [a0, a1] = b_laws_markStringS H C a0 a1 := by kernel_rfl
theorem y_laws_markStringS (a0 a1 : T) {r : List T} (h : Yields (fun k => b_laws_markStringS (hl env k fi_laws_markStringS) (cl env k) a0 a1) r) : Yields (fun k => cl env k F_laws_markStringS [a0, a1]) r := Yields.call (fi := fi_laws_markStringS) rfl (fun H C => q_laws_markStringS H C a0 a1) h
noncomputable abbrev b_laws_markStringS_0 (H : List Item → CS → R) (C : CallsE) (x1 : T) (x2 : T) (x3 : T) : R :=
 bif (decide (x2.i < (x3.es.length : Int))) then
 obind (C F_laws_markText [x1]) fun r1 =>
 bif (decide (0 ≤ x2.i) && decide (x2.i.toNat < x3.es.length)) then
 l_laws_markStringS_0 H (T.int (IntKind.wrap .i64 (x1.i + (1 : Int)))) (T.int (IntKind.wrap .i64 (x2.i + (1 : Int)))) (T.sl (x3.es.set x2.i.toNat (rt r1 0)))
 else
 none
 else
 some [x1, x3]
theorem q_laws_markStringS_0 (H : List Item → CS → R) (C : CallsE) (x1 : T) (x2 : T) (x3 : T) : headE fi_laws_markStringS env H C (hdAt fi_laws_markStringS.body 0) ([(0, .sref 90 100000 []), (1, .val 3 x1), (5, .val 3 x2)], [(100000, ⟨90, x3, .dp, false⟩)]) = b_laws_markStringS_0 H C x1 x2 x3 := by kernel_rfl
theorem y_laws_markStringS_0 (x1 : T) (x2 : T) (x3 : T) {r : List T} (h : Yields (fun k => b_laws_markStringS_0 (hl env k fi_laws_markStringS) (cl env k) x1 x2 x3) r) : Yields (fun k => l_laws_markStringS_0 (hl env k fi_laws_markStringS) x1 x2 x3) r := Yields.head (fun H C => q_laws_markStringS_0 H C x1 x2 x3) h
noncomputable def l_spec_l2Ok_0 (H : List Item → CS → R) (x1 : T) (x2 : T) (x3 : T) (x4 : T) (x5 : T) : R := H (hdAt fi_spec_l2Ok.body 0) ([(0, .val 27 x1), (3, .pref 37 3 []), (5, .val 3 x2), (6, .val 3 x3), (8, .val 3 x4)], [(3, ⟨37, x5, .fz, true⟩)])
/- loop.example/heirlooms/spec.l2Ok -/
noncomputable abbrev b_spec_l2Ok (H : List Item → CS → R) (C : CallsE) (a0 a1 : T) : R :=
 bif (((a1.fld 0).s).toList == (⟨#[110]⟩ : ByteArray).toList) then
 obind (C F_spec_l2Plain [a1]) fun r1 =>
 bif (rt r1 0).b then
 obind (C F_spec_l6In [(a1.fld 1), (T.int (0 : Int)), (T.int (1000000 : Int))]) fun r2 =>
 some [(rt r2 0)]
 else
 some [(T.bool false)]
 else
 bif (((a1.fld 0).s).toList == (⟨#[98]⟩ : ByteArray).toList) then
 obind (C F_spec_l2Plain [a1]) fun r1 =>
 bif (rt r1 0).b then
 obind (C F_spec_l6In [(a1.fld 1), (T.int (0 : Int)), (T.int (1 : Int))]) fun r2 =>
 some [(rt r2 0)]
 else
 some [(T.bool false)]
 else
 bif (((a1.fld 0).s).toList == (⟨#[111]⟩ : ByteArray).toList) then
 obind (C F_spec_l2Plain [a1]) fun r1 =>
 bif (rt r1 0).b then
 obind (C F_spec_l6In [(a1.fld 1), (T.int (0 : Int)), (T.int (3 : Int))]) fun r2 =>
 some [(rt r2 0)]
 else
 some [(T.bool false)]
 else
 obind (C F_spec_l1Kind [(a1.fld 0)]) fun r1 =>
 bif (!(rt r1 2).b) then
 some [(T.bool false)]
 else
 obind (C F_spec_l1Has [a0, (rt r1 0), (rt r1 1)]) fun r2 =>
 bif (!(rt r2 0).b) then
 some [(T.bool false)]
 else
 bif ((a1.fld 1).i != (0 : Int)) then
 some [(T.bool false)]
 else
 bif (decide ((((a1.fld 3).es).length : Int) > (0 : Int))) then
 some [(T.bool false)]
 else
 bif (decide (0 ≤ (rt r1 0).i) && decide (((rt r1 0).i).toNat < a0.es.length)) then
 bif (decide (0 ≤ (rt r1 1).i) && decide (((rt r1 1).i).toNat < ((a0.nth (((rt r1 0).i).toNat)).es).length)) then
 bif ((((a1.fld 2).es).length : Int) != (((((a0.nth (((rt r1 0).i).toNat)).nth (((rt r1 1).i).toNat)).fld 1).es).length : Int)) then
 some [(T.bool false)]
 else
 l_spec_l2Ok_0 H a0 (rt r1 0) (rt r1 1) (T.int (0 : Int)) a1
 else
 none
 else
 none
theorem e_spec_l2Ok (H : List Item → CS → R) (C : CallsE) (a0 a1 : T) : enterE fi_spec_l2Ok env H C [a0, a1] =
 bif (((a1.fld 0).s).toList == (⟨#[110]⟩ : ByteArray).toList) then
 obind (C F_spec_l2Plain [a1]) fun r1 =>
 bif ((!((rt r1 0).b == true)) || true) then
 bif ((!((rt r1 0).b == true)) || ((rt r1 0).b == true)) then
 bif ((!((rt r1 0).b == true)) || (((rt r1 0).b == true) && true)) then
 obind ((bif ((rt r1 0).b == true) then C F_spec_l6In [(a1.fld 1), (T.int (0 : Int)), (T.int (1000000 : Int))] else some [])) fun r2 =>
 bif (bif (rt r1 0).b then ((rt r1 0).b == true) else true) then
 some [(bif (rt r1 0).b then (rt r2 0) else (T.bool false))]
 else
 none
 else
 none
 else
 none
 else
 none
 else
 bif (((a1.fld 0).s).toList == (⟨#[98]⟩ : ByteArray).toList) then
 obind (C F_spec_l2Plain [a1]) fun r3 =>
 bif ((!((rt r3 0).b == true)) || true) then
 bif ((!((rt r3 0).b == true)) || ((rt r3 0).b == true)) then
 bif ((!((rt r3 0).b == true)) || (((rt r3 0).b == true) && true)) then
 obind ((bif ((rt r3 0).b == true) then C F_spec_l6In [(a1.fld 1), (T.int (0 : Int)), (T.int (1 : Int))] else some [])) fun r4 =>
 bif (bif (rt r3 0).b then ((rt r3 0).b == true) else true) then
 some [(bif (rt r3 0).b then (rt r4 0) else (T.bool false))]
 else
 none
 else
 none
 else
 none
 else
 none
 else
 bif (((a1.fld 0).s).toList == (⟨#[111]⟩ : ByteArray).toList) then
 obind (C F_spec_l2Plain [a1]) fun r5 =>
 bif ((!((rt r5 0).b == true)) || true) then
 bif ((!((rt r5 0).b == true)) || ((rt r5 0).b == true)) then
 bif ((!((rt r5 0).b == true)) || (((rt r5 0).b == true) && true)) then
 obind ((bif ((rt r5 0).b == true) then C F_spec_l6In [(a1.fld 1), (T.int (0 : Int)), (T.int (3 : Int))] else some [])) fun r6 =>
 bif (bif (rt r5 0).b then ((rt r5 0).b == true) else true) then
 some [(bif (rt r5 0).b then (rt r6 0) else (T.bool false))]
 else
 none
 else
 none
 else
 none
 else
 none
 else
 obind (C F_spec_l1Kind [(a1.fld 0)]) fun r7 =>
 bif ((!((!(rt r7 2).b) == false)) || true) then
 bif ((!((!(rt r7 2).b) == false)) || true) then
 bif ((!((!(rt r7 2).b) == false)) || true) then
 bif ((!((!(rt r7 2).b) == false)) || (((!(rt r7 2).b) == false) && (((!(rt r7 2).b) == false) && (((!(rt r7 2).b) == false) && true)))) then
 obind ((bif ((!(rt r7 2).b) == false) then C F_spec_l1Has [a0, (rt r7 0), (rt r7 1)] else some [])) fun r8 =>
 bif ((!((!(rt r7 2).b) == false)) || ((!(rt r7 2).b) == false)) then
 bif (bif (!(rt r7 2).b) then true else ((!(rt r7 2).b) == false)) then
 bif ((!((bif (!(rt r7 2).b) then (T.bool true) else (T.bool (!(rt r8 0).b))).b == false)) || true) then
 bif ((!((bif (!(rt r7 2).b) then (T.bool true) else (T.bool (!(rt r8 0).b))).b == false)) || ((bif (!(rt r7 2).b) then (T.bool true) else (T.bool (!(rt r8 0).b))).b == false)) then
 bif ((!((bif (!(rt r7 2).b) then (T.bool true) else (T.bool (!(rt r8 0).b))).b == false)) || ((((bif (!(rt r7 2).b) then (T.bool true) else (T.bool (!(rt r8 0).b))).b == false) && true) && true)) then
 bif (bif (bif (!(rt r7 2).b) then (T.bool true) else (T.bool (!(rt r8 0).b))).b then true else ((bif (!(rt r7 2).b) then (T.bool true) else (T.bool (!(rt r8 0).b))).b == false)) then
 bif ((!((bif (bif (!(rt r7 2).b) then (T.bool true) else (T.bool (!(rt r8 0).b))).b then (T.bool true) else (T.bool ((a1.fld 1).i != (0 : Int)))).b == false)) || true) then
 bif ((!((bif (bif (!(rt r7 2).b) then (T.bool true) else (T.bool (!(rt r8 0).b))).b then (T.bool true) else (T.bool ((a1.fld 1).i != (0 : Int)))).b == false)) || ((bif (bif (!(rt r7 2).b) then (T.bool true) else (T.bool (!(rt r8 0).b))).b then (T.bool true) else (T.bool ((a1.fld 1).i != (0 : Int)))).b == false)) then
 bif ((!((bif (bif (!(rt r7 2).b) then (T.bool true) else (T.bool (!(rt r8 0).b))).b then (T.bool true) else (T.bool ((a1.fld 1).i != (0 : Int)))).b == false)) || ((bif (bif (!(rt r7 2).b) then (T.bool true) else (T.bool (!(rt r8 0).b))).b then (T.bool true) else (T.bool ((a1.fld 1).i != (0 : Int)))).b == false)) then
 bif ((!((bif (bif (!(rt r7 2).b) then (T.bool true) else (T.bool (!(rt r8 0).b))).b then (T.bool true) else (T.bool ((a1.fld 1).i != (0 : Int)))).b == false)) || ((((bif (bif (!(rt r7 2).b) then (T.bool true) else (T.bool (!(rt r8 0).b))).b then (T.bool true) else (T.bool ((a1.fld 1).i != (0 : Int)))).b == false) && true) && true)) then
 bif (bif (bif (bif (!(rt r7 2).b) then (T.bool true) else (T.bool (!(rt r8 0).b))).b then (T.bool true) else (T.bool ((a1.fld 1).i != (0 : Int)))).b then true else ((bif (bif (!(rt r7 2).b) then (T.bool true) else (T.bool (!(rt r8 0).b))).b then (T.bool true) else (T.bool ((a1.fld 1).i != (0 : Int)))).b == false)) then
 bif ((!((bif (bif (bif (!(rt r7 2).b) then (T.bool true) else (T.bool (!(rt r8 0).b))).b then (T.bool true) else (T.bool ((a1.fld 1).i != (0 : Int)))).b then (T.bool true) else (T.bool (decide ((((a1.fld 3).es).length : Int) > (0 : Int))))).b == false)) || true) then
 bif ((!((bif (bif (bif (!(rt r7 2).b) then (T.bool true) else (T.bool (!(rt r8 0).b))).b then (T.bool true) else (T.bool ((a1.fld 1).i != (0 : Int)))).b then (T.bool true) else (T.bool (decide ((((a1.fld 3).es).length : Int) > (0 : Int))))).b == false)) || ((bif (bif (bif (!(rt r7 2).b) then (T.bool true) else (T.bool (!(rt r8 0).b))).b then (T.bool true) else (T.bool ((a1.fld 1).i != (0 : Int)))).b then (T.bool true) else (T.bool (decide ((((a1.fld 3).es).length : Int) > (0 : Int))))).b == false)) then
 bif ((!((bif (bif (bif (!(rt r7 2).b) then (T.bool true) else (T.bool (!(rt r8 0).b))).b then (T.bool true) else (T.bool ((a1.fld 1).i != (0 : Int)))).b then (T.bool true) else (T.bool (decide ((((a1.fld 3).es).length : Int) > (0 : Int))))).b == false)) || ((bif (bif (bif (!(rt r7 2).b) then (T.bool true) else (T.bool (!(rt r8 0).b))).b then (T.bool true) else (T.bool ((a1.fld 1).i != (0 : Int)))).b then (T.bool true) else (T.bool (decide ((((a1.fld 3).es).length : Int) > (0 : Int))))).b == false)) then
 bif ((!((bif (bif (bif (!(rt r7 2).b) then (T.bool true) else (T.bool (!(rt r8 0).b))).b then (T.bool true) else (T.bool ((a1.fld 1).i != (0 : Int)))).b then (T.bool true) else (T.bool (decide ((((a1.fld 3).es).length : Int) > (0 : Int))))).b == false)) || true) then
 bif ((!((bif (bif (bif (!(rt r7 2).b) then (T.bool true) else (T.bool (!(rt r8 0).b))).b then (T.bool true) else (T.bool ((a1.fld 1).i != (0 : Int)))).b then (T.bool true) else (T.bool (decide ((((a1.fld 3).es).length : Int) > (0 : Int))))).b == false)) || true) then
 bif ((!((bif (bif (bif (!(rt r7 2).b) then (T.bool true) else (T.bool (!(rt r8 0).b))).b then (T.bool true) else (T.bool ((a1.fld 1).i != (0 : Int)))).b then (T.bool true) else (T.bool (decide ((((a1.fld 3).es).length : Int) > (0 : Int))))).b == false)) || ((((bif (bif (bif (!(rt r7 2).b) then (T.bool true) else (T.bool (!(rt r8 0).b))).b then (T.bool true) else (T.bool ((a1.fld 1).i != (0 : Int)))).b then (T.bool true) else (T.bool (decide ((((a1.fld 3).es).length : Int) > (0 : Int))))).b == false) && (((bif (bif (bif (!(rt r7 2).b) then (T.bool true) else (T.bool (!(rt r8 0).b))).b then (T.bool true) else (T.bool ((a1.fld 1).i != (0 : Int)))).b then (T.bool true) else (T.bool (decide ((((a1.fld 3).es).length : Int) > (0 : Int))))).b == false) && true)) && (decide (0 ≤ (rt r7 0).i) && decide (((rt r7 0).i).toNat < a0.es.length)))) then
 bif ((!((bif (bif (bif (!(rt r7 2).b) then (T.bool true) else (T.bool (!(rt r8 0).b))).b then (T.bool true) else (T.bool ((a1.fld 1).i != (0 : Int)))).b then (T.bool true) else (T.bool (decide ((((a1.fld 3).es).length : Int) > (0 : Int))))).b == false)) || ((bif (bif (bif (!(rt r7 2).b) then (T.bool true) else (T.bool (!(rt r8 0).b))).b then (T.bool true) else (T.bool ((a1.fld 1).i != (0 : Int)))).b then (T.bool true) else (T.bool (decide ((((a1.fld 3).es).length : Int) > (0 : Int))))).b == false)) then
 bif ((!((bif (bif (bif (!(rt r7 2).b) then (T.bool true) else (T.bool (!(rt r8 0).b))).b then (T.bool true) else (T.bool ((a1.fld 1).i != (0 : Int)))).b then (T.bool true) else (T.bool (decide ((((a1.fld 3).es).length : Int) > (0 : Int))))).b == false)) || true) then
 bif ((!((bif (bif (bif (!(rt r7 2).b) then (T.bool true) else (T.bool (!(rt r8 0).b))).b then (T.bool true) else (T.bool ((a1.fld 1).i != (0 : Int)))).b then (T.bool true) else (T.bool (decide ((((a1.fld 3).es).length : Int) > (0 : Int))))).b == false)) || ((((bif (bif (bif (!(rt r7 2).b) then (T.bool true) else (T.bool (!(rt r8 0).b))).b then (T.bool true) else (T.bool ((a1.fld 1).i != (0 : Int)))).b then (T.bool true) else (T.bool (decide ((((a1.fld 3).es).length : Int) > (0 : Int))))).b == false) && (((bif (bif (bif (!(rt r7 2).b) then (T.bool true) else (T.bool (!(rt r8 0).b))).b then (T.bool true) else (T.bool ((a1.fld 1).i != (0 : Int)))).b then (T.bool true) else (T.bool (decide ((((a1.fld 3).es).length : Int) > (0 : Int))))).b == false) && true)) && (decide (0 ≤ (rt r7 1).i) && decide (((rt r7 1).i).toNat < ((a0.nth (((rt r7 0).i).toNat)).es).length)))) then
 bif ((!((bif (bif (bif (!(rt r7 2).b) then (T.bool true) else (T.bool (!(rt r8 0).b))).b then (T.bool true) else (T.bool ((a1.fld 1).i != (0 : Int)))).b then (T.bool true) else (T.bool (decide ((((a1.fld 3).es).length : Int) > (0 : Int))))).b == false)) || ((bif (bif (bif (!(rt r7 2).b) then (T.bool true) else (T.bool (!(rt r8 0).b))).b then (T.bool true) else (T.bool ((a1.fld 1).i != (0 : Int)))).b then (T.bool true) else (T.bool (decide ((((a1.fld 3).es).length : Int) > (0 : Int))))).b == false)) then
 bif ((!((bif (bif (bif (!(rt r7 2).b) then (T.bool true) else (T.bool (!(rt r8 0).b))).b then (T.bool true) else (T.bool ((a1.fld 1).i != (0 : Int)))).b then (T.bool true) else (T.bool (decide ((((a1.fld 3).es).length : Int) > (0 : Int))))).b == false)) || ((bif (bif (bif (!(rt r7 2).b) then (T.bool true) else (T.bool (!(rt r8 0).b))).b then (T.bool true) else (T.bool ((a1.fld 1).i != (0 : Int)))).b then (T.bool true) else (T.bool (decide ((((a1.fld 3).es).length : Int) > (0 : Int))))).b == false)) then
 bif ((!((bif (bif (bif (!(rt r7 2).b) then (T.bool true) else (T.bool (!(rt r8 0).b))).b then (T.bool true) else (T.bool ((a1.fld 1).i != (0 : Int)))).b then (T.bool true) else (T.bool (decide ((((a1.fld 3).es).length : Int) > (0 : Int))))).b == false)) || ((bif (bif (bif (!(rt r7 2).b) then (T.bool true) else (T.bool (!(rt r8 0).b))).b then (T.bool true) else (T.bool ((a1.fld 1).i != (0 : Int)))).b then (T.bool true) else (T.bool (decide ((((a1.fld 3).es).length : Int) > (0 : Int))))).b == false)) then
 bif ((!((bif (bif (bif (!(rt r7 2).b) then (T.bool true) else (T.bool (!(rt r8 0).b))).b then (T.bool true) else (T.bool ((a1.fld 1).i != (0 : Int)))).b then (T.bool true) else (T.bool (decide ((((a1.fld 3).es).length : Int) > (0 : Int))))).b == false)) || ((((bif (bif (bif (!(rt r7 2).b) then (T.bool true) else (T.bool (!(rt r8 0).b))).b then (T.bool true) else (T.bool ((a1.fld 1).i != (0 : Int)))).b then (T.bool true) else (T.bool (decide ((((a1.fld 3).es).length : Int) > (0 : Int))))).b == false) && ((bif (bif (bif (!(rt r7 2).b) then (T.bool true) else (T.bool (!(rt r8 0).b))).b then (T.bool true) else (T.bool ((a1.fld 1).i != (0 : Int)))).b then (T.bool true) else (T.bool (decide ((((a1.fld 3).es).length : Int) > (0 : Int))))).b == false)) && true)) then
 bif (bif (bif (bif (bif (!(rt r7 2).b) then (T.bool true) else (T.bool (!(rt r8 0).b))).b then (T.bool true) else (T.bool ((a1.fld 1).i != (0 : Int)))).b then (T.bool true) else (T.bool (decide ((((a1.fld 3).es).length : Int) > (0 : Int))))).b then true else ((bif (bif (bif (!(rt r7 2).b) then (T.bool true) else (T.bool (!(rt r8 0).b))).b then (T.bool true) else (T.bool ((a1.fld 1).i != (0 : Int)))).b then (T.bool true) else (T.bool (decide ((((a1.fld 3).es).length : Int) > (0 : Int))))).b == false)) then
 bif (bif (bif (bif (bif (!(rt r7 2).b) then (T.bool true) else (T.bool (!(rt r8 0).b))).b then (T.bool true) else (T.bool ((a1.fld 1).i != (0 : Int)))).b then (T.bool true) else (T.bool (decide ((((a1.fld 3).es).length : Int) > (0 : Int))))).b then (T.bool true) else (T.bool ((((a1.fld 2).es).length : Int) != (((((a0.nth (((rt r7 0).i).toNat)).nth (((rt r7 1).i).toNat)).fld 1).es).length : Int)))).b then
 some [(T.bool false)]
 else
 l_spec_l2Ok_0 H a0 (rt r7 0) (rt r7 1) (T.int (0 : Int)) a1
 else
 none
 else
 none
 else
 none
 else
 none
 else
 none
 else
 none
 else
 none
 else
 none
 else
 none
 else
 none
 else
 none
 else
 none
 else
 none
 else
 none
 else
 none
 else
 none
 else
 none
 else
 none
 else
 none
 else
 none
 else
 none
 else
 none
 else
 none
 else
 none
 else
 none
 else
 none
 else
 none
 else
 none
 else
 none := by kernel_rfl
theorem q_spec_l2Ok (H : List Item → CS → R) (C : CallsE) (a0 a1 : T) : enterE fi_spec_l2Ok env H C [a0, a1] = b_spec_l2Ok H C a0 a1 := by
 refine (e_spec_l2Ok H C a0 a1).trans ?_
 unfold b_spec_l2Ok
 all_goals cases hc : ((((a1.fld 0).s).toList == (⟨#[110]⟩ : ByteArray).toList)) with
 | true =>
  try simp only [bs]
  all_goals refine obind_congr fun r1 => ?_
  all_goals try simp only [bs]
  all_goals cases hc : ((rt r1 0).b) with
  | true =>
   try simp only [bs]
   all_goals refine obind_congr fun r2 => ?_
   all_goals try simp only [bs]
   all_goals kernel_rfl
  | false =>
   try simp only [bs]
   all_goals kernel_rfl
 | false =>
  try simp only [bs]
  all_goals cases hc : ((((a1.fld 0).s).toList == (⟨#[98]⟩ : ByteArray).toList)) with
  | true =>
   try simp only [bs]
   all_goals refine obind_congr fun r1 => ?_
   all_goals try simp only [bs]
   all_goals cases hc : ((rt r1 0).b) with
   | true =>
    try simp only [bs]
    all_goals refine obind_congr fun r2 => ?_
    all_goals try simp only [bs]
    all_goals kernel_rfl
   | false =>
    try simp only [bs]
    all_goals kernel_rfl
  | false =>
   try simp only [bs]
   all_goals cases hc : ((((a1.fld 0).s).toList == (⟨#[111]⟩ : ByteArray).toList)) with
   | true =>
    try simp only [bs]
    all_goals refine obind_congr fun r1 => ?_
    all_goals try simp only [bs]
    all_goals cases hc : ((rt r1 0).b) with
    | true =>
     try simp only [bs]
     all_goals refine obind_congr fun r2 => ?_
     all_goals try simp only [bs]
     all_goals kernel_rfl
    | false =>
     try simp only [bs]
     all_goals kernel_rfl
   | false =>
    try simp only [bs]
    all_goals refine obind_congr fun r1 => ?_
    all_goals try simp only [bs]
    all_goals cases hc : ((!(rt r1 2).b)) with
    | true =>
     try simp only [bs]
     all_goals kernel_rfl
    | false =>
     try simp only [bs]
     all_goals refine obind_congr fun r2 => ?_
     all_goals try simp only [bs]
     all_goals cases hc : ((!(rt r2 0).b)) with
     | true =>
      try simp only [bs]
      all_goals kernel_rfl
     | false =>
      try simp only [bs]
      all_goals cases hc : (((a1.fld 1).i != (0 : Int))) with
      | true =>
       try simp only [bs]
       all_goals kernel_rfl
      | false =>
       try simp only [bs]
       all_goals cases hc : ((decide ((((a1.fld 3).es).length : Int) > (0 : Int)))) with
       | true =>
        try simp only [bs]
        all_goals kernel_rfl
       | false =>
        try simp only [bs]
        all_goals cases hc : ((decide (0 ≤ (rt r1 0).i) && decide (((rt r1 0).i).toNat < a0.es.length))) with
        | true =>
         try simp only [bs]
         all_goals cases hc : ((decide (0 ≤ (rt r1 1).i) && decide (((rt r1 1).i).toNat < ((a0.nth (((rt r1 0).i).toNat)).es).length))) with
         | true =>
          try simp only [bs]
          all_goals cases hc : (((((a1.fld 2).es).length : Int) != (((((a0.nth (((rt r1 0).i).toNat)).nth (((rt r1 1).i).toNat)).fld 1).es).length : Int))) with
          | true =>
           try simp only [bs]
           all_goals kernel_rfl
          | false =>
           try simp only [bs]
           all_goals kernel_rfl
         | false =>
          try simp only [bs]
          all_goals kernel_rfl
        | false =>
         try simp only [bs]
         all_goals kernel_rfl
theorem y_spec_l2Ok (a0 a1 : T) {r : List T} (h : Yields (fun k => b_spec_l2Ok (hl env k fi_spec_l2Ok) (cl env k) a0 a1) r) : Yields (fun k => cl env k F_spec_l2Ok [a0, a1]) r := Yields.call (fi := fi_spec_l2Ok) rfl (fun H C => q_spec_l2Ok H C a0 a1) h
noncomputable abbrev b_spec_l2Ok_0 (H : List Item → CS → R) (C : CallsE) (x1 : T) (x2 : T) (x3 : T) (x4 : T) (x5 : T) : R :=
 bif (decide (x4.i < (((x5.fld 2).es).length : Int))) then
 bif (decide (0 ≤ x4.i) && decide (x4.i.toNat < ((x5.fld 2).es).length)) then
 bif (decide (0 ≤ x2.i) && decide (x2.i.toNat < x1.es.length)) then
 bif (decide (0 ≤ x3.i) && decide (x3.i.toNat < ((x1.nth x2.i.toNat).es).length)) then
 bif (decide (0 ≤ x4.i) && decide (x4.i.toNat < ((((x1.nth x2.i.toNat).nth x3.i.toNat).fld 1).es).length)) then
 bif (!(((((x5.fld 2).nth x4.i.toNat).fld 0).s).toList == (((((x1.nth x2.i.toNat).nth x3.i.toNat).fld 1).nth x4.i.toNat).s).toList)) then
 some [(T.bool false)]
 else
 obind (C F_spec_l2Ok [x1, ((x5.fld 2).nth x4.i.toNat)]) fun r1 =>
 bif (!(rt r1 0).b) then
 some [(T.bool false)]
 else
 l_spec_l2Ok_0 H x1 x2 x3 (T.int (IntKind.wrap .i64 (x4.i + (1 : Int)))) x5
 else
 none
 else
 none
 else
 none
 else
 none
 else
 some [(T.bool true)]
theorem e_spec_l2Ok_0 (H : List Item → CS → R) (C : CallsE) (x1 : T) (x2 : T) (x3 : T) (x4 : T) (x5 : T) : headE fi_spec_l2Ok env H C (hdAt fi_spec_l2Ok.body 0) ([(0, .val 27 x1), (3, .pref 37 3 []), (5, .val 3 x2), (6, .val 3 x3), (8, .val 3 x4)], [(3, ⟨37, x5, .fz, true⟩)]) =
 bif (decide (x4.i < (((x5.fld 2).es).length : Int))) then
 bif (decide (0 ≤ x4.i) && decide (x4.i.toNat < ((x5.fld 2).es).length)) then
 bif (decide (0 ≤ x2.i) && decide (x2.i.toNat < x1.es.length)) then
 bif (decide (0 ≤ x3.i) && decide (x3.i.toNat < ((x1.nth x2.i.toNat).es).length)) then
 bif (decide (0 ≤ x4.i) && decide (x4.i.toNat < ((((x1.nth x2.i.toNat).nth x3.i.toNat).fld 1).es).length)) then
 bif ((!((!(((((x5.fld 2).nth x4.i.toNat).fld 0).s).toList == (((((x1.nth x2.i.toNat).nth x3.i.toNat).fld 1).nth x4.i.toNat).s).toList)) == false)) || true) then
 bif ((!((!(((((x5.fld 2).nth x4.i.toNat).fld 0).s).toList == (((((x1.nth x2.i.toNat).nth x3.i.toNat).fld 1).nth x4.i.toNat).s).toList)) == false)) || true) then
 bif ((!((!(((((x5.fld 2).nth x4.i.toNat).fld 0).s).toList == (((((x1.nth x2.i.toNat).nth x3.i.toNat).fld 1).nth x4.i.toNat).s).toList)) == false)) || ((!(((((x5.fld 2).nth x4.i.toNat).fld 0).s).toList == (((((x1.nth x2.i.toNat).nth x3.i.toNat).fld 1).nth x4.i.toNat).s).toList)) == false)) then
 bif ((!((!(((((x5.fld 2).nth x4.i.toNat).fld 0).s).toList == (((((x1.nth x2.i.toNat).nth x3.i.toNat).fld 1).nth x4.i.toNat).s).toList)) == false)) || true) then
 bif ((!((!(((((x5.fld 2).nth x4.i.toNat).fld 0).s).toList == (((((x1.nth x2.i.toNat).nth x3.i.toNat).fld 1).nth x4.i.toNat).s).toList)) == false)) || ((((!(((((x5.fld 2).nth x4.i.toNat).fld 0).s).toList == (((((x1.nth x2.i.toNat).nth x3.i.toNat).fld 1).nth x4.i.toNat).s).toList)) == false) && (((!(((((x5.fld 2).nth x4.i.toNat).fld 0).s).toList == (((((x1.nth x2.i.toNat).nth x3.i.toNat).fld 1).nth x4.i.toNat).s).toList)) == false) && true)) && (decide (0 ≤ x4.i) && decide (x4.i.toNat < ((x5.fld 2).es).length)))) then
 bif ((!((!(((((x5.fld 2).nth x4.i.toNat).fld 0).s).toList == (((((x1.nth x2.i.toNat).nth x3.i.toNat).fld 1).nth x4.i.toNat).s).toList)) == false)) || ((!(((((x5.fld 2).nth x4.i.toNat).fld 0).s).toList == (((((x1.nth x2.i.toNat).nth x3.i.toNat).fld 1).nth x4.i.toNat).s).toList)) == false)) then
 bif ((!((!(((((x5.fld 2).nth x4.i.toNat).fld 0).s).toList == (((((x1.nth x2.i.toNat).nth x3.i.toNat).fld 1).nth x4.i.toNat).s).toList)) == false)) || (((!(((((x5.fld 2).nth x4.i.toNat).fld 0).s).toList == (((((x1.nth x2.i.toNat).nth x3.i.toNat).fld 1).nth x4.i.toNat).s).toList)) == false) && (((!(((((x5.fld 2).nth x4.i.toNat).fld 0).s).toList == (((((x1.nth x2.i.toNat).nth x3.i.toNat).fld 1).nth x4.i.toNat).s).toList)) == false) && true))) then
 obind ((bif ((!(((((x5.fld 2).nth x4.i.toNat).fld 0).s).toList == (((((x1.nth x2.i.toNat).nth x3.i.toNat).fld 1).nth x4.i.toNat).s).toList)) == false) then C F_spec_l2Ok [x1, ((x5.fld 2).nth x4.i.toNat)] else some [])) fun r1 =>
 bif ((!((!(((((x5.fld 2).nth x4.i.toNat).fld 0).s).toList == (((((x1.nth x2.i.toNat).nth x3.i.toNat).fld 1).nth x4.i.toNat).s).toList)) == false)) || ((!(((((x5.fld 2).nth x4.i.toNat).fld 0).s).toList == (((((x1.nth x2.i.toNat).nth x3.i.toNat).fld 1).nth x4.i.toNat).s).toList)) == false)) then
 bif (bif (!(((((x5.fld 2).nth x4.i.toNat).fld 0).s).toList == (((((x1.nth x2.i.toNat).nth x3.i.toNat).fld 1).nth x4.i.toNat).s).toList)) then true else ((!(((((x5.fld 2).nth x4.i.toNat).fld 0).s).toList == (((((x1.nth x2.i.toNat).nth x3.i.toNat).fld 1).nth x4.i.toNat).s).toList)) == false)) then
 bif (bif (!(((((x5.fld 2).nth x4.i.toNat).fld 0).s).toList == (((((x1.nth x2.i.toNat).nth x3.i.toNat).fld 1).nth x4.i.toNat).s).toList)) then (T.bool true) else (T.bool (!(rt r1 0).b))).b then
 some [(T.bool false)]
 else
 l_spec_l2Ok_0 H x1 x2 x3 (T.int (IntKind.wrap .i64 (x4.i + (1 : Int)))) x5
 else
 none
 else
 none
 else
 none
 else
 none
 else
 none
 else
 none
 else
 none
 else
 none
 else
 none
 else
 none
 else
 none
 else
 none
 else
 none
 else
 some [(T.bool true)] := by kernel_rfl
theorem q_spec_l2Ok_0 (H : List Item → CS → R) (C : CallsE) (x1 : T) (x2 : T) (x3 : T) (x4 : T) (x5 : T) : headE fi_spec_l2Ok env H C (hdAt fi_spec_l2Ok.body 0) ([(0, .val 27 x1), (3, .pref 37 3 []), (5, .val 3 x2), (6, .val 3 x3), (8, .val 3 x4)], [(3, ⟨37, x5, .fz, true⟩)]) = b_spec_l2Ok_0 H C x1 x2 x3 x4 x5 := by
 refine (e_spec_l2Ok_0 H C x1 x2 x3 x4 x5).trans ?_
 unfold b_spec_l2Ok_0
 all_goals cases hc : ((decide (x4.i < (((x5.fld 2).es).length : Int)))) with
 | true =>
  try simp only [bs]
  all_goals cases hc : ((decide (0 ≤ x4.i) && decide (x4.i.toNat < ((x5.fld 2).es).length))) with
  | true =>
   try simp only [bs]
   all_goals cases hc : ((decide (0 ≤ x2.i) && decide (x2.i.toNat < x1.es.length))) with
   | true =>
    try simp only [bs]
    all_goals cases hc : ((decide (0 ≤ x3.i) && decide (x3.i.toNat < ((x1.nth x2.i.toNat).es).length))) with
    | true =>
     try simp only [bs]
     all_goals cases hc : ((decide (0 ≤ x4.i) && decide (x4.i.toNat < ((((x1.nth x2.i.toNat).nth x3.i.toNat).fld 1).es).length))) with
     | true =>
      try simp only [bs]
      all_goals cases hc : ((!(((((x5.fld 2).nth x4.i.toNat).fld 0).s).toList == (((((x1.nth x2.i.toNat).nth x3.i.toNat).fld 1).nth x4.i.toNat).s).toList))) with
      | true =>
       try simp only [bs]
       all_goals kernel_rfl
      | false =>
       try simp only [bs]
       all_goals refine obind_congr fun r1 => ?_
       all_goals try simp only [bs]
       all_goals cases hc : ((!(rt r1 0).b)) with
       | true =>
        try simp only [bs]
        all_goals kernel_rfl
       | false =>
        try simp only [bs]
        all_goals kernel_rfl
     | false =>
      try simp only [bs]
      all_goals kernel_rfl
    | false =>
     try simp only [bs]
     all_goals kernel_rfl
   | false =>
    try simp only [bs]
    all_goals kernel_rfl
  | false =>
   try simp only [bs]
   all_goals kernel_rfl
 | false =>
  try simp only [bs]
  all_goals kernel_rfl
theorem y_spec_l2Ok_0 (x1 : T) (x2 : T) (x3 : T) (x4 : T) (x5 : T) {r : List T} (h : Yields (fun k => b_spec_l2Ok_0 (hl env k fi_spec_l2Ok) (cl env k) x1 x2 x3 x4 x5) r) : Yields (fun k => l_spec_l2Ok_0 (hl env k fi_spec_l2Ok) x1 x2 x3 x4 x5) r := Yields.head (fun H C => q_spec_l2Ok_0 H C x1 x2 x3 x4 x5) h
/- loop.example/heirlooms/spec.l1Can -/
noncomputable abbrev b_spec_l1Can (H : List Item → CS → R) (C : CallsE) (a0 a1 : T) : R :=
 bif (!(a1.i == 0)) then
 bif (!((2 : Int) == 0)) then
 some [(T.bool ((((IntKind.wrap .i64 ((a0.i).tdiv a1.i)) : Int).tmod (2 : Int)) == (1 : Int)))]
 else
 none
 else
 none
theorem q_spec_l1Can (H : List Item → CS → R) (C : CallsE) (a0 a1 : T) : enterE fi_spec_l1Can env H C [a0, a1] = b_spec_l1Can H C a0 a1 := by kernel_rfl
theorem y_spec_l1Can (a0 a1 : T) {r : List T} (h : Yields (fun k => b_spec_l1Can (hl env k fi_spec_l1Can) (cl env k) a0 a1) r) : Yields (fun k => cl env k F_spec_l1Can [a0, a1]) r := Yields.call (fi := fi_spec_l1Can) rfl (fun H C => q_spec_l1Can H C a0 a1) h
/- loop.example/heirlooms/spec.l1Able -/
noncomputable abbrev b_spec_l1Able (H : List Item → CS → R) (C : CallsE) (a0 a1 : T) : R :=
 obind (C F_spec_l1Ref [a1]) fun r1 =>
 bif (rt r1 0).b then
 bif (decide (0 ≤ (0 : Int)) && decide (0 < a1.s.size)) then
 bif ((a1.s.data.getD 0 0).toNat == (38 : Int)) then
 some [(T.int (3 : Int))]
 else
 obind (C F_spec_l1Ref [a1]) fun r2 =>
 bif (rt r2 0).b then
 some [(T.int (2 : Int))]
 else
 obind (C F_spec_l1Kind [a1]) fun r3 =>
 bif (rt r3 2).b then
 bif (decide (0 ≤ (rt r3 0).i) && decide (((rt r3 0).i).toNat < a0.es.length)) then
 bif (decide (0 ≤ (rt r3 1).i) && decide (((rt r3 1).i).toNat < ((a0.nth (((rt r3 0).i).toNat)).es).length)) then
 some [(((a0.nth (((rt r3 0).i).toNat)).nth (((rt r3 1).i).toNat)).fld 0)]
 else
 none
 else
 none
 else
 some [(T.int (7 : Int))]
 else
 none
 else
 obind (C F_spec_l1Ref [a1]) fun r2 =>
 bif (rt r2 0).b then
 some [(T.int (2 : Int))]
 else
 obind (C F_spec_l1Kind [a1]) fun r3 =>
 bif (rt r3 2).b then
 bif (decide (0 ≤ (rt r3 0).i) && decide (((rt r3 0).i).toNat < a0.es.length)) then
 bif (decide (0 ≤ (rt r3 1).i) && decide (((rt r3 1).i).toNat < ((a0.nth (((rt r3 0).i).toNat)).es).length)) then
 some [(((a0.nth (((rt r3 0).i).toNat)).nth (((rt r3 1).i).toNat)).fld 0)]
 else
 none
 else
 none
 else
 some [(T.int (7 : Int))]
theorem e_spec_l1Able (H : List Item → CS → R) (C : CallsE) (a0 a1 : T) : enterE fi_spec_l1Able env H C [a0, a1] =
 obind (C F_spec_l1Ref [a1]) fun r1 =>
 bif ((!((rt r1 0).b == true)) || true) then
 bif ((!((rt r1 0).b == true)) || ((((rt r1 0).b == true) && true) && (decide (0 ≤ (0 : Int)) && decide (0 < a1.s.size)))) then
 bif ((!((rt r1 0).b == true)) || ((((rt r1 0).b == true) && true) && true)) then
 bif (bif (rt r1 0).b then ((rt r1 0).b == true) else true) then
 bif (bif (rt r1 0).b then (T.bool ((a1.s.data.getD 0 0).toNat == (38 : Int))) else (T.bool false)).b then
 some [(T.int (3 : Int))]
 else
 obind (C F_spec_l1Ref [a1]) fun r2 =>
 bif (rt r2 0).b then
 some [(T.int (2 : Int))]
 else
 obind (C F_spec_l1Kind [a1]) fun r3 =>
 bif (rt r3 2).b then
 bif (decide (0 ≤ (rt r3 0).i) && decide (((rt r3 0).i).toNat < a0.es.length)) then
 bif (decide (0 ≤ (rt r3 1).i) && decide (((rt r3 1).i).toNat < ((a0.nth (((rt r3 0).i).toNat)).es).length)) then
 some [(((a0.nth (((rt r3 0).i).toNat)).nth (((rt r3 1).i).toNat)).fld 0)]
 else
 none
 else
 none
 else
 some [(T.int (7 : Int))]
 else
 none
 else
 none
 else
 none
 else
 none := by kernel_rfl
theorem q_spec_l1Able (H : List Item → CS → R) (C : CallsE) (a0 a1 : T) : enterE fi_spec_l1Able env H C [a0, a1] = b_spec_l1Able H C a0 a1 := by
 refine (e_spec_l1Able H C a0 a1).trans ?_
 unfold b_spec_l1Able
 all_goals refine obind_congr fun r1 => ?_
 all_goals try simp only [bs]
 all_goals cases hc : ((rt r1 0).b) with
 | true =>
  try simp only [bs]
  all_goals cases hc : ((decide (0 ≤ (0 : Int)) && decide (0 < a1.s.size))) with
  | true =>
   try simp only [bs]
   all_goals cases hc : (((a1.s.data.getD 0 0).toNat == (38 : Int))) with
   | true =>
    try simp only [bs]
    all_goals kernel_rfl
   | false =>
    try simp only [bs]
    all_goals refine obind_congr fun r2 => ?_
    all_goals try simp only [bs]
    all_goals cases hc : ((rt r2 0).b) with
    | true =>
     try simp only [bs]
     all_goals kernel_rfl
    | false =>
     try simp only [bs]
     all_goals refine obind_congr fun r3 => ?_
     all_goals try simp only [bs]
     all_goals cases hc : ((rt r3 2).b) with
     | true =>
      try simp only [bs]
      all_goals cases hc : ((decide (0 ≤ (rt r3 0).i) && decide (((rt r3 0).i).toNat < a0.es.length))) with
      | true =>
       try simp only [bs]
       all_goals cases hc : ((decide (0 ≤ (rt r3 1).i) && decide (((rt r3 1).i).toNat < ((a0.nth (((rt r3 0).i).toNat)).es).length))) with
       | true =>
        try simp only [bs]
        all_goals kernel_rfl
       | false =>
        try simp only [bs]
        all_goals kernel_rfl
      | false =>
       try simp only [bs]
       all_goals kernel_rfl
     | false =>
      try simp only [bs]
      all_goals kernel_rfl
  | false =>
   try simp only [bs]
   all_goals kernel_rfl
 | false =>
  try simp only [bs]
  all_goals refine obind_congr fun r2 => ?_
  all_goals try simp only [bs]
  all_goals cases hc : ((rt r2 0).b) with
  | true =>
   try simp only [bs]
   all_goals kernel_rfl
  | false =>
   try simp only [bs]
   all_goals refine obind_congr fun r3 => ?_
   all_goals try simp only [bs]
   all_goals cases hc : ((rt r3 2).b) with
   | true =>
    try simp only [bs]
    all_goals cases hc : ((decide (0 ≤ (rt r3 0).i) && decide (((rt r3 0).i).toNat < a0.es.length))) with
    | true =>
     try simp only [bs]
     all_goals cases hc : ((decide (0 ≤ (rt r3 1).i) && decide (((rt r3 1).i).toNat < ((a0.nth (((rt r3 0).i).toNat)).es).length))) with
     | true =>
      try simp only [bs]
      all_goals kernel_rfl
     | false =>
      try simp only [bs]
      all_goals kernel_rfl
    | false =>
     try simp only [bs]
     all_goals kernel_rfl
   | false =>
    try simp only [bs]
    all_goals kernel_rfl
theorem y_spec_l1Able (a0 a1 : T) {r : List T} (h : Yields (fun k => b_spec_l1Able (hl env k fi_spec_l1Able) (cl env k) a0 a1) r) : Yields (fun k => cl env k F_spec_l1Able [a0, a1]) r := Yields.call (fi := fi_spec_l1Able) rfl (fun H C => q_spec_l1Able H C a0 a1) h
/- loop.example/heirlooms/impl.recordOf -/
noncomputable abbrev b_impl_recordOf (H : List Item → CS → R) (C : CallsE) (a0 a1 : T) : R :=
 obind (C F_impl_kindAt [a1]) fun r1 =>
 bif (decide (0 ≤ (rt r1 0).i) && decide (((rt r1 0).i).toNat < a0.es.length)) then
 bif (decide (0 ≤ (rt r1 1).i) && decide (((rt r1 1).i).toNat < ((a0.nth (((rt r1 0).i).toNat)).es).length)) then
 some [((a0.nth (((rt r1 0).i).toNat)).nth (((rt r1 1).i).toNat))]
 else
 none
 else
 none
theorem q_impl_recordOf (H : List Item → CS → R) (C : CallsE) (a0 a1 : T) : enterE fi_impl_recordOf env H C [a0, a1] = b_impl_recordOf H C a0 a1 := by kernel_rfl
theorem y_impl_recordOf (a0 a1 : T) {r : List T} (h : Yields (fun k => b_impl_recordOf (hl env k fi_impl_recordOf) (cl env k) a0 a1) r) : Yields (fun k => cl env k F_impl_recordOf [a0, a1]) r := Yields.call (fi := fi_impl_recordOf) rfl (fun H C => q_impl_recordOf H C a0 a1) h
noncomputable def l_impl_valueFits_0 (H : List Item → CS → R) (x1 : T) (x2 : T) (x3 : T) (x4 : T) (x5 : T) : R := H (hdAt fi_impl_valueFits.body 0) ([(0, .val 27 x1), (5, .val 90 x2), (86, .val 34 x3), (87, .val 3 x4), (88, .val 3 x5)], [])
/- loop.example/heirlooms/impl.valueFits -/
noncomputable abbrev b_impl_valueFits (H : List Item → CS → R) (C : CallsE) (a0 a1 : T) : R :=
 bif (decide ((((a1.fld 3).es).length : Int) > (0 : Int))) then
 some [(T.bool false)]
 else
 obind (C F_impl_plainOk [a0, (a1.fld 0)]) fun r1 =>
 bif (!(rt r1 0).b) then
 some [(T.bool false)]
 else
 bif (((a1.fld 0).s).toList == (⟨#[110]⟩ : ByteArray).toList) then
 bif (decide ((a1.fld 1).i ≥ (0 : Int))) then
 bif (decide ((a1.fld 1).i ≤ (1000000 : Int))) then
 some [(T.bool ((((a1.fld 2).es).length : Int) == (0 : Int)))]
 else
 some [(T.bool false)]
 else
 some [(T.bool false)]
 else
 bif (((a1.fld 0).s).toList == (⟨#[98]⟩ : ByteArray).toList) then
 bif ((a1.fld 1).i == (0 : Int)) then
 some [(T.bool ((((a1.fld 2).es).length : Int) == (0 : Int)))]
 else
 bif ((a1.fld 1).i == (1 : Int)) then
 some [(T.bool ((((a1.fld 2).es).length : Int) == (0 : Int)))]
 else
 some [(T.bool false)]
 else
 bif (((a1.fld 0).s).toList == (⟨#[111]⟩ : ByteArray).toList) then
 bif (decide ((a1.fld 1).i ≥ (0 : Int))) then
 bif (decide ((a1.fld 1).i < (4 : Int))) then
 some [(T.bool ((((a1.fld 2).es).length : Int) == (0 : Int)))]
 else
 some [(T.bool false)]
 else
 some [(T.bool false)]
 else
 obind (C F_impl_recordOf [a0, (a1.fld 0)]) fun r2 =>
 bif ((a1.fld 1).i != (0 : Int)) then
 some [(T.bool false)]
 else
 bif ((((a1.fld 2).es).length : Int) != ((((rt r2 0).fld 1).es).length : Int)) then
 some [(T.bool false)]
 else
 l_impl_valueFits_0 H a0 ((rt r2 0).fld 1) (a1.fld 2) (T.int (((a1.fld 2).es).length : Int)) (T.int (0 : Int))
theorem e_impl_valueFits (H : List Item → CS → R) (C : CallsE) (a0 a1 : T) : enterE fi_impl_valueFits env H C [a0, a1] =
 bif ((!((decide ((((a1.fld 3).es).length : Int) > (0 : Int))) == false)) || true) then
 bif ((!((decide ((((a1.fld 3).es).length : Int) > (0 : Int))) == false)) || true) then
 bif ((!((decide ((((a1.fld 3).es).length : Int) > (0 : Int))) == false)) || ((decide ((((a1.fld 3).es).length : Int) > (0 : Int))) == false)) then
 bif ((!((decide ((((a1.fld 3).es).length : Int) > (0 : Int))) == false)) || (((decide ((((a1.fld 3).es).length : Int) > (0 : Int))) == false) && (((decide ((((a1.fld 3).es).length : Int) > (0 : Int))) == false) && true))) then
 obind ((bif ((decide ((((a1.fld 3).es).length : Int) > (0 : Int))) == false) then C F_impl_plainOk [a0, (a1.fld 0)] else some [])) fun r1 =>
 bif ((!((decide ((((a1.fld 3).es).length : Int) > (0 : Int))) == false)) || ((decide ((((a1.fld 3).es).length : Int) > (0 : Int))) == false)) then
 bif (bif (decide ((((a1.fld 3).es).length : Int) > (0 : Int))) then true else ((decide ((((a1.fld 3).es).length : Int) > (0 : Int))) == false)) then
 bif (bif (decide ((((a1.fld 3).es).length : Int) > (0 : Int))) then (T.bool true) else (T.bool (!(rt r1 0).b))).b then
 some [(T.bool false)]
 else
 bif (((a1.fld 0).s).toList == (⟨#[110]⟩ : ByteArray).toList) then
 bif ((!((decide ((a1.fld 1).i ≥ (0 : Int))) == true)) || true) then
 bif ((!((decide ((a1.fld 1).i ≥ (0 : Int))) == true)) || ((decide ((a1.fld 1).i ≥ (0 : Int))) == true)) then
 bif ((!((decide ((a1.fld 1).i ≥ (0 : Int))) == true)) || ((((decide ((a1.fld 1).i ≥ (0 : Int))) == true) && true) && true)) then
 bif (bif (decide ((a1.fld 1).i ≥ (0 : Int))) then ((decide ((a1.fld 1).i ≥ (0 : Int))) == true) else true) then
 bif ((!((bif (decide ((a1.fld 1).i ≥ (0 : Int))) then (T.bool (decide ((a1.fld 1).i ≤ (1000000 : Int)))) else (T.bool false)).b == true)) || true) then
 bif ((!((bif (decide ((a1.fld 1).i ≥ (0 : Int))) then (T.bool (decide ((a1.fld 1).i ≤ (1000000 : Int)))) else (T.bool false)).b == true)) || ((bif (decide ((a1.fld 1).i ≥ (0 : Int))) then (T.bool (decide ((a1.fld 1).i ≤ (1000000 : Int)))) else (T.bool false)).b == true)) then
 bif ((!((bif (decide ((a1.fld 1).i ≥ (0 : Int))) then (T.bool (decide ((a1.fld 1).i ≤ (1000000 : Int)))) else (T.bool false)).b == true)) || ((bif (decide ((a1.fld 1).i ≥ (0 : Int))) then (T.bool (decide ((a1.fld 1).i ≤ (1000000 : Int)))) else (T.bool false)).b == true)) then
 bif ((!((bif (decide ((a1.fld 1).i ≥ (0 : Int))) then (T.bool (decide ((a1.fld 1).i ≤ (1000000 : Int)))) else (T.bool false)).b == true)) || ((((bif (decide ((a1.fld 1).i ≥ (0 : Int))) then (T.bool (decide ((a1.fld 1).i ≤ (1000000 : Int)))) else (T.bool false)).b == true) && true) && true)) then
 bif (bif (bif (decide ((a1.fld 1).i ≥ (0 : Int))) then (T.bool (decide ((a1.fld 1).i ≤ (1000000 : Int)))) else (T.bool false)).b then ((bif (decide ((a1.fld 1).i ≥ (0 : Int))) then (T.bool (decide ((a1.fld 1).i ≤ (1000000 : Int)))) else (T.bool false)).b == true) else true) then
 some [(bif (bif (decide ((a1.fld 1).i ≥ (0 : Int))) then (T.bool (decide ((a1.fld 1).i ≤ (1000000 : Int)))) else (T.bool false)).b then (T.bool ((((a1.fld 2).es).length : Int) == (0 : Int))) else (T.bool false))]
 else
 none
 else
 none
 else
 none
 else
 none
 else
 none
 else
 none
 else
 none
 else
 none
 else
 none
 else
 bif (((a1.fld 0).s).toList == (⟨#[98]⟩ : ByteArray).toList) then
 bif ((!(((a1.fld 1).i == (0 : Int)) == false)) || true) then
 bif ((!(((a1.fld 1).i == (0 : Int)) == false)) || (((a1.fld 1).i == (0 : Int)) == false)) then
 bif ((!(((a1.fld 1).i == (0 : Int)) == false)) || (((((a1.fld 1).i == (0 : Int)) == false) && true) && true)) then
 bif (bif ((a1.fld 1).i == (0 : Int)) then true else (((a1.fld 1).i == (0 : Int)) == false)) then
 bif ((!((bif ((a1.fld 1).i == (0 : Int)) then (T.bool true) else (T.bool ((a1.fld 1).i == (1 : Int)))).b == true)) || true) then
 bif ((!((bif ((a1.fld 1).i == (0 : Int)) then (T.bool true) else (T.bool ((a1.fld 1).i == (1 : Int)))).b == true)) || ((bif ((a1.fld 1).i == (0 : Int)) then (T.bool true) else (T.bool ((a1.fld 1).i == (1 : Int)))).b == true)) then
 bif ((!((bif ((a1.fld 1).i == (0 : Int)) then (T.bool true) else (T.bool ((a1.fld 1).i == (1 : Int)))).b == true)) || ((bif ((a1.fld 1).i == (0 : Int)) then (T.bool true) else (T.bool ((a1.fld 1).i == (1 : Int)))).b == true)) then
 bif ((!((bif ((a1.fld 1).i == (0 : Int)) then (T.bool true) else (T.bool ((a1.fld 1).i == (1 : Int)))).b == true)) || ((((bif ((a1.fld 1).i == (0 : Int)) then (T.bool true) else (T.bool ((a1.fld 1).i == (1 : Int)))).b == true) && true) && true)) then
 bif (bif (bif ((a1.fld 1).i == (0 : Int)) then (T.bool true) else (T.bool ((a1.fld 1).i == (1 : Int)))).b then ((bif ((a1.fld 1).i == (0 : Int)) then (T.bool true) else (T.bool ((a1.fld 1).i == (1 : Int)))).b == true) else true) then
 some [(bif (bif ((a1.fld 1).i == (0 : Int)) then (T.bool true) else (T.bool ((a1.fld 1).i == (1 : Int)))).b then (T.bool ((((a1.fld 2).es).length : Int) == (0 : Int))) else (T.bool false))]
 else
 none
 else
 none
 else
 none
 else
 none
 else
 none
 else
 none
 else
 none
 else
 none
 else
 none
 else
 bif (((a1.fld 0).s).toList == (⟨#[111]⟩ : ByteArray).toList) then
 bif ((!((decide ((a1.fld 1).i ≥ (0 : Int))) == true)) || true) then
 bif ((!((decide ((a1.fld 1).i ≥ (0 : Int))) == true)) || ((decide ((a1.fld 1).i ≥ (0 : Int))) == true)) then
 bif ((!((decide ((a1.fld 1).i ≥ (0 : Int))) == true)) || ((((decide ((a1.fld 1).i ≥ (0 : Int))) == true) && true) && true)) then
 bif (bif (decide ((a1.fld 1).i ≥ (0 : Int))) then ((decide ((a1.fld 1).i ≥ (0 : Int))) == true) else true) then
 bif ((!((bif (decide ((a1.fld 1).i ≥ (0 : Int))) then (T.bool (decide ((a1.fld 1).i < (4 : Int)))) else (T.bool false)).b == true)) || true) then
 bif ((!((bif (decide ((a1.fld 1).i ≥ (0 : Int))) then (T.bool (decide ((a1.fld 1).i < (4 : Int)))) else (T.bool false)).b == true)) || ((bif (decide ((a1.fld 1).i ≥ (0 : Int))) then (T.bool (decide ((a1.fld 1).i < (4 : Int)))) else (T.bool false)).b == true)) then
 bif ((!((bif (decide ((a1.fld 1).i ≥ (0 : Int))) then (T.bool (decide ((a1.fld 1).i < (4 : Int)))) else (T.bool false)).b == true)) || ((bif (decide ((a1.fld 1).i ≥ (0 : Int))) then (T.bool (decide ((a1.fld 1).i < (4 : Int)))) else (T.bool false)).b == true)) then
 bif ((!((bif (decide ((a1.fld 1).i ≥ (0 : Int))) then (T.bool (decide ((a1.fld 1).i < (4 : Int)))) else (T.bool false)).b == true)) || ((((bif (decide ((a1.fld 1).i ≥ (0 : Int))) then (T.bool (decide ((a1.fld 1).i < (4 : Int)))) else (T.bool false)).b == true) && true) && true)) then
 bif (bif (bif (decide ((a1.fld 1).i ≥ (0 : Int))) then (T.bool (decide ((a1.fld 1).i < (4 : Int)))) else (T.bool false)).b then ((bif (decide ((a1.fld 1).i ≥ (0 : Int))) then (T.bool (decide ((a1.fld 1).i < (4 : Int)))) else (T.bool false)).b == true) else true) then
 some [(bif (bif (decide ((a1.fld 1).i ≥ (0 : Int))) then (T.bool (decide ((a1.fld 1).i < (4 : Int)))) else (T.bool false)).b then (T.bool ((((a1.fld 2).es).length : Int) == (0 : Int))) else (T.bool false))]
 else
 none
 else
 none
 else
 none
 else
 none
 else
 none
 else
 none
 else
 none
 else
 none
 else
 none
 else
 obind (C F_impl_recordOf [a0, (a1.fld 0)]) fun r2 =>
 bif ((!(((a1.fld 1).i != (0 : Int)) == false)) || true) then
 bif ((!(((a1.fld 1).i != (0 : Int)) == false)) || (((a1.fld 1).i != (0 : Int)) == false)) then
 bif ((!(((a1.fld 1).i != (0 : Int)) == false)) || (((a1.fld 1).i != (0 : Int)) == false)) then
 bif ((!(((a1.fld 1).i != (0 : Int)) == false)) || true) then
 bif ((!(((a1.fld 1).i != (0 : Int)) == false)) || (((a1.fld 1).i != (0 : Int)) == false)) then
 bif ((!(((a1.fld 1).i != (0 : Int)) == false)) || (((((a1.fld 1).i != (0 : Int)) == false) && (((a1.fld 1).i != (0 : Int)) == false)) && true)) then
 bif (bif ((a1.fld 1).i != (0 : Int)) then true else (((a1.fld 1).i != (0 : Int)) == false)) then
 bif (bif ((a1.fld 1).i != (0 : Int)) then (T.bool true) else (T.bool ((((a1.fld 2).es).length : Int) != ((((rt r2 0).fld 1).es).length : Int)))).b then
 some [(T.bool false)]
 else
 l_impl_valueFits_0 H a0 ((rt r2 0).fld 1) (a1.fld 2) (T.int (((a1.fld 2).es).length : Int)) (T.int (0 : Int))
 else
 none
 else
 none
 else
 none
 else
 none
 else
 none
 else
 none
 else
 none
 else
 none
 else
 none
 else
 none
 else
 none
 else
 none
 else
 none := by kernel_rfl
theorem q_impl_valueFits (H : List Item → CS → R) (C : CallsE) (a0 a1 : T) : enterE fi_impl_valueFits env H C [a0, a1] = b_impl_valueFits H C a0 a1 := by
 refine (e_impl_valueFits H C a0 a1).trans ?_
 unfold b_impl_valueFits
 all_goals cases hc : ((decide ((((a1.fld 3).es).length : Int) > (0 : Int)))) with
 | true =>
  try simp only [bs]
  all_goals kernel_rfl
 | false =>
  try simp only [bs]
  all_goals refine obind_congr fun r1 => ?_
  all_goals try simp only [bs]
  all_goals cases hc : ((!(rt r1 0).b)) with
  | true =>
   try simp only [bs]
   all_goals kernel_rfl
  | false =>
   try simp only [bs]
   all_goals cases hc : ((((a1.fld 0).s).toList == (⟨#[110]⟩ : ByteArray).toList)) with
   | true =>
    try simp only [bs]
    all_goals cases hc : ((decide ((a1.fld 1).i ≥ (0 : Int)))) with
    | true =>
     try simp only [bs]
     all_goals cases hc : ((decide ((a1.fld 1).i ≤ (1000000 : Int)))) with
     | true =>
      try simp only [bs]
      all_goals kernel_rfl
     | false =>
      try simp only [bs]
      all_goals kernel_rfl
    | false =>
     try simp only [bs]
     all_goals kernel_rfl
   | false =>
    try simp only [bs]
    all_goals cases hc : ((((a1.fld 0).s).toList == (⟨#[98]⟩ : ByteArray).toList)) with
    | true =>
     try simp only [bs]
     all_goals cases hc : (((a1.fld 1).i == (0 : Int))) with
     | true =>
      try simp only [bs]
      all_goals kernel_rfl
     | false =>
      try simp only [bs]
      all_goals cases hc : (((a1.fld 1).i == (1 : Int))) with
      | true =>
       try simp only [bs]
       all_goals kernel_rfl
      | false =>
       try simp only [bs]
       all_goals kernel_rfl
    | false =>
     try simp only [bs]
     all_goals cases hc : ((((a1.fld 0).s).toList == (⟨#[111]⟩ : ByteArray).toList)) with
     | true =>
      try simp only [bs]
      all_goals cases hc : ((decide ((a1.fld 1).i ≥ (0 : Int)))) with
      | true =>
       try simp only [bs]
       all_goals cases hc : ((decide ((a1.fld 1).i < (4 : Int)))) with
       | true =>
        try simp only [bs]
        all_goals kernel_rfl
       | false =>
        try simp only [bs]
        all_goals kernel_rfl
      | false =>
       try simp only [bs]
       all_goals kernel_rfl
     | false =>
      try simp only [bs]
      all_goals refine obind_congr fun r2 => ?_
      all_goals try simp only [bs]
      all_goals cases hc : (((a1.fld 1).i != (0 : Int))) with
      | true =>
       try simp only [bs]
       all_goals kernel_rfl
      | false =>
       try simp only [bs]
       all_goals cases hc : (((((a1.fld 2).es).length : Int) != ((((rt r2 0).fld 1).es).length : Int))) with
       | true =>
        try simp only [bs]
        all_goals kernel_rfl
       | false =>
        try simp only [bs]
        all_goals kernel_rfl
theorem y_impl_valueFits (a0 a1 : T) {r : List T} (h : Yields (fun k => b_impl_valueFits (hl env k fi_impl_valueFits) (cl env k) a0 a1) r) : Yields (fun k => cl env k F_impl_valueFits [a0, a1]) r := Yields.call (fi := fi_impl_valueFits) rfl (fun H C => q_impl_valueFits H C a0 a1) h
noncomputable abbrev b_impl_valueFits_0 (H : List Item → CS → R) (C : CallsE) (x1 : T) (x2 : T) (x3 : T) (x4 : T) (x5 : T) : R :=
 bif (decide (x5.i < x4.i)) then
 bif (decide (0 ≤ x5.i) && decide (x5.i.toNat < x3.es.length)) then
 bif (decide (0 ≤ x5.i) && decide (x5.i.toNat < x2.es.length)) then
 bif (!((((x3.nth x5.i.toNat).fld 0).s).toList == ((x2.nth x5.i.toNat).s).toList)) then
 some [(T.bool false)]
 else
 obind (C F_impl_valueFits [x1, (x3.nth x5.i.toNat)]) fun r1 =>
 bif (!(rt r1 0).b) then
 some [(T.bool false)]
 else
 l_impl_valueFits_0 H x1 x2 x3 x4 (T.int (IntKind.wrap .i64 (x5.i + (1 : Int))))
 else
 none
 else
 none
 else
 some [(T.bool true)]
theorem e_impl_valueFits_0 (H : List Item → CS → R) (C : CallsE) (x1 : T) (x2 : T) (x3 : T) (x4 : T) (x5 : T) : headE fi_impl_valueFits env H C (hdAt fi_impl_valueFits.body 0) ([(0, .val 27 x1), (5, .val 90 x2), (86, .val 34 x3), (87, .val 3 x4), (88, .val 3 x5)], []) =
 bif (decide (x5.i < x4.i)) then
 bif (decide (0 ≤ x5.i) && decide (x5.i.toNat < x3.es.length)) then
 bif (decide (0 ≤ x5.i) && decide (x5.i.toNat < x2.es.length)) then
 bif ((!((!((((x3.nth x5.i.toNat).fld 0).s).toList == ((x2.nth x5.i.toNat).s).toList)) == false)) || true) then
 bif ((!((!((((x3.nth x5.i.toNat).fld 0).s).toList == ((x2.nth x5.i.toNat).s).toList)) == false)) || true) then
 bif ((!((!((((x3.nth x5.i.toNat).fld 0).s).toList == ((x2.nth x5.i.toNat).s).toList)) == false)) || (((!((((x3.nth x5.i.toNat).fld 0).s).toList == ((x2.nth x5.i.toNat).s).toList)) == false) && (((!((((x3.nth x5.i.toNat).fld 0).s).toList == ((x2.nth x5.i.toNat).s).toList)) == false) && true))) then
 obind ((bif ((!((((x3.nth x5.i.toNat).fld 0).s).toList == ((x2.nth x5.i.toNat).s).toList)) == false) then C F_impl_valueFits [x1, (x3.nth x5.i.toNat)] else some [])) fun r1 =>
 bif ((!((!((((x3.nth x5.i.toNat).fld 0).s).toList == ((x2.nth x5.i.toNat).s).toList)) == false)) || ((!((((x3.nth x5.i.toNat).fld 0).s).toList == ((x2.nth x5.i.toNat).s).toList)) == false)) then
 bif (bif (!((((x3.nth x5.i.toNat).fld 0).s).toList == ((x2.nth x5.i.toNat).s).toList)) then true else ((!((((x3.nth x5.i.toNat).fld 0).s).toList == ((x2.nth x5.i.toNat).s).toList)) == false)) then
 bif (bif (!((((x3.nth x5.i.toNat).fld 0).s).toList == ((x2.nth x5.i.toNat).s).toList)) then (T.bool true) else (T.bool (!(rt r1 0).b))).b then
 some [(T.bool false)]
 else
 l_impl_valueFits_0 H x1 x2 x3 x4 (T.int (IntKind.wrap .i64 (x5.i + (1 : Int))))
 else
 none
 else
 none
 else
 none
 else
 none
 else
 none
 else
 none
 else
 none
 else
 some [(T.bool true)] := by kernel_rfl
theorem q_impl_valueFits_0 (H : List Item → CS → R) (C : CallsE) (x1 : T) (x2 : T) (x3 : T) (x4 : T) (x5 : T) : headE fi_impl_valueFits env H C (hdAt fi_impl_valueFits.body 0) ([(0, .val 27 x1), (5, .val 90 x2), (86, .val 34 x3), (87, .val 3 x4), (88, .val 3 x5)], []) = b_impl_valueFits_0 H C x1 x2 x3 x4 x5 := by
 refine (e_impl_valueFits_0 H C x1 x2 x3 x4 x5).trans ?_
 unfold b_impl_valueFits_0
 all_goals cases hc : ((decide (x5.i < x4.i))) with
 | true =>
  try simp only [bs]
  all_goals cases hc : ((decide (0 ≤ x5.i) && decide (x5.i.toNat < x3.es.length))) with
  | true =>
   try simp only [bs]
   all_goals cases hc : ((decide (0 ≤ x5.i) && decide (x5.i.toNat < x2.es.length))) with
   | true =>
    try simp only [bs]
    all_goals cases hc : ((!((((x3.nth x5.i.toNat).fld 0).s).toList == ((x2.nth x5.i.toNat).s).toList))) with
    | true =>
     try simp only [bs]
     all_goals kernel_rfl
    | false =>
     try simp only [bs]
     all_goals refine obind_congr fun r1 => ?_
     all_goals try simp only [bs]
     all_goals cases hc : ((!(rt r1 0).b)) with
     | true =>
      try simp only [bs]
      all_goals kernel_rfl
     | false =>
      try simp only [bs]
      all_goals kernel_rfl
   | false =>
    try simp only [bs]
    all_goals kernel_rfl
  | false =>
   try simp only [bs]
   all_goals kernel_rfl
 | false =>
  try simp only [bs]
  all_goals kernel_rfl
theorem y_impl_valueFits_0 (x1 : T) (x2 : T) (x3 : T) (x4 : T) (x5 : T) {r : List T} (h : Yields (fun k => b_impl_valueFits_0 (hl env k fi_impl_valueFits) (cl env k) x1 x2 x3 x4 x5) r) : Yields (fun k => l_impl_valueFits_0 (hl env k fi_impl_valueFits) x1 x2 x3 x4 x5) r := Yields.head (fun H C => q_impl_valueFits_0 H C x1 x2 x3 x4 x5) h
/- slices.Clip[[]loop.example/heirlooms/impl.Kept,loop.example/heirlooms/impl.Kept] -/
noncomputable abbrev b_slices_Clip_impl_Kept (H : List Item → CS → R) (C : CallsE) (a0 : T) : R :=
 bif (decide (0 ≤ (0 : Int)) && (decide ((0 : Int) ≤ (a0.es.length : Int)) && (decide ((a0.es.length : Int) ≤ (a0.es.length : Int)) && decide ((a0.es.length : Int) ≤ (a0.es.length : Int))))) then
 some [(T.sl ((a0.es.take a0.es.length).drop 0))]
 else
 none
theorem q_slices_Clip_impl_Kept (H : List Item → CS → R) (C : CallsE) (a0 : T) : enterE fi_slices_Clip_impl_Kept env H C [a0] = b_slices_Clip_impl_Kept H C a0 := by kernel_rfl
theorem y_slices_Clip_impl_Kept (a0 : T) {r : List T} (h : Yields (fun k => b_slices_Clip_impl_Kept (hl env k fi_slices_Clip_impl_Kept) (cl env k) a0) r) : Yields (fun k => cl env k F_slices_Clip_impl_Kept [a0]) r := Yields.call (fi := fi_slices_Clip_impl_Kept) rfl (fun H C => q_slices_Clip_impl_Kept H C a0) h
noncomputable def l_laws_szStringS_0 (H : List Item → CS → R) (x1 : T) (x2 : T) (x3 : T) : R := H (hdAt fi_laws_szStringS.body 0) ([(0, .val 90 x1), (1, .val 3 x2), (5, .val 3 x3)], [])
/- loop.example/heirlooms/laws.szStringS -/
noncomputable abbrev b_laws_szStringS (H : List Item → CS → R) (C : CallsE) (a0 a1 : T) : R :=
 bif (decide ((IntKind.wrap .i64 (a1.i - (a0.es.length : Int))) < (0 : Int))) then
 some [(T.int (-1 : Int))]
 else
 l_laws_szStringS_0 H a0 (T.int (IntKind.wrap .i64 (a1.i - (a0.es.length : Int)))) (T.int (0 : Int))
theorem q_laws_szStringS (H : List Item → CS → R) (C : CallsE) (a0 a1 : T) : enterE fi_laws_szStringS env H C [a0, a1] = b_laws_szStringS H C a0 a1 := by kernel_rfl
theorem y_laws_szStringS (a0 a1 : T) {r : List T} (h : Yields (fun k => b_laws_szStringS (hl env k fi_laws_szStringS) (cl env k) a0 a1) r) : Yields (fun k => cl env k F_laws_szStringS [a0, a1]) r := Yields.call (fi := fi_laws_szStringS) rfl (fun H C => q_laws_szStringS H C a0 a1) h
noncomputable abbrev b_laws_szStringS_0 (H : List Item → CS → R) (C : CallsE) (x1 : T) (x2 : T) (x3 : T) : R :=
 bif (decide (x3.i < (x1.es.length : Int))) then
 bif (decide (0 ≤ x3.i) && decide (x3.i.toNat < x1.es.length)) then
 bif (decide ((IntKind.wrap .i64 (x2.i - (((x1.nth x3.i.toNat).s).size : Int))) < (0 : Int))) then
 some [(T.int (-1 : Int))]
 else
 l_laws_szStringS_0 H x1 (T.int (IntKind.wrap .i64 (x2.i - (((x1.nth x3.i.toNat).s).size : Int)))) (T.int (IntKind.wrap .i64 (x3.i + (1 : Int))))
 else
 none
 else
 some [x2]
theorem q_laws_szStringS_0 (H : List Item → CS → R) (C : CallsE) (x1 : T) (x2 : T) (x3 : T) : headE fi_laws_szStringS env H C (hdAt fi_laws_szStringS.body 0) ([(0, .val 90 x1), (1, .val 3 x2), (5, .val 3 x3)], []) = b_laws_szStringS_0 H C x1 x2 x3 := by kernel_rfl
theorem y_laws_szStringS_0 (x1 : T) (x2 : T) (x3 : T) {r : List T} (h : Yields (fun k => b_laws_szStringS_0 (hl env k fi_laws_szStringS) (cl env k) x1 x2 x3) r) : Yields (fun k => l_laws_szStringS_0 (hl env k fi_laws_szStringS) x1 x2 x3) r := Yields.head (fun H C => q_laws_szStringS_0 H C x1 x2 x3) h
noncomputable def l_spec_KindsBad_0 (H : List Item → CS → R) (x1 : T) (x2 : T) : R := H (hdAt fi_spec_KindsBad.body 0) ([(0, .val 27 x1), (4, .val 3 x2)], [])
noncomputable def l_spec_KindsBad_1 (H : List Item → CS → R) (x1 : T) (x2 : T) (x3 : T) : R := H (hdAt fi_spec_KindsBad.body 1) ([(0, .val 27 x1), (4, .val 3 x2), (5, .val 3 x3)], [])
/- loop.example/heirlooms/spec.KindsBad -/
noncomputable abbrev b_spec_KindsBad (H : List Item → CS → R) (C : CallsE) (a0 : T) : R :=
 bif (decide ((a0.es.length : Int) > (3 : Int))) then
 some [(T.int (3 : Int)), (T.int (0 : Int))]
 else
 l_spec_KindsBad_0 H a0 (T.int (0 : Int))
theorem q_spec_KindsBad (H : List Item → CS → R) (C : CallsE) (a0 : T) : enterE fi_spec_KindsBad env H C [a0] = b_spec_KindsBad H C a0 := by kernel_rfl
theorem y_spec_KindsBad (a0 : T) {r : List T} (h : Yields (fun k => b_spec_KindsBad (hl env k fi_spec_KindsBad) (cl env k) a0) r) : Yields (fun k => cl env k F_spec_KindsBad [a0]) r := Yields.call (fi := fi_spec_KindsBad) rfl (fun H C => q_spec_KindsBad H C a0) h
noncomputable abbrev b_spec_KindsBad_0 (H : List Item → CS → R) (C : CallsE) (x1 : T) (x2 : T) : R :=
 bif (decide (x2.i < (x1.es.length : Int))) then
 bif (decide (0 ≤ x2.i) && decide (x2.i.toNat < x1.es.length)) then
 bif (decide ((((x1.nth x2.i.toNat).es).length : Int) > (3 : Int))) then
 some [x2, (T.int (3 : Int))]
 else
 l_spec_KindsBad_1 H x1 x2 (T.int (0 : Int))
 else
 none
 else
 some [(T.int (-1 : Int)), (T.int (-1 : Int))]
theorem q_spec_KindsBad_0 (H : List Item → CS → R) (C : CallsE) (x1 : T) (x2 : T) : headE fi_spec_KindsBad env H C (hdAt fi_spec_KindsBad.body 0) ([(0, .val 27 x1), (4, .val 3 x2)], []) = b_spec_KindsBad_0 H C x1 x2 := by kernel_rfl
theorem y_spec_KindsBad_0 (x1 : T) (x2 : T) {r : List T} (h : Yields (fun k => b_spec_KindsBad_0 (hl env k fi_spec_KindsBad) (cl env k) x1 x2) r) : Yields (fun k => l_spec_KindsBad_0 (hl env k fi_spec_KindsBad) x1 x2) r := Yields.head (fun H C => q_spec_KindsBad_0 H C x1 x2) h
noncomputable abbrev b_spec_KindsBad_1 (H : List Item → CS → R) (C : CallsE) (x1 : T) (x2 : T) (x3 : T) : R :=
 bif (decide (0 ≤ x2.i) && decide (x2.i.toNat < x1.es.length)) then
 bif (decide (x3.i < (((x1.nth x2.i.toNat).es).length : Int))) then
 obind (C F_spec_l1Record [x1, x2, x3]) fun r1 =>
 bif (!(rt r1 0).b) then
 some [x2, x3]
 else
 l_spec_KindsBad_1 H x1 x2 (T.int (IntKind.wrap .i64 (x3.i + (1 : Int))))
 else
 l_spec_KindsBad_0 H x1 (T.int (IntKind.wrap .i64 (x2.i + (1 : Int))))
 else
 none
theorem q_spec_KindsBad_1 (H : List Item → CS → R) (C : CallsE) (x1 : T) (x2 : T) (x3 : T) : headE fi_spec_KindsBad env H C (hdAt fi_spec_KindsBad.body 1) ([(0, .val 27 x1), (4, .val 3 x2), (5, .val 3 x3)], []) = b_spec_KindsBad_1 H C x1 x2 x3 := by kernel_rfl
theorem y_spec_KindsBad_1 (x1 : T) (x2 : T) (x3 : T) {r : List T} (h : Yields (fun k => b_spec_KindsBad_1 (hl env k fi_spec_KindsBad) (cl env k) x1 x2 x3) r) : Yields (fun k => l_spec_KindsBad_1 (hl env k fi_spec_KindsBad) x1 x2 x3) r := Yields.head (fun H C => q_spec_KindsBad_1 H C x1 x2 x3) h
noncomputable def l_laws_toStringS_0 (H : List Item → CS → R) (x1 : T) (x2 : T) (x3 : T) : R := H (hdAt fi_laws_toStringS.body 0) ([(0, .val 90 x1), (3, .sref 90 3 []), (4, .val 3 x2)], [(3, ⟨90, x3, .dp, false⟩)])
/- loop.example/heirlooms/laws.toStringS -/
noncomputable abbrev b_laws_toStringS (H : List Item → CS → R) (C : CallsE) (a0 : T) : R :=
 bif (decide (0 ≤ (a0.es.length : Int)) && (decide ((a0.es.length : Int) ≤ (a0.es.length : Int)) && decide (a0.es.length ≤ LIM))) then
 l_laws_toStringS_0 H a0 (T.int (0 : Int)) (T.sl (List.replicate a0.es.length (T.str (⟨#[]⟩ : ByteArray))))
 else
 none
theorem q_laws_toStringS (H : List Item → CS → R) (C : CallsE) (a0 : T) : enterE fi_laws_toStringS env H C [a0] = b_laws_toStringS H C a0 := by kernel_rfl
theorem y_laws_toStringS (a0 : T) {r : List T} (h : Yields (fun k => b_laws_toStringS (hl env k fi_laws_toStringS) (cl env k) a0) r) : Yields (fun k => cl env k F_laws_toStringS [a0]) r := Yields.call (fi := fi_laws_toStringS) rfl (fun H C => q_laws_toStringS H C a0) h
noncomputable abbrev b_laws_toStringS_0 (H : List Item → CS → R) (C : CallsE) (x1 : T) (x2 : T) (x3 : T) : R :=
 bif (decide (x2.i < (x1.es.length : Int))) then
 bif (decide (0 ≤ x2.i) && decide (x2.i.toNat < x1.es.length)) then
 bif (decide (0 ≤ x2.i) && decide (x2.i.toNat < x3.es.length)) then
 l_laws_toStringS_0 H x1 (T.int (IntKind.wrap .i64 (x2.i + (1 : Int)))) (T.sl (x3.es.set x2.i.toNat (x1.nth x2.i.toNat)))
 else
 none
 else
 none
 else
 some [x3]
theorem q_laws_toStringS_0 (H : List Item → CS → R) (C : CallsE) (x1 : T) (x2 : T) (x3 : T) : headE fi_laws_toStringS env H C (hdAt fi_laws_toStringS.body 0) ([(0, .val 90 x1), (3, .sref 90 3 []), (4, .val 3 x2)], [(3, ⟨90, x3, .dp, false⟩)]) = b_laws_toStringS_0 H C x1 x2 x3 := by kernel_rfl
theorem y_laws_toStringS_0 (x1 : T) (x2 : T) (x3 : T) {r : List T} (h : Yields (fun k => b_laws_toStringS_0 (hl env k fi_laws_toStringS) (cl env k) x1 x2 x3) r) : Yields (fun k => l_laws_toStringS_0 (hl env k fi_laws_toStringS) x1 x2 x3) r := Yields.head (fun H C => q_laws_toStringS_0 H C x1 x2 x3) h
noncomputable def l_impl_KindsBad_0 (H : List Item → CS → R) (x1 : T) (x2 : T) (x3 : T) (x4 : T) : R := H (hdAt fi_impl_KindsBad.body 0) ([(0, .val 27 x1), (10, .val 27 x2), (11, .val 3 x3), (12, .val 3 x4)], [])
noncomputable def l_impl_KindsBad_1 (H : List Item → CS → R) (x1 : T) (x2 : T) (x3 : T) (x4 : T) (x5 : T) (x6 : T) (x7 : T) : R := H (hdAt fi_impl_KindsBad.body 1) ([(0, .val 27 x1), (4, .val 3 x2), (10, .val 27 x3), (11, .val 3 x4), (12, .val 3 x5), (22, .val 3 x6), (23, .val 3 x7)], [])
/- loop.example/heirlooms/impl.KindsBad -/
noncomputable abbrev b_impl_KindsBad (H : List Item → CS → R) (C : CallsE) (a0 : T) : R :=
 bif (decide ((a0.es.length : Int) > (3 : Int))) then
 some [(T.int (3 : Int)), (T.int (0 : Int))]
 else
 l_impl_KindsBad_0 H a0 a0 (T.int (a0.es.length : Int)) (T.int (0 : Int))
theorem q_impl_KindsBad (H : List Item → CS → R) (C : CallsE) (a0 : T) : enterE fi_impl_KindsBad env H C [a0] = b_impl_KindsBad H C a0 := by kernel_rfl
theorem y_impl_KindsBad (a0 : T) {r : List T} (h : Yields (fun k => b_impl_KindsBad (hl env k fi_impl_KindsBad) (cl env k) a0) r) : Yields (fun k => cl env k F_impl_KindsBad [a0]) r := Yields.call (fi := fi_impl_KindsBad) rfl (fun H C => q_impl_KindsBad H C a0) h
noncomputable abbrev b_impl_KindsBad_0 (H : List Item → CS → R) (C : CallsE) (x1 : T) (x2 : T) (x3 : T) (x4 : T) : R :=
 bif (decide (x4.i < x3.i)) then
 bif (decide (0 ≤ x4.i) && decide (x4.i.toNat < x2.es.length)) then
 bif (decide ((((x2.nth x4.i.toNat).es).length : Int) > (3 : Int))) then
 some [x4, (T.int (3 : Int))]
 else
 l_impl_KindsBad_1 H x1 x4 x2 x3 x4 (T.int (((x2.nth x4.i.toNat).es).length : Int)) (T.int (0 : Int))
 else
 none
 else
 some [(T.int (-1 : Int)), (T.int (-1 : Int))]
theorem q_impl_KindsBad_0 (H : List Item → CS → R) (C : CallsE) (x1 : T) (x2 : T) (x3 : T) (x4 : T) : headE fi_impl_KindsBad env H C (hdAt fi_impl_KindsBad.body 0) ([(0, .val 27 x1), (10, .val 27 x2), (11, .val 3 x3), (12, .val 3 x4)], []) = b_impl_KindsBad_0 H C x1 x2 x3 x4 := by kernel_rfl
theorem y_impl_KindsBad_0 (x1 : T) (x2 : T) (x3 : T) (x4 : T) {r : List T} (h : Yields (fun k => b_impl_KindsBad_0 (hl env k fi_impl_KindsBad) (cl env k) x1 x2 x3 x4) r) : Yields (fun k => l_impl_KindsBad_0 (hl env k fi_impl_KindsBad) x1 x2 x3 x4) r := Yields.head (fun H C => q_impl_KindsBad_0 H C x1 x2 x3 x4) h
noncomputable abbrev b_impl_KindsBad_1 (H : List Item → CS → R) (C : CallsE) (x1 : T) (x2 : T) (x3 : T) (x4 : T) (x5 : T) (x6 : T) (x7 : T) : R :=
 bif (decide (x7.i < x6.i)) then
 obind (C F_impl_recordOk [x1, x2, x7]) fun r1 =>
 bif (!(rt r1 0).b) then
 some [x2, x7]
 else
 l_impl_KindsBad_1 H x1 x2 x3 x4 x5 x6 (T.int (IntKind.wrap .i64 (x7.i + (1 : Int))))
 else
 l_impl_KindsBad_0 H x1 x3 x4 (T.int (IntKind.wrap .i64 (x5.i + (1 : Int))))
theorem q_impl_KindsBad_1 (H : List Item → CS → R) (C : CallsE) (x1 : T) (x2 : T) (x3 : T) (x4 : T) (x5 : T) (x6 : T) (x7 : T) : headE fi_impl_KindsBad env H C (hdAt fi_impl_KindsBad.body 1) ([(0, .val 27 x1), (4, .val 3 x2), (10, .val 27 x3), (11, .val 3 x4), (12, .val 3 x5), (22, .val 3 x6), (23, .val 3 x7)], []) = b_impl_KindsBad_1 H C x1 x2 x3 x4 x5 x6 x7 := by kernel_rfl
theorem y_impl_KindsBad_1 (x1 : T) (x2 : T) (x3 : T) (x4 : T) (x5 : T) (x6 : T) (x7 : T) {r : List T} (h : Yields (fun k => b_impl_KindsBad_1 (hl env k fi_impl_KindsBad) (cl env k) x1 x2 x3 x4 x5 x6 x7) r) : Yields (fun k => l_impl_KindsBad_1 (hl env k fi_impl_KindsBad) x1 x2 x3 x4 x5 x6 x7) r := Yields.head (fun H C => q_impl_KindsBad_1 H C x1 x2 x3 x4 x5 x6 x7) h
noncomputable def l_laws_eqStringS_0 (H : List Item → CS → R) (x1 : T) (x2 : T) (x3 : T) : R := H (hdAt fi_laws_eqStringS.body 0) ([(0, .val 90 x1), (1, .val 90 x2), (5, .val 3 x3)], [])
/- loop.example/heirlooms/laws.eqStringS -/
noncomputable abbrev b_laws_eqStringS (H : List Item → CS → R) (C : CallsE) (a0 a1 : T) : R :=
 bif ((a0.es.length : Int) != (a1.es.length : Int)) then
 some [(T.bool false)]
 else
 l_laws_eqStringS_0 H a0 a1 (T.int (0 : Int))
theorem q_laws_eqStringS (H : List Item → CS → R) (C : CallsE) (a0 a1 : T) : enterE fi_laws_eqStringS env H C [a0, a1] = b_laws_eqStringS H C a0 a1 := by kernel_rfl
theorem y_laws_eqStringS (a0 a1 : T) {r : List T} (h : Yields (fun k => b_laws_eqStringS (hl env k fi_laws_eqStringS) (cl env k) a0 a1) r) : Yields (fun k => cl env k F_laws_eqStringS [a0, a1]) r := Yields.call (fi := fi_laws_eqStringS) rfl (fun H C => q_laws_eqStringS H C a0 a1) h
noncomputable abbrev b_laws_eqStringS_0 (H : List Item → CS → R) (C : CallsE) (x1 : T) (x2 : T) (x3 : T) : R :=
 bif (decide (x3.i < (x1.es.length : Int))) then
 bif (decide (0 ≤ x3.i) && decide (x3.i.toNat < x1.es.length)) then
 bif (decide (0 ≤ x3.i) && decide (x3.i.toNat < x2.es.length)) then
 bif (!(((x1.nth x3.i.toNat).s).toList == ((x2.nth x3.i.toNat).s).toList)) then
 some [(T.bool false)]
 else
 l_laws_eqStringS_0 H x1 x2 (T.int (IntKind.wrap .i64 (x3.i + (1 : Int))))
 else
 none
 else
 none
 else
 some [(T.bool true)]
theorem q_laws_eqStringS_0 (H : List Item → CS → R) (C : CallsE) (x1 : T) (x2 : T) (x3 : T) : headE fi_laws_eqStringS env H C (hdAt fi_laws_eqStringS.body 0) ([(0, .val 90 x1), (1, .val 90 x2), (5, .val 3 x3)], []) = b_laws_eqStringS_0 H C x1 x2 x3 := by kernel_rfl
theorem y_laws_eqStringS_0 (x1 : T) (x2 : T) (x3 : T) {r : List T} (h : Yields (fun k => b_laws_eqStringS_0 (hl env k fi_laws_eqStringS) (cl env k) x1 x2 x3) r) : Yields (fun k => l_laws_eqStringS_0 (hl env k fi_laws_eqStringS) x1 x2 x3) r := Yields.head (fun H C => q_laws_eqStringS_0 H C x1 x2 x3) h
/- slices.Clip[[]int,int] -/
noncomputable abbrev b_slices_Clip_int (H : List Item → CS → R) (C : CallsE) (a0 : T) : R :=
 bif (decide (0 ≤ (0 : Int)) && (decide ((0 : Int) ≤ (a0.es.length : Int)) && (decide ((a0.es.length : Int) ≤ (a0.es.length : Int)) && decide ((a0.es.length : Int) ≤ (a0.es.length : Int))))) then
 some [(T.sl ((a0.es.take a0.es.length).drop 0))]
 else
 none
theorem q_slices_Clip_int (H : List Item → CS → R) (C : CallsE) (a0 : T) : enterE fi_slices_Clip_int env H C [a0] = b_slices_Clip_int H C a0 := by kernel_rfl
theorem y_slices_Clip_int (a0 : T) {r : List T} (h : Yields (fun k => b_slices_Clip_int (hl env k fi_slices_Clip_int) (cl env k) a0) r) : Yields (fun k => cl env k F_slices_Clip_int [a0]) r := Yields.call (fi := fi_slices_Clip_int) rfl (fun H C => q_slices_Clip_int H C a0) h
/- loop.example/heirlooms/spec.l2Plain -/
noncomputable abbrev b_spec_l2Plain (H : List Item → CS → R) (C : CallsE) (a0 : T) : R :=
 bif ((((a0.fld 2).es).length : Int) == (0 : Int)) then
 some [(T.bool ((((a0.fld 3).es).length : Int) == (0 : Int)))]
 else
 some [(T.bool false)]
theorem e_spec_l2Plain (H : List Item → CS → R) (C : CallsE) (a0 : T) : enterE fi_spec_l2Plain env H C [a0] =
 bif ((!(((((a0.fld 2).es).length : Int) == (0 : Int)) == true)) || true) then
 bif ((!(((((a0.fld 2).es).length : Int) == (0 : Int)) == true)) || (((((a0.fld 2).es).length : Int) == (0 : Int)) == true)) then
 bif ((!(((((a0.fld 2).es).length : Int) == (0 : Int)) == true)) || (((((a0.fld 2).es).length : Int) == (0 : Int)) == true)) then
 bif ((!(((((a0.fld 2).es).length : Int) == (0 : Int)) == true)) || (((((((a0.fld 2).es).length : Int) == (0 : Int)) == true) && true) && true)) then
 bif (bif ((((a0.fld 2).es).length : Int) == (0 : Int)) then (((((a0.fld 2).es).length : Int) == (0 : Int)) == true) else true) then
 some [(bif ((((a0.fld 2).es).length : Int) == (0 : Int)) then (T.bool ((((a0.fld 3).es).length : Int) == (0 : Int))) else (T.bool false))]
 else
 none
 else
 none
 else
 none
 else
 none
 else
 none := by kernel_rfl
theorem q_spec_l2Plain (H : List Item → CS → R) (C : CallsE) (a0 : T) : enterE fi_spec_l2Plain env H C [a0] = b_spec_l2Plain H C a0 := by
 refine (e_spec_l2Plain H C a0).trans ?_
 unfold b_spec_l2Plain
 all_goals cases hc : (((((a0.fld 2).es).length : Int) == (0 : Int))) with
 | true =>
  try simp only [bs]
  all_goals kernel_rfl
 | false =>
  try simp only [bs]
  all_goals kernel_rfl
theorem y_spec_l2Plain (a0 : T) {r : List T} (h : Yields (fun k => b_spec_l2Plain (hl env k fi_spec_l2Plain) (cl env k) a0) r) : Yields (fun k => cl env k F_spec_l2Plain [a0]) r := Yields.call (fi := fi_spec_l2Plain) rfl (fun H C => q_spec_l2Plain H C a0) h
/- loop.example/heirlooms/spec.l1Ref -/
noncomputable abbrev b_spec_l1Ref (H : List Item → CS → R) (C : CallsE) (a0 : T) : R :=
 bif (decide ((a0.s.size : Int) > (0 : Int))) then
 bif (decide (0 ≤ (0 : Int)) && decide (0 < a0.s.size)) then
 bif ((a0.s.data.getD 0 0).toNat == (38 : Int)) then
 some [(T.bool true)]
 else
 some [(T.bool ((a0.s.data.getD 0 0).toNat == (33 : Int)))]
 else
 none
 else
 some [(T.bool false)]
theorem e_spec_l1Ref (H : List Item → CS → R) (C : CallsE) (a0 : T) : enterE fi_spec_l1Ref env H C [a0] =
 bif ((!((decide ((a0.s.size : Int) > (0 : Int))) == true)) || true) then
 bif ((!((decide ((a0.s.size : Int) > (0 : Int))) == true)) || ((((decide ((a0.s.size : Int) > (0 : Int))) == true) && true) && (decide (0 ≤ (0 : Int)) && decide (0 < a0.s.size)))) then
 bif ((!((decide ((a0.s.size : Int) > (0 : Int))) == true)) || ((((decide ((a0.s.size : Int) > (0 : Int))) == true) && true) && true)) then
 bif ((!((decide ((a0.s.size : Int) > (0 : Int))) == true)) || ((decide ((a0.s.size : Int) > (0 : Int))) == true)) then
 bif ((!(((decide ((a0.s.size : Int) > (0 : Int))) == true) && (((a0.s.data.getD 0 0).toNat == (38 : Int)) == false))) || true) then
 bif ((!(((decide ((a0.s.size : Int) > (0 : Int))) == true) && (((a0.s.data.getD 0 0).toNat == (38 : Int)) == false))) || (((((decide ((a0.s.size : Int) > (0 : Int))) == true) && (((a0.s.data.getD 0 0).toNat == (38 : Int)) == false)) && true) && (decide (0 ≤ (0 : Int)) && decide (0 < a0.s.size)))) then
 bif ((!(((decide ((a0.s.size : Int) > (0 : Int))) == true) && (((a0.s.data.getD 0 0).toNat == (38 : Int)) == false))) || (((((decide ((a0.s.size : Int) > (0 : Int))) == true) && (((a0.s.data.getD 0 0).toNat == (38 : Int)) == false)) && true) && true)) then
 bif ((!((decide ((a0.s.size : Int) > (0 : Int))) == true)) || (((decide ((a0.s.size : Int) > (0 : Int))) == true) && (bif ((a0.s.data.getD 0 0).toNat == (38 : Int)) then true else (((decide ((a0.s.size : Int) > (0 : Int))) == true) && (((a0.s.data.getD 0 0).toNat == (38 : Int)) == false))))) then
 bif (bif (decide ((a0.s.size : Int) > (0 : Int))) then ((decide ((a0.s.size : Int) > (0 : Int))) == true) else true) then
 some [(bif (decide ((a0.s.size : Int) > (0 : Int))) then (bif ((a0.s.data.getD 0 0).toNat == (38 : Int)) then (T.bool true) else (T.bool ((a0.s.data.getD 0 0).toNat == (33 : Int)))) else (T.bool false))]
 else
 none
 else
 none
 else
 none
 else
 none
 else
 none
 else
 none
 else
 none
 else
 none
 else
 none := by kernel_rfl
theorem q_spec_l1Ref (H : List Item → CS → R) (C : CallsE) (a0 : T) : enterE fi_spec_l1Ref env H C [a0] = b_spec_l1Ref H C a0 := by
 refine (e_spec_l1Ref H C a0).trans ?_
 unfold b_spec_l1Ref
 all_goals cases hc : ((decide ((a0.s.size : Int) > (0 : Int)))) with
 | true =>
  try simp only [bs]
  all_goals cases hc : ((decide (0 ≤ (0 : Int)) && decide (0 < a0.s.size))) with
  | true =>
   try simp only [bs]
   all_goals cases hc : (((a0.s.data.getD 0 0).toNat == (38 : Int))) with
   | true =>
    try simp only [bs]
    all_goals kernel_rfl
   | false =>
    try simp only [bs]
    all_goals kernel_rfl
  | false =>
   try simp only [bs]
   all_goals kernel_rfl
 | false =>
  try simp only [bs]
  all_goals cases hc : (((a0.s.data.getD 0 0).toNat == (38 : Int))) with
  | true =>
   try simp only [bs]
   all_goals kernel_rfl
  | false =>
   try simp only [bs]
   all_goals kernel_rfl
theorem y_spec_l1Ref (a0 : T) {r : List T} (h : Yields (fun k => b_spec_l1Ref (hl env k fi_spec_l1Ref) (cl env k) a0) r) : Yields (fun k => cl env k F_spec_l1Ref [a0]) r := Yields.call (fi := fi_spec_l1Ref) rfl (fun H C => q_spec_l1Ref H C a0) h
/- loop.example/heirlooms/impl.plainOk -/
noncomputable abbrev b_impl_plainOk (H : List Item → CS → R) (C : CallsE) (a0 a1 : T) : R :=
 bif (a1.s.toList == (⟨#[110]⟩ : ByteArray).toList) then
 some [(T.bool true)]
 else
 bif (a1.s.toList == (⟨#[98]⟩ : ByteArray).toList) then
 some [(T.bool true)]
 else
 bif (a1.s.toList == (⟨#[111]⟩ : ByteArray).toList) then
 some [(T.bool true)]
 else
 obind (C F_impl_kindIn [a0, a1]) fun r1 =>
 some [(rt r1 0)]
theorem e_impl_plainOk (H : List Item → CS → R) (C : CallsE) (a0 a1 : T) : enterE fi_impl_plainOk env H C [a0, a1] =
 bif ((!((a1.s.toList == (⟨#[110]⟩ : ByteArray).toList) == false)) || true) then
 bif ((!((a1.s.toList == (⟨#[110]⟩ : ByteArray).toList) == false)) || ((((a1.s.toList == (⟨#[110]⟩ : ByteArray).toList) == false) && true) && true)) then
 bif (bif (a1.s.toList == (⟨#[110]⟩ : ByteArray).toList) then true else ((a1.s.toList == (⟨#[110]⟩ : ByteArray).toList) == false)) then
 bif ((!((bif (a1.s.toList == (⟨#[110]⟩ : ByteArray).toList) then (T.bool true) else (T.bool (a1.s.toList == (⟨#[98]⟩ : ByteArray).toList))).b == false)) || true) then
 bif ((!((bif (a1.s.toList == (⟨#[110]⟩ : ByteArray).toList) then (T.bool true) else (T.bool (a1.s.toList == (⟨#[98]⟩ : ByteArray).toList))).b == false)) || ((((bif (a1.s.toList == (⟨#[110]⟩ : ByteArray).toList) then (T.bool true) else (T.bool (a1.s.toList == (⟨#[98]⟩ : ByteArray).toList))).b == false) && true) && true)) then
 bif (bif (bif (a1.s.toList == (⟨#[110]⟩ : ByteArray).toList) then (T.bool true) else (T.bool (a1.s.toList == (⟨#[98]⟩ : ByteArray).toList))).b then true else ((bif (a1.s.toList == (⟨#[110]⟩ : ByteArray).toList) then (T.bool true) else (T.bool (a1.s.toList == (⟨#[98]⟩ : ByteArray).toList))).b == false)) then
 bif ((!((bif (bif (a1.s.toList == (⟨#[110]⟩ : ByteArray).toList) then (T.bool true) else (T.bool (a1.s.toList == (⟨#[98]⟩ : ByteArray).toList))).b then (T.bool true) else (T.bool (a1.s.toList == (⟨#[111]⟩ : ByteArray).toList))).b == false)) || true) then
 bif ((!((bif (bif (a1.s.toList == (⟨#[110]⟩ : ByteArray).toList) then (T.bool true) else (T.bool (a1.s.toList == (⟨#[98]⟩ : ByteArray).toList))).b then (T.bool true) else (T.bool (a1.s.toList == (⟨#[111]⟩ : ByteArray).toList))).b == false)) || true) then
 bif ((!((bif (bif (a1.s.toList == (⟨#[110]⟩ : ByteArray).toList) then (T.bool true) else (T.bool (a1.s.toList == (⟨#[98]⟩ : ByteArray).toList))).b then (T.bool true) else (T.bool (a1.s.toList == (⟨#[111]⟩ : ByteArray).toList))).b == false)) || (((bif (bif (a1.s.toList == (⟨#[110]⟩ : ByteArray).toList) then (T.bool true) else (T.bool (a1.s.toList == (⟨#[98]⟩ : ByteArray).toList))).b then (T.bool true) else (T.bool (a1.s.toList == (⟨#[111]⟩ : ByteArray).toList))).b == false) && (((bif (bif (a1.s.toList == (⟨#[110]⟩ : ByteArray).toList) then (T.bool true) else (T.bool (a1.s.toList == (⟨#[98]⟩ : ByteArray).toList))).b then (T.bool true) else (T.bool (a1.s.toList == (⟨#[111]⟩ : ByteArray).toList))).b == false) && true))) then
 obind ((bif ((bif (bif (a1.s.toList == (⟨#[110]⟩ : ByteArray).toList) then (T.bool true) else (T.bool (a1.s.toList == (⟨#[98]⟩ : ByteArray).toList))).b then (T.bool true) else (T.bool (a1.s.toList == (⟨#[111]⟩ : ByteArray).toList))).b == false) then C F_impl_kindIn [a0, a1] else some [])) fun r1 =>
 bif (bif (bif (bif (a1.s.toList == (⟨#[110]⟩ : ByteArray).toList) then (T.bool true) else (T.bool (a1.s.toList == (⟨#[98]⟩ : ByteArray).toList))).b then (T.bool true) else (T.bool (a1.s.toList == (⟨#[111]⟩ : ByteArray).toList))).b then true else ((bif (bif (a1.s.toList == (⟨#[110]⟩ : ByteArray).toList) then (T.bool true) else (T.bool (a1.s.toList == (⟨#[98]⟩ : ByteArray).toList))).b then (T.bool true) else (T.bool (a1.s.toList == (⟨#[111]⟩ : ByteArray).toList))).b == false)) then
 some [(bif (bif (bif (a1.s.toList == (⟨#[110]⟩ : ByteArray).toList) then (T.bool true) else (T.bool (a1.s.toList == (⟨#[98]⟩ : ByteArray).toList))).b then (T.bool true) else (T.bool (a1.s.toList == (⟨#[111]⟩ : ByteArray).toList))).b then (T.bool true) else (rt r1 0))]
 else
 none
 else
 none
 else
 none
 else
 none
 else
 none
 else
 none
 else
 none
 else
 none
 else
 none
 else
 none := by kernel_rfl
theorem q_impl_plainOk (H : List Item → CS → R) (C : CallsE) (a0 a1 : T) : enterE fi_impl_plainOk env H C [a0, a1] = b_impl_plainOk H C a0 a1 := by
 refine (e_impl_plainOk H C a0 a1).trans ?_
 unfold b_impl_plainOk
 all_goals cases hc : ((a1.s.toList == (⟨#[110]⟩ : ByteArray).toList)) with
 | true =>
  try simp only [bs]
  all_goals kernel_rfl
 | false =>
  try simp only [bs]
  all_goals cases hc : ((a1.s.toList == (⟨#[98]⟩ : ByteArray).toList)) with
  | true =>
   try simp only [bs]
   all_goals kernel_rfl
  | false =>
   try simp only [bs]
   all_goals cases hc : ((a1.s.toList == (⟨#[111]⟩ : ByteArray).toList)) with
   | true =>
    try simp only [bs]
    all_goals kernel_rfl
   | false =>
    try simp only [bs]
    all_goals refine obind_congr fun r1 => ?_
    all_goals try simp only [bs]
    all_goals kernel_rfl
theorem y_impl_plainOk (a0 a1 : T) {r : List T} (h : Yields (fun k => b_impl_plainOk (hl env k fi_impl_plainOk) (cl env k) a0 a1) r) : Yields (fun k => cl env k F_impl_plainOk [a0, a1]) r := Yields.call (fi := fi_impl_plainOk) rfl (fun H C => q_impl_plainOk H C a0 a1) h
noncomputable def l_spec_l1Record_0 (H : List Item → CS → R) (x1 : T) (x2 : T) (x3 : T) (x4 : T) (x5 : T) : R := H (hdAt fi_spec_l1Record.body 0) ([(0, .val 27 x1), (1, .val 3 x2), (2, .val 3 x3), (7, .pref 96 7 []), (8, .val 3 x4)], [(7, ⟨96, x5, .fz, true⟩)])
/- loop.example/heirlooms/spec.l1Record -/
noncomputable abbrev b_spec_l1Record (H : List Item → CS → R) (C : CallsE) (a0 a1 a2 : T) : R :=
 bif (decide (0 ≤ a1.i) && decide (a1.i.toNat < a0.es.length)) then
 bif (decide (0 ≤ a2.i) && decide (a2.i.toNat < ((a0.nth a1.i.toNat).es).length)) then
 obind (C F_spec_l6In [(((a0.nth a1.i.toNat).nth a2.i.toNat).fld 0), (T.int (0 : Int)), (T.int (15 : Int))]) fun r1 =>
 bif (!(rt r1 0).b) then
 some [(T.bool false)]
 else
 bif (decide ((((((a0.nth a1.i.toNat).nth a2.i.toNat).fld 1).es).length : Int) > (3 : Int))) then
 some [(T.bool false)]
 else
 l_spec_l1Record_0 H a0 a1 a2 (T.int (0 : Int)) ((a0.nth a1.i.toNat).nth a2.i.toNat)
 else
 none
 else
 none
theorem e_spec_l1Record (H : List Item → CS → R) (C : CallsE) (a0 a1 a2 : T) : enterE fi_spec_l1Record env H C [a0, a1, a2] =
 bif (decide (0 ≤ a1.i) && decide (a1.i.toNat < a0.es.length)) then
 bif (decide (0 ≤ a2.i) && decide (a2.i.toNat < ((a0.nth a1.i.toNat).es).length)) then
 obind (C F_spec_l6In [(((a0.nth a1.i.toNat).nth a2.i.toNat).fld 0), (T.int (0 : Int)), (T.int (15 : Int))]) fun r1 =>
 bif ((!((!(rt r1 0).b) == false)) || true) then
 bif ((!((!(rt r1 0).b) == false)) || ((!(rt r1 0).b) == false)) then
 bif ((!((!(rt r1 0).b) == false)) || ((!(rt r1 0).b) == false)) then
 bif ((!((!(rt r1 0).b) == false)) || ((((!(rt r1 0).b) == false) && true) && true)) then
 bif (bif (!(rt r1 0).b) then true else ((!(rt r1 0).b) == false)) then
 bif (bif (!(rt r1 0).b) then (T.bool true) else (T.bool (decide ((((((a0.nth a1.i.toNat).nth a2.i.toNat).fld 1).es).length : Int) > (3 : Int))))).b then
 some [(T.bool false)]
 else
 l_spec_l1Record_0 H a0 a1 a2 (T.int (0 : Int)) ((a0.nth a1.i.toNat).nth a2.i.toNat)
 else
 none
 else
 none
 else
 none
 else
 none
 else
 none
 else
 none
 else
 none := by kernel_rfl
theorem q_spec_l1Record (H : List Item → CS → R) (C : CallsE) (a0 a1 a2 : T) : enterE fi_spec_l1Record env H C [a0, a1, a2] = b_spec_l1Record H C a0 a1 a2 := by
 refine (e_spec_l1Record H C a0 a1 a2).trans ?_
 unfold b_spec_l1Record
 all_goals cases hc : ((decide (0 ≤ a1.i) && decide (a1.i.toNat < a0.es.length))) with
 | true =>
  try simp only [bs]
  all_goals cases hc : ((decide (0 ≤ a2.i) && decide (a2.i.toNat < ((a0.nth a1.i.toNat).es).length))) with
  | true =>
   try simp only [bs]
   all_goals refine obind_congr fun r1 => ?_
   all_goals try simp only [bs]
   all_goals cases hc : ((!(rt r1 0).b)) with
   | true =>
    try simp only [bs]
    all_goals kernel_rfl
   | false =>
    try simp only [bs]
    all_goals cases hc : ((decide ((((((a0.nth a1.i.toNat).nth a2.i.toNat).fld 1).es).length : Int) > (3 : Int)))) with
    | true =>
     try simp only [bs]
     all_goals kernel_rfl
    | false =>
     try simp only [bs]
     all_goals kernel_rfl
  | false =>
   try simp only [bs]
   all_goals kernel_rfl
 | false =>
  try simp only [bs]
  all_goals kernel_rfl
theorem y_spec_l1Record (a0 a1 a2 : T) {r : List T} (h : Yields (fun k => b_spec_l1Record (hl env k fi_spec_l1Record) (cl env k) a0 a1 a2) r) : Yields (fun k => cl env k F_spec_l1Record [a0, a1, a2]) r := Yields.call (fi := fi_spec_l1Record) rfl (fun H C => q_spec_l1Record H C a0 a1 a2) h
noncomputable abbrev b_spec_l1Record_0 (H : List Item → CS → R) (C : CallsE) (x1 : T) (x2 : T) (x3 : T) (x4 : T) (x5 : T) : R :=
 bif (decide (x4.i < (((x5.fld 1).es).length : Int))) then
 bif (decide (0 ≤ x4.i) && decide (x4.i.toNat < ((x5.fld 1).es).length)) then
 obind (C F_spec_l1Field [x1, x2, x3, ((x5.fld 1).nth x4.i.toNat)]) fun r1 =>
 bif (!(rt r1 0).b) then
 some [(T.bool false)]
 else
 obind (C F_spec_l1Able [x1, ((x5.fld 1).nth x4.i.toNat)]) fun r2 =>
 obind (C F_spec_l1Can [(x5.fld 0), (T.int (1 : Int))]) fun r3 =>
 bif (rt r3 0).b then
 obind (C F_spec_l1Can [(rt r2 0), (T.int (1 : Int))]) fun r4 =>
 bif (!(rt r4 0).b) then
 some [(T.bool false)]
 else
 obind (C F_spec_l1Can [(x5.fld 0), (T.int (2 : Int))]) fun r5 =>
 bif (rt r5 0).b then
 obind (C F_spec_l1Can [(rt r2 0), (T.int (2 : Int))]) fun r6 =>
 bif (!(rt r6 0).b) then
 some [(T.bool false)]
 else
 bif (decide ((x5.fld 0).i ≥ (4 : Int))) then
 obind (C F_spec_l1Can [(rt r2 0), (T.int (4 : Int))]) fun r7 =>
 bif (!(rt r7 0).b) then
 some [(T.bool false)]
 else
 l_spec_l1Record_0 H x1 x2 x3 (T.int (IntKind.wrap .i64 (x4.i + (1 : Int)))) x5
 else
 l_spec_l1Record_0 H x1 x2 x3 (T.int (IntKind.wrap .i64 (x4.i + (1 : Int)))) x5
 else
 bif (decide ((x5.fld 0).i ≥ (4 : Int))) then
 obind (C F_spec_l1Can [(rt r2 0), (T.int (4 : Int))]) fun r6 =>
 bif (!(rt r6 0).b) then
 some [(T.bool false)]
 else
 l_spec_l1Record_0 H x1 x2 x3 (T.int (IntKind.wrap .i64 (x4.i + (1 : Int)))) x5
 else
 l_spec_l1Record_0 H x1 x2 x3 (T.int (IntKind.wrap .i64 (x4.i + (1 : Int)))) x5
 else
 obind (C F_spec_l1Can [(x5.fld 0), (T.int (2 : Int))]) fun r4 =>
 bif (rt r4 0).b then
 obind (C F_spec_l1Can [(rt r2 0), (T.int (2 : Int))]) fun r5 =>
 bif (!(rt r5 0).b) then
 some [(T.bool false)]
 else
 bif (decide ((x5.fld 0).i ≥ (4 : Int))) then
 obind (C F_spec_l1Can [(rt r2 0), (T.int (4 : Int))]) fun r6 =>
 bif (!(rt r6 0).b) then
 some [(T.bool false)]
 else
 l_spec_l1Record_0 H x1 x2 x3 (T.int (IntKind.wrap .i64 (x4.i + (1 : Int)))) x5
 else
 l_spec_l1Record_0 H x1 x2 x3 (T.int (IntKind.wrap .i64 (x4.i + (1 : Int)))) x5
 else
 bif (decide ((x5.fld 0).i ≥ (4 : Int))) then
 obind (C F_spec_l1Can [(rt r2 0), (T.int (4 : Int))]) fun r5 =>
 bif (!(rt r5 0).b) then
 some [(T.bool false)]
 else
 l_spec_l1Record_0 H x1 x2 x3 (T.int (IntKind.wrap .i64 (x4.i + (1 : Int)))) x5
 else
 l_spec_l1Record_0 H x1 x2 x3 (T.int (IntKind.wrap .i64 (x4.i + (1 : Int)))) x5
 else
 none
 else
 some [(T.bool true)]
theorem e_spec_l1Record_0 (H : List Item → CS → R) (C : CallsE) (x1 : T) (x2 : T) (x3 : T) (x4 : T) (x5 : T) : headE fi_spec_l1Record env H C (hdAt fi_spec_l1Record.body 0) ([(0, .val 27 x1), (1, .val 3 x2), (2, .val 3 x3), (7, .pref 96 7 []), (8, .val 3 x4)], [(7, ⟨96, x5, .fz, true⟩)]) =
 bif (decide (x4.i < (((x5.fld 1).es).length : Int))) then
 bif (decide (0 ≤ x4.i) && decide (x4.i.toNat < ((x5.fld 1).es).length)) then
 obind (C F_spec_l1Field [x1, x2, x3, ((x5.fld 1).nth x4.i.toNat)]) fun r1 =>
 bif (!(rt r1 0).b) then
 some [(T.bool false)]
 else
 bif (decide (0 ≤ x4.i) && decide (x4.i.toNat < ((x5.fld 1).es).length)) then
 obind (C F_spec_l1Able [x1, ((x5.fld 1).nth x4.i.toNat)]) fun r2 =>
 obind (C F_spec_l1Can [(x5.fld 0), (T.int (1 : Int))]) fun r3 =>
 bif ((!((rt r3 0).b == true)) || true) then
 bif ((!((rt r3 0).b == true)) || (((rt r3 0).b == true) && true)) then
 obind ((bif ((rt r3 0).b == true) then C F_spec_l1Can [(rt r2 0), (T.int (1 : Int))] else some [])) fun r4 =>
 bif ((!((rt r3 0).b == true)) || ((rt r3 0).b == true)) then
 bif (bif (rt r3 0).b then ((rt r3 0).b == true) else true) then
 bif ((!((bif (rt r3 0).b then (T.bool (!(rt r4 0).b)) else (T.bool false)).b == false)) || true) then
 bif ((!((bif (rt r3 0).b then (T.bool (!(rt r4 0).b)) else (T.bool false)).b == false)) || ((bif (rt r3 0).b then (T.bool (!(rt r4 0).b)) else (T.bool false)).b == false)) then
 bif ((!((bif (rt r3 0).b then (T.bool (!(rt r4 0).b)) else (T.bool false)).b == false)) || (((bif (rt r3 0).b then (T.bool (!(rt r4 0).b)) else (T.bool false)).b == false) && true)) then
 obind ((bif ((bif (rt r3 0).b then (T.bool (!(rt r4 0).b)) else (T.bool false)).b == false) then C F_spec_l1Can [(x5.fld 0), (T.int (2 : Int))] else some [])) fun r5 =>
 bif ((!((bif (rt r3 0).b then (T.bool (!(rt r4 0).b)) else (T.bool false)).b == false)) || ((bif (rt r3 0).b then (T.bool (!(rt r4 0).b)) else (T.bool false)).b == false)) then
 bif ((!(((bif (rt r3 0).b then (T.bool (!(rt r4 0).b)) else (T.bool false)).b == false) && ((rt r5 0).b == true))) || true) then
 bif ((!(((bif (rt r3 0).b then (T.bool (!(rt r4 0).b)) else (T.bool false)).b == false) && ((rt r5 0).b == true))) || ((((bif (rt r3 0).b then (T.bool (!(rt r4 0).b)) else (T.bool false)).b == false) && ((rt r5 0).b == true)) && true)) then
 obind ((bif (((bif (rt r3 0).b then (T.bool (!(rt r4 0).b)) else (T.bool false)).b == false) && ((rt r5 0).b == true)) then C F_spec_l1Can [(rt r2 0), (T.int (2 : Int))] else some [])) fun r6 =>
 bif ((!(((bif (rt r3 0).b then (T.bool (!(rt r4 0).b)) else (T.bool false)).b == false) && ((rt r5 0).b == true))) || (((bif (rt r3 0).b then (T.bool (!(rt r4 0).b)) else (T.bool false)).b == false) && ((rt r5 0).b == true))) then
 bif ((!((bif (rt r3 0).b then (T.bool (!(rt r4 0).b)) else (T.bool false)).b == false)) || (((bif (rt r3 0).b then (T.bool (!(rt r4 0).b)) else (T.bool false)).b == false) && (bif (rt r5 0).b then (((bif (rt r3 0).b then (T.bool (!(rt r4 0).b)) else (T.bool false)).b == false) && ((rt r5 0).b == true)) else true))) then
 bif (bif (bif (rt r3 0).b then (T.bool (!(rt r4 0).b)) else (T.bool false)).b then true else ((bif (rt r3 0).b then (T.bool (!(rt r4 0).b)) else (T.bool false)).b == false)) then
 bif (bif (bif (rt r3 0).b then (T.bool (!(rt r4 0).b)) else (T.bool false)).b then (T.bool true) else (bif (rt r5 0).b then (T.bool (!(rt r6 0).b)) else (T.bool false))).b then
 some [(T.bool false)]
 else
 bif ((!((decide ((x5.fld 0).i ≥ (4 : Int))) == true)) || true) then
 bif ((!((decide ((x5.fld 0).i ≥ (4 : Int))) == true)) || (((decide ((x5.fld 0).i ≥ (4 : Int))) == true) && true)) then
 obind ((bif ((decide ((x5.fld 0).i ≥ (4 : Int))) == true) then C F_spec_l1Can [(rt r2 0), (T.int (4 : Int))] else some [])) fun r7 =>
 bif ((!((decide ((x5.fld 0).i ≥ (4 : Int))) == true)) || ((decide ((x5.fld 0).i ≥ (4 : Int))) == true)) then
 bif (bif (decide ((x5.fld 0).i ≥ (4 : Int))) then ((decide ((x5.fld 0).i ≥ (4 : Int))) == true) else true) then
 bif (bif (decide ((x5.fld 0).i ≥ (4 : Int))) then (T.bool (!(rt r7 0).b)) else (T.bool false)).b then
 some [(T.bool false)]
 else
 l_spec_l1Record_0 H x1 x2 x3 (T.int (IntKind.wrap .i64 (x4.i + (1 : Int)))) x5
 else
 none
 else
 none
 else
 none
 else
 none
 else
 none
 else
 none
 else
 none
 else
 none
 else
 none
 else
 none
 else
 none
 else
 none
 else
 none
 else
 none
 else
 none
 else
 none
 else
 none
 else
 none
 else
 none
 else
 some [(T.bool true)] := by kernel_rfl
theorem q_spec_l1Record_0 (H : List Item → CS → R) (C : CallsE) (x1 : T) (x2 : T) (x3 : T) (x4 : T) (x5 : T) : headE fi_spec_l1Record env H C (hdAt fi_spec_l1Record.body 0) ([(0, .val 27 x1), (1, .val 3 x2), (2, .val 3 x3), (7, .pref 96 7 []), (8, .val 3 x4)], [(7, ⟨96, x5, .fz, true⟩)]) = b_spec_l1Record_0 H C x1 x2 x3 x4 x5 := by
 refine (e_spec_l1Record_0 H C x1 x2 x3 x4 x5).trans ?_
 unfold b_spec_l1Record_0
 all_goals cases hc : ((decide (x4.i < (((x5.fld 1).es).length : Int)))) with
 | true =>
  try simp only [bs]
  all_goals cases hc : ((decide (0 ≤ x4.i) && decide (x4.i.toNat < ((x5.fld 1).es).length))) with
  | true =>
   try simp only [bs]
   all_goals refine obind_congr fun r1 => ?_
   all_goals try simp only [bs]
   all_goals cases hc : ((!(rt r1 0).b)) with
   | true =>
    try simp only [bs]
    all_goals kernel_rfl
   | false =>
    try simp only [bs]
    all_goals refine obind_congr fun r2 => ?_
    all_goals try simp only [bs]
    all_goals refine obind_congr fun r3 => ?_
    all_goals try simp only [bs]
    all_goals cases hc : ((rt r3 0).b) with
    | true =>
     try simp only [bs]
     all_goals refine obind_congr fun r4 => ?_
     all_goals try simp only [bs]
     all_goals cases hc : ((!(rt r4 0).b)) with
     | true =>
      try simp only [bs]
      all_goals cases hc : ((T.int (0 : Int)).b) with
      | true =>
       try simp only [bs]
       all_goals kernel_rfl
      | false =>
       try simp only [bs]
       all_goals kernel_rfl
     | false =>
      try simp only [bs]
      all_goals refine obind_congr fun r5 => ?_
      all_goals try simp only [bs]
      all_goals cases hc : ((rt r5 0).b) with
      | true =>
       try simp only [bs]
       all_goals refine obind_congr fun r6 => ?_
       all_goals try simp only [bs]
       all_goals cases hc : ((!(rt r6 0).b)) with
       | true =>
        try simp only [bs]
        all_goals kernel_rfl
       | false =>
        try simp only [bs]
        all_goals cases hc : ((decide ((x5.fld 0).i ≥ (4 : Int)))) with
        | true =>
         try simp only [bs]
         all_goals refine obind_congr fun r7 => ?_
         all_goals try simp only [bs]
         all_goals cases hc : ((!(rt r7 0).b)) with
         | true =>
          try simp only [bs]
          all_goals kernel_rfl
         | false =>
          try simp only [bs]
          all_goals kernel_rfl
        | false =>
         try simp only [bs]
         all_goals kernel_rfl
      | false =>
       try simp only [bs]
       all_goals cases hc : ((decide ((x5.fld 0).i ≥ (4 : Int)))) with
       | true =>
        try simp only [bs]
        all_goals refine obind_congr fun r6 => ?_
        all_goals try simp only [bs]
        all_goals cases hc : ((!(rt r6 0).b)) with
        | true =>
         try simp only [bs]
         all_goals kernel_rfl
        | false =>
         try simp only [bs]
         all_goals kernel_rfl
       | false =>
        try simp only [bs]
        all_goals kernel_rfl
    | false =>
     try simp only [bs]
     all_goals refine obind_congr fun r4 => ?_
     all_goals try simp only [bs]
     all_goals cases hc : ((rt r4 0).b) with
     | true =>
      try simp only [bs]
      all_goals refine obind_congr fun r5 => ?_
      all_goals try simp only [bs]
      all_goals cases hc : ((!(rt r5 0).b)) with
      | true =>
       try simp only [bs]
       all_goals kernel_rfl
      | false =>
       try simp only [bs]
       all_goals cases hc : ((decide ((x5.fld 0).i ≥ (4 : Int)))) with
       | true =>
        try simp only [bs]
        all_goals refine obind_congr fun r6 => ?_
        all_goals try simp only [bs]
        all_goals cases hc : ((!(rt r6 0).b)) with
        | true =>
         try simp only [bs]
         all_goals kernel_rfl
        | false =>
         try simp only [bs]
         all_goals kernel_rfl
       | false =>
        try simp only [bs]
        all_goals kernel_rfl
     | false =>
      try simp only [bs]
      all_goals cases hc : ((decide ((x5.fld 0).i ≥ (4 : Int)))) with
      | true =>
       try simp only [bs]
       all_goals refine obind_congr fun r5 => ?_
       all_goals try simp only [bs]
       all_goals cases hc : ((!(rt r5 0).b)) with
       | true =>
        try simp only [bs]
        all_goals kernel_rfl
       | false =>
        try simp only [bs]
        all_goals kernel_rfl
      | false =>
       try simp only [bs]
       all_goals kernel_rfl
  | false =>
   try simp only [bs]
   all_goals kernel_rfl
 | false =>
  try simp only [bs]
  all_goals kernel_rfl
theorem y_spec_l1Record_0 (x1 : T) (x2 : T) (x3 : T) (x4 : T) (x5 : T) {r : List T} (h : Yields (fun k => b_spec_l1Record_0 (hl env k fi_spec_l1Record) (cl env k) x1 x2 x3 x4 x5) r) : Yields (fun k => l_spec_l1Record_0 (hl env k fi_spec_l1Record) x1 x2 x3 x4 x5) r := Yields.head (fun H C => q_spec_l1Record_0 H C x1 x2 x3 x4 x5) h
noncomputable def l_impl_recordOk_0 (H : List Item → CS → R) (x1 : T) (x2 : T) (x3 : T) (x4 : T) (x5 : T) (x6 : T) (x7 : T) : R := H (hdAt fi_impl_recordOk.body 0) ([(0, .val 27 x1), (1, .val 3 x2), (2, .val 3 x3), (7, .pref 96 7 []), (36, .val 90 x4), (37, .val 3 x5), (38, .val 3 x6)], [(7, ⟨96, x7, .fz, true⟩)])
/- loop.example/heirlooms/impl.recordOk -/
noncomputable abbrev b_impl_recordOk (H : List Item → CS → R) (C : CallsE) (a0 a1 a2 : T) : R :=
 bif (decide (0 ≤ a1.i) && decide (a1.i.toNat < a0.es.length)) then
 bif (decide (0 ≤ a2.i) && decide (a2.i.toNat < ((a0.nth a1.i.toNat).es).length)) then
 bif (decide ((((a0.nth a1.i.toNat).nth a2.i.toNat).fld 0).i < (0 : Int))) then
 some [(T.bool false)]
 else
 bif (decide ((((a0.nth a1.i.toNat).nth a2.i.toNat).fld 0).i > (15 : Int))) then
 some [(T.bool false)]
 else
 bif (decide ((((((a0.nth a1.i.toNat).nth a2.i.toNat).fld 1).es).length : Int) > (3 : Int))) then
 some [(T.bool false)]
 else
 l_impl_recordOk_0 H a0 a1 a2 (((a0.nth a1.i.toNat).nth a2.i.toNat).fld 1) (T.int (((((a0.nth a1.i.toNat).nth a2.i.toNat).fld 1).es).length : Int)) (T.int (0 : Int)) ((a0.nth a1.i.toNat).nth a2.i.toNat)
 else
 none
 else
 none
theorem e_impl_recordOk (H : List Item → CS → R) (C : CallsE) (a0 a1 a2 : T) : enterE fi_impl_recordOk env H C [a0, a1, a2] =
 bif (decide (0 ≤ a1.i) && decide (a1.i.toNat < a0.es.length)) then
 bif (decide (0 ≤ a2.i) && decide (a2.i.toNat < ((a0.nth a1.i.toNat).es).length)) then
 bif ((!((decide ((((a0.nth a1.i.toNat).nth a2.i.toNat).fld 0).i < (0 : Int))) == false)) || true) then
 bif ((!((decide ((((a0.nth a1.i.toNat).nth a2.i.toNat).fld 0).i < (0 : Int))) == false)) || ((decide ((((a0.nth a1.i.toNat).nth a2.i.toNat).fld 0).i < (0 : Int))) == false)) then
 bif ((!((decide ((((a0.nth a1.i.toNat).nth a2.i.toNat).fld 0).i < (0 : Int))) == false)) || ((((decide ((((a0.nth a1.i.toNat).nth a2.i.toNat).fld 0).i < (0 : Int))) == false) && true) && true)) then
 bif (bif (decide ((((a0.nth a1.i.toNat).nth a2.i.toNat).fld 0).i < (0 : Int))) then true else ((decide ((((a0.nth a1.i.toNat).nth a2.i.toNat).fld 0).i < (0 : Int))) == false)) then
 bif ((!((bif (decide ((((a0.nth a1.i.toNat).nth a2.i.toNat).fld 0).i < (0 : Int))) then (T.bool true) else (T.bool (decide ((((a0.nth a1.i.toNat).nth a2.i.toNat).fld 0).i > (15 : Int))))).b == false)) || true) then
 bif ((!((bif (decide ((((a0.nth a1.i.toNat).nth a2.i.toNat).fld 0).i < (0 : Int))) then (T.bool true) else (T.bool (decide ((((a0.nth a1.i.toNat).nth a2.i.toNat).fld 0).i > (15 : Int))))).b == false)) || ((bif (decide ((((a0.nth a1.i.toNat).nth a2.i.toNat).fld 0).i < (0 : Int))) then (T.bool true) else (T.bool (decide ((((a0.nth a1.i.toNat).nth a2.i.toNat).fld 0).i > (15 : Int))))).b == false)) then
 bif ((!((bif (decide ((((a0.nth a1.i.toNat).nth a2.i.toNat).fld 0).i < (0 : Int))) then (T.bool true) else (T.bool (decide ((((a0.nth a1.i.toNat).nth a2.i.toNat).fld 0).i > (15 : Int))))).b == false)) || ((bif (decide ((((a0.nth a1.i.toNat).nth a2.i.toNat).fld 0).i < (0 : Int))) then (T.bool true) else (T.bool (decide ((((a0.nth a1.i.toNat).nth a2.i.toNat).fld 0).i > (15 : Int))))).b == false)) then
 bif ((!((bif (decide ((((a0.nth a1.i.toNat).nth a2.i.toNat).fld 0).i < (0 : Int))) then (T.bool true) else (T.bool (decide ((((a0.nth a1.i.toNat).nth a2.i.toNat).fld 0).i > (15 : Int))))).b == false)) || ((((bif (decide ((((a0.nth a1.i.toNat).nth a2.i.toNat).fld 0).i < (0 : Int))) then (T.bool true) else (T.bool (decide ((((a0.nth a1.i.toNat).nth a2.i.toNat).fld 0).i > (15 : Int))))).b == false) && true) && true)) then
 bif (bif (bif (decide ((((a0.nth a1.i.toNat).nth a2.i.toNat).fld 0).i < (0 : Int))) then (T.bool true) else (T.bool (decide ((((a0.nth a1.i.toNat).nth a2.i.toNat).fld 0).i > (15 : Int))))).b then true else ((bif (decide ((((a0.nth a1.i.toNat).nth a2.i.toNat).fld 0).i < (0 : Int))) then (T.bool true) else (T.bool (decide ((((a0.nth a1.i.toNat).nth a2.i.toNat).fld 0).i > (15 : Int))))).b == false)) then
 bif (bif (bif (decide ((((a0.nth a1.i.toNat).nth a2.i.toNat).fld 0).i < (0 : Int))) then (T.bool true) else (T.bool (decide ((((a0.nth a1.i.toNat).nth a2.i.toNat).fld 0).i > (15 : Int))))).b then (T.bool true) else (T.bool (decide ((((((a0.nth a1.i.toNat).nth a2.i.toNat).fld 1).es).length : Int) > (3 : Int))))).b then
 some [(T.bool false)]
 else
 l_impl_recordOk_0 H a0 a1 a2 (((a0.nth a1.i.toNat).nth a2.i.toNat).fld 1) (T.int (((((a0.nth a1.i.toNat).nth a2.i.toNat).fld 1).es).length : Int)) (T.int (0 : Int)) ((a0.nth a1.i.toNat).nth a2.i.toNat)
 else
 none
 else
 none
 else
 none
 else
 none
 else
 none
 else
 none
 else
 none
 else
 none
 else
 none
 else
 none
 else
 none := by kernel_rfl
theorem q_impl_recordOk (H : List Item → CS → R) (C : CallsE) (a0 a1 a2 : T) : enterE fi_impl_recordOk env H C [a0, a1, a2] = b_impl_recordOk H C a0 a1 a2 := by
 refine (e_impl_recordOk H C a0 a1 a2).trans ?_
 unfold b_impl_recordOk
 all_goals cases hc : ((decide (0 ≤ a1.i) && decide (a1.i.toNat < a0.es.length))) with
 | true =>
  try simp only [bs]
  all_goals cases hc : ((decide (0 ≤ a2.i) && decide (a2.i.toNat < ((a0.nth a1.i.toNat).es).length))) with
  | true =>
   try simp only [bs]
   all_goals cases hc : ((decide ((((a0.nth a1.i.toNat).nth a2.i.toNat).fld 0).i < (0 : Int)))) with
   | true =>
    try simp only [bs]
    all_goals kernel_rfl
   | false =>
    try simp only [bs]
    all_goals cases hc : ((decide ((((a0.nth a1.i.toNat).nth a2.i.toNat).fld 0).i > (15 : Int)))) with
    | true =>
     try simp only [bs]
     all_goals kernel_rfl
    | false =>
     try simp only [bs]
     all_goals cases hc : ((decide ((((((a0.nth a1.i.toNat).nth a2.i.toNat).fld 1).es).length : Int) > (3 : Int)))) with
     | true =>
      try simp only [bs]
      all_goals kernel_rfl
     | false =>
      try simp only [bs]
      all_goals kernel_rfl
  | false =>
   try simp only [bs]
   all_goals kernel_rfl
 | false =>
  try simp only [bs]
  all_goals kernel_rfl
theorem y_impl_recordOk (a0 a1 a2 : T) {r : List T} (h : Yields (fun k => b_impl_recordOk (hl env k fi_impl_recordOk) (cl env k) a0 a1 a2) r) : Yields (fun k => cl env k F_impl_recordOk [a0, a1, a2]) r := Yields.call (fi := fi_impl_recordOk) rfl (fun H C => q_impl_recordOk H C a0 a1 a2) h
noncomputable abbrev b_impl_recordOk_0 (H : List Item → CS → R) (C : CallsE) (x1 : T) (x2 : T) (x3 : T) (x4 : T) (x5 : T) (x6 : T) (x7 : T) : R :=
 bif (decide (x6.i < x5.i)) then
 bif (decide (0 ≤ x6.i) && decide (x6.i.toNat < x4.es.length)) then
 obind (C F_impl_kindAt [(x4.nth x6.i.toNat)]) fun r1 =>
 bif (rt r1 2).b then
 bif (decide ((rt r1 0).i > x2.i)) then
 some [(T.bool false)]
 else
 bif ((rt r1 0).i == x2.i) then
 bif (decide ((rt r1 1).i ≥ x3.i)) then
 some [(T.bool false)]
 else
 obind (C F_impl_plainOk [x1, (x4.nth x6.i.toNat)]) fun r2 =>
 bif (!(rt r2 0).b) then
 some [(T.bool false)]
 else
 obind (C F_impl_ableOf [x1, (x4.nth x6.i.toNat)]) fun r3 =>
 bif ((IntKind.wrap .i64 ((BitVec.ofInt (IntKind.i64).bits (IntKind.wrap .i64 ((BitVec.ofInt (IntKind.i64).bits ((x7.fld 0).i) &&& BitVec.ofInt (IntKind.i64).bits (7 : Int)).toNat : Nat)) &&& ~~~ BitVec.ofInt (IntKind.i64).bits ((rt r3 0).i)).toNat : Nat)) != (0 : Int)) then
 some [(T.bool false)]
 else
 bif ((IntKind.wrap .i64 ((BitVec.ofInt (IntKind.i64).bits ((x7.fld 0).i) &&& BitVec.ofInt (IntKind.i64).bits (8 : Int)).toNat : Nat)) != (0 : Int)) then
 bif ((IntKind.wrap .i64 ((BitVec.ofInt (IntKind.i64).bits ((rt r3 0).i) &&& BitVec.ofInt (IntKind.i64).bits (4 : Int)).toNat : Nat)) == (0 : Int)) then
 some [(T.bool false)]
 else
 l_impl_recordOk_0 H x1 x2 x3 x4 x5 (T.int (IntKind.wrap .i64 (x6.i + (1 : Int)))) x7
 else
 l_impl_recordOk_0 H x1 x2 x3 x4 x5 (T.int (IntKind.wrap .i64 (x6.i + (1 : Int)))) x7
 else
 obind (C F_impl_plainOk [x1, (x4.nth x6.i.toNat)]) fun r2 =>
 bif (!(rt r2 0).b) then
 some [(T.bool false)]
 else
 obind (C F_impl_ableOf [x1, (x4.nth x6.i.toNat)]) fun r3 =>
 bif ((IntKind.wrap .i64 ((BitVec.ofInt (IntKind.i64).bits (IntKind.wrap .i64 ((BitVec.ofInt (IntKind.i64).bits ((x7.fld 0).i) &&& BitVec.ofInt (IntKind.i64).bits (7 : Int)).toNat : Nat)) &&& ~~~ BitVec.ofInt (IntKind.i64).bits ((rt r3 0).i)).toNat : Nat)) != (0 : Int)) then
 some [(T.bool false)]
 else
 bif ((IntKind.wrap .i64 ((BitVec.ofInt (IntKind.i64).bits ((x7.fld 0).i) &&& BitVec.ofInt (IntKind.i64).bits (8 : Int)).toNat : Nat)) != (0 : Int)) then
 bif ((IntKind.wrap .i64 ((BitVec.ofInt (IntKind.i64).bits ((rt r3 0).i) &&& BitVec.ofInt (IntKind.i64).bits (4 : Int)).toNat : Nat)) == (0 : Int)) then
 some [(T.bool false)]
 else
 l_impl_recordOk_0 H x1 x2 x3 x4 x5 (T.int (IntKind.wrap .i64 (x6.i + (1 : Int)))) x7
 else
 l_impl_recordOk_0 H x1 x2 x3 x4 x5 (T.int (IntKind.wrap .i64 (x6.i + (1 : Int)))) x7
 else
 obind (C F_impl_plainOk [x1, (x4.nth x6.i.toNat)]) fun r2 =>
 bif (!(rt r2 0).b) then
 some [(T.bool false)]
 else
 obind (C F_impl_ableOf [x1, (x4.nth x6.i.toNat)]) fun r3 =>
 bif ((IntKind.wrap .i64 ((BitVec.ofInt (IntKind.i64).bits (IntKind.wrap .i64 ((BitVec.ofInt (IntKind.i64).bits ((x7.fld 0).i) &&& BitVec.ofInt (IntKind.i64).bits (7 : Int)).toNat : Nat)) &&& ~~~ BitVec.ofInt (IntKind.i64).bits ((rt r3 0).i)).toNat : Nat)) != (0 : Int)) then
 some [(T.bool false)]
 else
 bif ((IntKind.wrap .i64 ((BitVec.ofInt (IntKind.i64).bits ((x7.fld 0).i) &&& BitVec.ofInt (IntKind.i64).bits (8 : Int)).toNat : Nat)) != (0 : Int)) then
 bif ((IntKind.wrap .i64 ((BitVec.ofInt (IntKind.i64).bits ((rt r3 0).i) &&& BitVec.ofInt (IntKind.i64).bits (4 : Int)).toNat : Nat)) == (0 : Int)) then
 some [(T.bool false)]
 else
 l_impl_recordOk_0 H x1 x2 x3 x4 x5 (T.int (IntKind.wrap .i64 (x6.i + (1 : Int)))) x7
 else
 l_impl_recordOk_0 H x1 x2 x3 x4 x5 (T.int (IntKind.wrap .i64 (x6.i + (1 : Int)))) x7
 else
 none
 else
 some [(T.bool true)]
theorem e_impl_recordOk_0 (H : List Item → CS → R) (C : CallsE) (x1 : T) (x2 : T) (x3 : T) (x4 : T) (x5 : T) (x6 : T) (x7 : T) : headE fi_impl_recordOk env H C (hdAt fi_impl_recordOk.body 0) ([(0, .val 27 x1), (1, .val 3 x2), (2, .val 3 x3), (7, .pref 96 7 []), (36, .val 90 x4), (37, .val 3 x5), (38, .val 3 x6)], [(7, ⟨96, x7, .fz, true⟩)]) =
 bif (decide (x6.i < x5.i)) then
 bif (decide (0 ≤ x6.i) && decide (x6.i.toNat < x4.es.length)) then
 obind (C F_impl_kindAt [(x4.nth x6.i.toNat)]) fun r1 =>
 bif ((!((rt r1 2).b == true)) || true) then
 bif ((!((rt r1 2).b == true)) || true) then
 bif ((!((rt r1 2).b == true)) || ((((rt r1 2).b == true) && ((rt r1 2).b == true)) && true)) then
 bif ((!((rt r1 2).b == true)) || ((rt r1 2).b == true)) then
 bif ((!(((rt r1 2).b == true) && ((decide ((rt r1 0).i > x2.i)) == false))) || true) then
 bif ((!(((rt r1 2).b == true) && ((decide ((rt r1 0).i > x2.i)) == false))) || true) then
 bif ((!(((rt r1 2).b == true) && ((decide ((rt r1 0).i > x2.i)) == false))) || (((((rt r1 2).b == true) && ((decide ((rt r1 0).i > x2.i)) == false)) && (((rt r1 2).b == true) && ((decide ((rt r1 0).i > x2.i)) == false))) && true)) then
 bif ((!(((rt r1 2).b == true) && ((decide ((rt r1 0).i > x2.i)) == false))) || (((rt r1 2).b == true) && ((decide ((rt r1 0).i > x2.i)) == false))) then
 bif ((!((((rt r1 2).b == true) && ((decide ((rt r1 0).i > x2.i)) == false)) && (((rt r1 0).i == x2.i) == true))) || true) then
 bif ((!((((rt r1 2).b == true) && ((decide ((rt r1 0).i > x2.i)) == false)) && (((rt r1 0).i == x2.i) == true))) || true) then
 bif ((!((((rt r1 2).b == true) && ((decide ((rt r1 0).i > x2.i)) == false)) && (((rt r1 0).i == x2.i) == true))) || ((((((rt r1 2).b == true) && ((decide ((rt r1 0).i > x2.i)) == false)) && (((rt r1 0).i == x2.i) == true)) && ((((rt r1 2).b == true) && ((decide ((rt r1 0).i > x2.i)) == false)) && (((rt r1 0).i == x2.i) == true))) && true)) then
 bif ((!(((rt r1 2).b == true) && ((decide ((rt r1 0).i > x2.i)) == false))) || ((((rt r1 2).b == true) && ((decide ((rt r1 0).i > x2.i)) == false)) && (bif ((rt r1 0).i == x2.i) then ((((rt r1 2).b == true) && ((decide ((rt r1 0).i > x2.i)) == false)) && (((rt r1 0).i == x2.i) == true)) else true))) then
 bif ((!((rt r1 2).b == true)) || (((rt r1 2).b == true) && (bif (decide ((rt r1 0).i > x2.i)) then true else (((rt r1 2).b == true) && ((decide ((rt r1 0).i > x2.i)) == false))))) then
 bif (bif (rt r1 2).b then ((rt r1 2).b == true) else true) then
 bif ((!((bif (rt r1 2).b then (bif (decide ((rt r1 0).i > x2.i)) then (T.bool true) else (bif ((rt r1 0).i == x2.i) then (T.bool (decide ((rt r1 1).i ≥ x3.i))) else (T.bool false))) else (T.bool false)).b == false)) || true) then
 bif ((!((bif (rt r1 2).b then (bif (decide ((rt r1 0).i > x2.i)) then (T.bool true) else (bif ((rt r1 0).i == x2.i) then (T.bool (decide ((rt r1 1).i ≥ x3.i))) else (T.bool false))) else (T.bool false)).b == false)) || true) then
 bif ((!((bif (rt r1 2).b then (bif (decide ((rt r1 0).i > x2.i)) then (T.bool true) else (bif ((rt r1 0).i == x2.i) then (T.bool (decide ((rt r1 1).i ≥ x3.i))) else (T.bool false))) else (T.bool false)).b == false)) || (((bif (rt r1 2).b then (bif (decide ((rt r1 0).i > x2.i)) then (T.bool true) else (bif ((rt r1 0).i == x2.i) then (T.bool (decide ((rt r1 1).i ≥ x3.i))) else (T.bool false))) else (T.bool false)).b == false) && (((bif (rt r1 2).b then (bif (decide ((rt r1 0).i > x2.i)) then (T.bool true) else (bif ((rt r1 0).i == x2.i) then (T.bool (decide ((rt r1 1).i ≥ x3.i))) else (T.bool false))) else (T.bool false)).b == false) && true))) then
 obind ((bif ((bif (rt r1 2).b then (bif (decide ((rt r1 0).i > x2.i)) then (T.bool true) else (bif ((rt r1 0).i == x2.i) then (T.bool (decide ((rt r1 1).i ≥ x3.i))) else (T.bool false))) else (T.bool false)).b == false) then C F_impl_plainOk [x1, (x4.nth x6.i.toNat)] else some [])) fun r2 =>
 bif ((!((bif (rt r1 2).b then (bif (decide ((rt r1 0).i > x2.i)) then (T.bool true) else (bif ((rt r1 0).i == x2.i) then (T.bool (decide ((rt r1 1).i ≥ x3.i))) else (T.bool false))) else (T.bool false)).b == false)) || ((bif (rt r1 2).b then (bif (decide ((rt r1 0).i > x2.i)) then (T.bool true) else (bif ((rt r1 0).i == x2.i) then (T.bool (decide ((rt r1 1).i ≥ x3.i))) else (T.bool false))) else (T.bool false)).b == false)) then
 bif (bif (bif (rt r1 2).b then (bif (decide ((rt r1 0).i > x2.i)) then (T.bool true) else (bif ((rt r1 0).i == x2.i) then (T.bool (decide ((rt r1 1).i ≥ x3.i))) else (T.bool false))) else (T.bool false)).b then true else ((bif (rt r1 2).b then (bif (decide ((rt r1 0).i > x2.i)) then (T.bool true) else (bif ((rt r1 0).i == x2.i) then (T.bool (decide ((rt r1 1).i ≥ x3.i))) else (T.bool false))) else (T.bool false)).b == false)) then
 bif (bif (bif (rt r1 2).b then (bif (decide ((rt r1 0).i > x2.i)) then (T.bool true) else (bif ((rt r1 0).i == x2.i) then (T.bool (decide ((rt r1 1).i ≥ x3.i))) else (T.bool false))) else (T.bool false)).b then (T.bool true) else (T.bool (!(rt r2 0).b))).b then
 some [(T.bool false)]
 else
 obind (C F_impl_ableOf [x1, (x4.nth x6.i.toNat)]) fun r3 =>
 bif ((!(((IntKind.wrap .i64 ((BitVec.ofInt (IntKind.i64).bits (IntKind.wrap .i64 ((BitVec.ofInt (IntKind.i64).bits ((x7.fld 0).i) &&& BitVec.ofInt (IntKind.i64).bits (7 : Int)).toNat : Nat)) &&& ~~~ BitVec.ofInt (IntKind.i64).bits ((rt r3 0).i)).toNat : Nat)) != (0 : Int)) == false)) || true) then
 bif ((!(((IntKind.wrap .i64 ((BitVec.ofInt (IntKind.i64).bits (IntKind.wrap .i64 ((BitVec.ofInt (IntKind.i64).bits ((x7.fld 0).i) &&& BitVec.ofInt (IntKind.i64).bits (7 : Int)).toNat : Nat)) &&& ~~~ BitVec.ofInt (IntKind.i64).bits ((rt r3 0).i)).toNat : Nat)) != (0 : Int)) == false)) || (((IntKind.wrap .i64 ((BitVec.ofInt (IntKind.i64).bits (IntKind.wrap .i64 ((BitVec.ofInt (IntKind.i64).bits ((x7.fld 0).i) &&& BitVec.ofInt (IntKind.i64).bits (7 : Int)).toNat : Nat)) &&& ~~~ BitVec.ofInt (IntKind.i64).bits ((rt r3 0).i)).toNat : Nat)) != (0 : Int)) == false)) then
 bif ((!(((IntKind.wrap .i64 ((BitVec.ofInt (IntKind.i64).bits (IntKind.wrap .i64 ((BitVec.ofInt (IntKind.i64).bits ((x7.fld 0).i) &&& BitVec.ofInt (IntKind.i64).bits (7 : Int)).toNat : Nat)) &&& ~~~ BitVec.ofInt (IntKind.i64).bits ((rt r3 0).i)).toNat : Nat)) != (0 : Int)) == false)) || (((((IntKind.wrap .i64 ((BitVec.ofInt (IntKind.i64).bits (IntKind.wrap .i64 ((BitVec.ofInt (IntKind.i64).bits ((x7.fld 0).i) &&& BitVec.ofInt (IntKind.i64).bits (7 : Int)).toNat : Nat)) &&& ~~~ BitVec.ofInt (IntKind.i64).bits ((rt r3 0).i)).toNat : Nat)) != (0 : Int)) == false) && true) && true)) then
 bif ((!(((IntKind.wrap .i64 ((BitVec.ofInt (IntKind.i64).bits (IntKind.wrap .i64 ((BitVec.ofInt (IntKind.i64).bits ((x7.fld 0).i) &&& BitVec.ofInt (IntKind.i64).bits (7 : Int)).toNat : Nat)) &&& ~~~ BitVec.ofInt (IntKind.i64).bits ((rt r3 0).i)).toNat : Nat)) != (0 : Int)) == false)) || (((((IntKind.wrap .i64 ((BitVec.ofInt (IntKind.i64).bits (IntKind.wrap .i64 ((BitVec.ofInt (IntKind.i64).bits ((x7.fld 0).i) &&& BitVec.ofInt (IntKind.i64).bits (7 : Int)).toNat : Nat)) &&& ~~~ BitVec.ofInt (IntKind.i64).bits ((rt r3 0).i)).toNat : Nat)) != (0 : Int)) == false) && true) && true)) then
 bif ((!(((IntKind.wrap .i64 ((BitVec.ofInt (IntKind.i64).bits (IntKind.wrap .i64 ((BitVec.ofInt (IntKind.i64).bits ((x7.fld 0).i) &&& BitVec.ofInt (IntKind.i64).bits (7 : Int)).toNat : Nat)) &&& ~~~ BitVec.ofInt (IntKind.i64).bits ((rt r3 0).i)).toNat : Nat)) != (0 : Int)) == false)) || (((IntKind.wrap .i64 ((BitVec.ofInt (IntKind.i64).bits (IntKind.wrap .i64 ((BitVec.ofInt (IntKind.i64).bits ((x7.fld 0).i) &&& BitVec.ofInt (IntKind.i64).bits (7 : Int)).toNat : Nat)) &&& ~~~ BitVec.ofInt (IntKind.i64).bits ((rt r3 0).i)).toNat : Nat)) != (0 : Int)) == false)) then
 bif ((!((((IntKind.wrap .i64 ((BitVec.ofInt (IntKind.i64).bits (IntKind.wrap .i64 ((BitVec.ofInt (IntKind.i64).bits ((x7.fld 0).i) &&& BitVec.ofInt (IntKind.i64).bits (7 : Int)).toNat : Nat)) &&& ~~~ BitVec.ofInt (IntKind.i64).bits ((rt r3 0).i)).toNat : Nat)) != (0 : Int)) == false) && (((IntKind.wrap .i64 ((BitVec.ofInt (IntKind.i64).bits ((x7.fld 0).i) &&& BitVec.ofInt (IntKind.i64).bits (8 : Int)).toNat : Nat)) != (0 : Int)) == true))) || true) then
 bif ((!((((IntKind.wrap .i64 ((BitVec.ofInt (IntKind.i64).bits (IntKind.wrap .i64 ((BitVec.ofInt (IntKind.i64).bits ((x7.fld 0).i) &&& BitVec.ofInt (IntKind.i64).bits (7 : Int)).toNat : Nat)) &&& ~~~ BitVec.ofInt (IntKind.i64).bits ((rt r3 0).i)).toNat : Nat)) != (0 : Int)) == false) && (((IntKind.wrap .i64 ((BitVec.ofInt (IntKind.i64).bits ((x7.fld 0).i) &&& BitVec.ofInt (IntKind.i64).bits (8 : Int)).toNat : Nat)) != (0 : Int)) == true))) || ((((((IntKind.wrap .i64 ((BitVec.ofInt (IntKind.i64).bits (IntKind.wrap .i64 ((BitVec.ofInt (IntKind.i64).bits ((x7.fld 0).i) &&& BitVec.ofInt (IntKind.i64).bits (7 : Int)).toNat : Nat)) &&& ~~~ BitVec.ofInt (IntKind.i64).bits ((rt r3 0).i)).toNat : Nat)) != (0 : Int)) == false) && (((IntKind.wrap .i64 ((BitVec.ofInt (IntKind.i64).bits ((x7.fld 0).i) &&& BitVec.ofInt (IntKind.i64).bits (8 : Int)).toNat : Nat)) != (0 : Int)) == true)) && true) && true)) then
 bif ((!((((IntKind.wrap .i64 ((BitVec.ofInt (IntKind.i64).bits (IntKind.wrap .i64 ((BitVec.ofInt (IntKind.i64).bits ((x7.fld 0).i) &&& BitVec.ofInt (IntKind.i64).bits (7 : Int)).toNat : Nat)) &&& ~~~ BitVec.ofInt (IntKind.i64).bits ((rt r3 0).i)).toNat : Nat)) != (0 : Int)) == false) && (((IntKind.wrap .i64 ((BitVec.ofInt (IntKind.i64).bits ((x7.fld 0).i) &&& BitVec.ofInt (IntKind.i64).bits (8 : Int)).toNat : Nat)) != (0 : Int)) == true))) || ((((((IntKind.wrap .i64 ((BitVec.ofInt (IntKind.i64).bits (IntKind.wrap .i64 ((BitVec.ofInt (IntKind.i64).bits ((x7.fld 0).i) &&& BitVec.ofInt (IntKind.i64).bits (7 : Int)).toNat : Nat)) &&& ~~~ BitVec.ofInt (IntKind.i64).bits ((rt r3 0).i)).toNat : Nat)) != (0 : Int)) == false) && (((IntKind.wrap .i64 ((BitVec.ofInt (IntKind.i64).bits ((x7.fld 0).i) &&& BitVec.ofInt (IntKind.i64).bits (8 : Int)).toNat : Nat)) != (0 : Int)) == true)) && true) && true)) then
 bif ((!(((IntKind.wrap .i64 ((BitVec.ofInt (IntKind.i64).bits (IntKind.wrap .i64 ((BitVec.ofInt (IntKind.i64).bits ((x7.fld 0).i) &&& BitVec.ofInt (IntKind.i64).bits (7 : Int)).toNat : Nat)) &&& ~~~ BitVec.ofInt (IntKind.i64).bits ((rt r3 0).i)).toNat : Nat)) != (0 : Int)) == false)) || ((((IntKind.wrap .i64 ((BitVec.ofInt (IntKind.i64).bits (IntKind.wrap .i64 ((BitVec.ofInt (IntKind.i64).bits ((x7.fld 0).i) &&& BitVec.ofInt (IntKind.i64).bits (7 : Int)).toNat : Nat)) &&& ~~~ BitVec.ofInt (IntKind.i64).bits ((rt r3 0).i)).toNat : Nat)) != (0 : Int)) == false) && (bif ((IntKind.wrap .i64 ((BitVec.ofInt (IntKind.i64).bits ((x7.fld 0).i) &&& BitVec.ofInt (IntKind.i64).bits (8 : Int)).toNat : Nat)) != (0 : Int)) then ((((IntKind.wrap .i64 ((BitVec.ofInt (IntKind.i64).bits (IntKind.wrap .i64 ((BitVec.ofInt (IntKind.i64).bits ((x7.fld 0).i) &&& BitVec.ofInt (IntKind.i64).bits (7 : Int)).toNat : Nat)) &&& ~~~ BitVec.ofInt (IntKind.i64).bits ((rt r3 0).i)).toNat : Nat)) != (0 : Int)) == false) && (((IntKind.wrap .i64 ((BitVec.ofInt (IntKind.i64).bits ((x7.fld 0).i) &&& BitVec.ofInt (IntKind.i64).bits (8 : Int)).toNat : Nat)) != (0 : Int)) == true)) else true))) then
 bif (bif ((IntKind.wrap .i64 ((BitVec.ofInt (IntKind.i64).bits (IntKind.wrap .i64 ((BitVec.ofInt (IntKind.i64).bits ((x7.fld 0).i) &&& BitVec.ofInt (IntKind.i64).bits (7 : Int)).toNat : Nat)) &&& ~~~ BitVec.ofInt (IntKind.i64).bits ((rt r3 0).i)).toNat : Nat)) != (0 : Int)) then true else (((IntKind.wrap .i64 ((BitVec.ofInt (IntKind.i64).bits (IntKind.wrap .i64 ((BitVec.ofInt (IntKind.i64).bits ((x7.fld 0).i) &&& BitVec.ofInt (IntKind.i64).bits (7 : Int)).toNat : Nat)) &&& ~~~ BitVec.ofInt (IntKind.i64).bits ((rt r3 0).i)).toNat : Nat)) != (0 : Int)) == false)) then
 bif (bif ((IntKind.wrap .i64 ((BitVec.ofInt (IntKind.i64).bits (IntKind.wrap .i64 ((BitVec.ofInt (IntKind.i64).bits ((x7.fld 0).i) &&& BitVec.ofInt (IntKind.i64).bits (7 : Int)).toNat : Nat)) &&& ~~~ BitVec.ofInt (IntKind.i64).bits ((rt r3 0).i)).toNat : Nat)) != (0 : Int)) then (T.bool true) else (bif ((IntKind.wrap .i64 ((BitVec.ofInt (IntKind.i64).bits ((x7.fld 0).i) &&& BitVec.ofInt (IntKind.i64).bits (8 : Int)).toNat : Nat)) != (0 : Int)) then (T.bool ((IntKind.wrap .i64 ((BitVec.ofInt (IntKind.i64).bits ((rt r3 0).i) &&& BitVec.ofInt (IntKind.i64).bits (4 : Int)).toNat : Nat)) == (0 : Int))) else (T.bool false))).b then
 some [(T.bool false)]
 else
 l_impl_recordOk_0 H x1 x2 x3 x4 x5 (T.int (IntKind.wrap .i64 (x6.i + (1 : Int)))) x7
 else
 none
 else
 none
 else
 none
 else
 none
 else
 none
 else
 none
 else
 none
 else
 none
 else
 none
 else
 none
 else
 none
 else
 none
 else
 none
 else
 none
 else
 none
 else
 none
 else
 none
 else
 none
 else
 none
 else
 none
 else
 none
 else
 none
 else
 none
 else
 none
 else
 none
 else
 none
 else
 none
 else
 none
 else
 none
 else
 none
 else
 some [(T.bool true)] := by kernel_rfl
theorem q_impl_recordOk_0 (H : List Item → CS → R) (C : CallsE) (x1 : T) (x2 : T) (x3 : T) (x4 : T) (x5 : T) (x6 : T) (x7 : T) : headE fi_impl_recordOk env H C (hdAt fi_impl_recordOk.body 0) ([(0, .val 27 x1), (1, .val 3 x2), (2, .val 3 x3), (7, .pref 96 7 []), (36, .val 90 x4), (37, .val 3 x5), (38, .val 3 x6)], [(7, ⟨96, x7, .fz, true⟩)]) = b_impl_recordOk_0 H C x1 x2 x3 x4 x5 x6 x7 := by
 refine (e_impl_recordOk_0 H C x1 x2 x3 x4 x5 x6 x7).trans ?_
 unfold b_impl_recordOk_0
 all_goals cases hc : ((decide (x6.i < x5.i))) with
 | true =>
  try simp only [bs]
  all_goals cases hc : ((decide (0 ≤ x6.i) && decide (x6.i.toNat < x4.es.length))) with
  | true =>
   try simp only [bs]
   all_goals refine obind_congr fun r1 => ?_
   all_goals try simp only [bs]
   all_goals cases hc : ((rt r1 2).b) with
   | true =>
    try simp only [bs]
    all_goals cases hc : ((decide ((rt r1 0).i > x2.i))) with
    | true =>
     try simp only [bs]
     all_goals cases hc : (((rt r1 0).i == x2.i)) with
     | true =>
      try simp only [bs]
      all_goals kernel_rfl
     | false =>
      try simp only [bs]
      all_goals kernel_rfl
    | false =>
     try simp only [bs]
     all_goals cases hc : (((rt r1 0).i == x2.i)) with
     | true =>
      try simp only [bs]
      all_goals cases hc : ((decide ((rt r1 1).i ≥ x3.i))) with
      | true =>
       try simp only [bs]
       all_goals kernel_rfl
      | false =>
       try simp only [bs]
       all_goals refine obind_congr fun r2 => ?_
       all_goals try simp only [bs]
       all_goals cases hc : ((!(rt r2 0).b)) with
       | true =>
        try simp only [bs]
        all_goals kernel_rfl
       | false =>
        try simp only [bs]
        all_goals refine obind_congr fun r3 => ?_
        all_goals try simp only [bs]
        all_goals cases hc : (((IntKind.wrap .i64 ((BitVec.ofInt (IntKind.i64).bits (IntKind.wrap .i64 ((BitVec.ofInt (IntKind.i64).bits ((x7.fld 0).i) &&& BitVec.ofInt (IntKind.i64).bits (7 : Int)).toNat : Nat)) &&& ~~~ BitVec.ofInt (IntKind.i64).bits ((rt r3 0).i)).toNat : Nat)) != (0 : Int))) with
        | true =>
         try simp only [bs]
         all_goals cases hc : (((IntKind.wrap .i64 ((BitVec.ofInt (IntKind.i64).bits ((x7.fld 0).i) &&& BitVec.ofInt (IntKind.i64).bits (8 : Int)).toNat : Nat)) != (0 : Int))) with
         | true =>
          try simp only [bs]
          all_goals kernel_rfl
         | false =>
          try simp only [bs]
          all_goals kernel_rfl
        | false =>
         try simp only [bs]
         all_goals cases hc : (((IntKind.wrap .i64 ((BitVec.ofInt (IntKind.i64).bits ((x7.fld 0).i) &&& BitVec.ofInt (IntKind.i64).bits (8 : Int)).toNat : Nat)) != (0 : Int))) with
         | true =>
          try simp only [bs]
          all_goals cases hc : (((IntKind.wrap .i64 ((BitVec.ofInt (IntKind.i64).bits ((rt r3 0).i) &&& BitVec.ofInt (IntKind.i64).bits (4 : Int)).toNat : Nat)) == (0 : Int))) with
          | true =>
           try simp only [bs]
           all_goals kernel_rfl
          | false =>
           try simp only [bs]
           all_goals kernel_rfl
         | false =>
          try simp only [bs]
          all_goals kernel_rfl
     | false =>
      try simp only [bs]
      all_goals refine obind_congr fun r2 => ?_
      all_goals try simp only [bs]
      all_goals cases hc : ((!(rt r2 0).b)) with
      | true =>
       try simp only [bs]
       all_goals kernel_rfl
      | false =>
       try simp only [bs]
       all_goals refine obind_congr fun r3 => ?_
       all_goals try simp only [bs]
       all_goals cases hc : (((IntKind.wrap .i64 ((BitVec.ofInt (IntKind.i64).bits (IntKind.wrap .i64 ((BitVec.ofInt (IntKind.i64).bits ((x7.fld 0).i) &&& BitVec.ofInt (IntKind.i64).bits (7 : Int)).toNat : Nat)) &&& ~~~ BitVec.ofInt (IntKind.i64).bits ((rt r3 0).i)).toNat : Nat)) != (0 : Int))) with
       | true =>
        try simp only [bs]
        all_goals cases hc : (((IntKind.wrap .i64 ((BitVec.ofInt (IntKind.i64).bits ((x7.fld 0).i) &&& BitVec.ofInt (IntKind.i64).bits (8 : Int)).toNat : Nat)) != (0 : Int))) with
        | true =>
         try simp only [bs]
         all_goals kernel_rfl
        | false =>
         try simp only [bs]
         all_goals kernel_rfl
       | false =>
        try simp only [bs]
        all_goals cases hc : (((IntKind.wrap .i64 ((BitVec.ofInt (IntKind.i64).bits ((x7.fld 0).i) &&& BitVec.ofInt (IntKind.i64).bits (8 : Int)).toNat : Nat)) != (0 : Int))) with
        | true =>
         try simp only [bs]
         all_goals cases hc : (((IntKind.wrap .i64 ((BitVec.ofInt (IntKind.i64).bits ((rt r3 0).i) &&& BitVec.ofInt (IntKind.i64).bits (4 : Int)).toNat : Nat)) == (0 : Int))) with
         | true =>
          try simp only [bs]
          all_goals kernel_rfl
         | false =>
          try simp only [bs]
          all_goals kernel_rfl
        | false =>
         try simp only [bs]
         all_goals kernel_rfl
   | false =>
    try simp only [bs]
    all_goals cases hc : ((decide ((rt r1 0).i > x2.i))) with
    | true =>
     try simp only [bs]
     all_goals cases hc : (((rt r1 0).i == x2.i)) with
     | true =>
      try simp only [bs]
      all_goals refine obind_congr fun r2 => ?_
      all_goals try simp only [bs]
      all_goals cases hc : ((!(rt r2 0).b)) with
      | true =>
       try simp only [bs]
       all_goals kernel_rfl
      | false =>
       try simp only [bs]
       all_goals refine obind_congr fun r3 => ?_
       all_goals try simp only [bs]
       all_goals cases hc : (((IntKind.wrap .i64 ((BitVec.ofInt (IntKind.i64).bits (IntKind.wrap .i64 ((BitVec.ofInt (IntKind.i64).bits ((x7.fld 0).i) &&& BitVec.ofInt (IntKind.i64).bits (7 : Int)).toNat : Nat)) &&& ~~~ BitVec.ofInt (IntKind.i64).bits ((rt r3 0).i)).toNat : Nat)) != (0 : Int))) with
       | true =>
        try simp only [bs]
        all_goals cases hc : (((IntKind.wrap .i64 ((BitVec.ofInt (IntKind.i64).bits ((x7.fld 0).i) &&& BitVec.ofInt (IntKind.i64).bits (8 : Int)).toNat : Nat)) != (0 : Int))) with
        | true =>
         try simp only [bs]
         all_goals kernel_rfl
        | false =>
         try simp only [bs]
         all_goals kernel_rfl
       | false =>
        try simp only [bs]
        all_goals cases hc : (((IntKind.wrap .i64 ((BitVec.ofInt (IntKind.i64).bits ((x7.fld 0).i) &&& BitVec.ofInt (IntKind.i64).bits (8 : Int)).toNat : Nat)) != (0 : Int))) with
        | true =>
         try simp only [bs]
         all_goals cases hc : (((IntKind.wrap .i64 ((BitVec.ofInt (IntKind.i64).bits ((rt r3 0).i) &&& BitVec.ofInt (IntKind.i64).bits (4 : Int)).toNat : Nat)) == (0 : Int))) with
         | true =>
          try simp only [bs]
          all_goals kernel_rfl
         | false =>
          try simp only [bs]
          all_goals kernel_rfl
        | false =>
         try simp only [bs]
         all_goals kernel_rfl
     | false =>
      try simp only [bs]
      all_goals refine obind_congr fun r2 => ?_
      all_goals try simp only [bs]
      all_goals cases hc : ((!(rt r2 0).b)) with
      | true =>
       try simp only [bs]
       all_goals kernel_rfl
      | false =>
       try simp only [bs]
       all_goals refine obind_congr fun r3 => ?_
       all_goals try simp only [bs]
       all_goals cases hc : (((IntKind.wrap .i64 ((BitVec.ofInt (IntKind.i64).bits (IntKind.wrap .i64 ((BitVec.ofInt (IntKind.i64).bits ((x7.fld 0).i) &&& BitVec.ofInt (IntKind.i64).bits (7 : Int)).toNat : Nat)) &&& ~~~ BitVec.ofInt (IntKind.i64).bits ((rt r3 0).i)).toNat : Nat)) != (0 : Int))) with
       | true =>
        try simp only [bs]
        all_goals cases hc : (((IntKind.wrap .i64 ((BitVec.ofInt (IntKind.i64).bits ((x7.fld 0).i) &&& BitVec.ofInt (IntKind.i64).bits (8 : Int)).toNat : Nat)) != (0 : Int))) with
        | true =>
         try simp only [bs]
         all_goals kernel_rfl
        | false =>
         try simp only [bs]
         all_goals kernel_rfl
       | false =>
        try simp only [bs]
        all_goals cases hc : (((IntKind.wrap .i64 ((BitVec.ofInt (IntKind.i64).bits ((x7.fld 0).i) &&& BitVec.ofInt (IntKind.i64).bits (8 : Int)).toNat : Nat)) != (0 : Int))) with
        | true =>
         try simp only [bs]
         all_goals cases hc : (((IntKind.wrap .i64 ((BitVec.ofInt (IntKind.i64).bits ((rt r3 0).i) &&& BitVec.ofInt (IntKind.i64).bits (4 : Int)).toNat : Nat)) == (0 : Int))) with
         | true =>
          try simp only [bs]
          all_goals kernel_rfl
         | false =>
          try simp only [bs]
          all_goals kernel_rfl
        | false =>
         try simp only [bs]
         all_goals kernel_rfl
    | false =>
     try simp only [bs]
     all_goals cases hc : (((rt r1 0).i == x2.i)) with
     | true =>
      try simp only [bs]
      all_goals refine obind_congr fun r2 => ?_
      all_goals try simp only [bs]
      all_goals cases hc : ((!(rt r2 0).b)) with
      | true =>
       try simp only [bs]
       all_goals kernel_rfl
      | false =>
       try simp only [bs]
       all_goals refine obind_congr fun r3 => ?_
       all_goals try simp only [bs]
       all_goals cases hc : (((IntKind.wrap .i64 ((BitVec.ofInt (IntKind.i64).bits (IntKind.wrap .i64 ((BitVec.ofInt (IntKind.i64).bits ((x7.fld 0).i) &&& BitVec.ofInt (IntKind.i64).bits (7 : Int)).toNat : Nat)) &&& ~~~ BitVec.ofInt (IntKind.i64).bits ((rt r3 0).i)).toNat : Nat)) != (0 : Int))) with
       | true =>
        try simp only [bs]
        all_goals cases hc : (((IntKind.wrap .i64 ((BitVec.ofInt (IntKind.i64).bits ((x7.fld 0).i) &&& BitVec.ofInt (IntKind.i64).bits (8 : Int)).toNat : Nat)) != (0 : Int))) with
        | true =>
         try simp only [bs]
         all_goals kernel_rfl
        | false =>
         try simp only [bs]
         all_goals kernel_rfl
       | false =>
        try simp only [bs]
        all_goals cases hc : (((IntKind.wrap .i64 ((BitVec.ofInt (IntKind.i64).bits ((x7.fld 0).i) &&& BitVec.ofInt (IntKind.i64).bits (8 : Int)).toNat : Nat)) != (0 : Int))) with
        | true =>
         try simp only [bs]
         all_goals cases hc : (((IntKind.wrap .i64 ((BitVec.ofInt (IntKind.i64).bits ((rt r3 0).i) &&& BitVec.ofInt (IntKind.i64).bits (4 : Int)).toNat : Nat)) == (0 : Int))) with
         | true =>
          try simp only [bs]
          all_goals kernel_rfl
         | false =>
          try simp only [bs]
          all_goals kernel_rfl
        | false =>
         try simp only [bs]
         all_goals kernel_rfl
     | false =>
      try simp only [bs]
      all_goals refine obind_congr fun r2 => ?_
      all_goals try simp only [bs]
      all_goals cases hc : ((!(rt r2 0).b)) with
      | true =>
       try simp only [bs]
       all_goals kernel_rfl
      | false =>
       try simp only [bs]
       all_goals refine obind_congr fun r3 => ?_
       all_goals try simp only [bs]
       all_goals cases hc : (((IntKind.wrap .i64 ((BitVec.ofInt (IntKind.i64).bits (IntKind.wrap .i64 ((BitVec.ofInt (IntKind.i64).bits ((x7.fld 0).i) &&& BitVec.ofInt (IntKind.i64).bits (7 : Int)).toNat : Nat)) &&& ~~~ BitVec.ofInt (IntKind.i64).bits ((rt r3 0).i)).toNat : Nat)) != (0 : Int))) with
       | true =>
        try simp only [bs]
        all_goals cases hc : (((IntKind.wrap .i64 ((BitVec.ofInt (IntKind.i64).bits ((x7.fld 0).i) &&& BitVec.ofInt (IntKind.i64).bits (8 : Int)).toNat : Nat)) != (0 : Int))) with
        | true =>
         try simp only [bs]
         all_goals kernel_rfl
        | false =>
         try simp only [bs]
         all_goals kernel_rfl
       | false =>
        try simp only [bs]
        all_goals cases hc : (((IntKind.wrap .i64 ((BitVec.ofInt (IntKind.i64).bits ((x7.fld 0).i) &&& BitVec.ofInt (IntKind.i64).bits (8 : Int)).toNat : Nat)) != (0 : Int))) with
        | true =>
         try simp only [bs]
         all_goals cases hc : (((IntKind.wrap .i64 ((BitVec.ofInt (IntKind.i64).bits ((rt r3 0).i) &&& BitVec.ofInt (IntKind.i64).bits (4 : Int)).toNat : Nat)) == (0 : Int))) with
         | true =>
          try simp only [bs]
          all_goals kernel_rfl
         | false =>
          try simp only [bs]
          all_goals kernel_rfl
        | false =>
         try simp only [bs]
         all_goals kernel_rfl
  | false =>
   try simp only [bs]
   all_goals kernel_rfl
 | false =>
  try simp only [bs]
  all_goals kernel_rfl
theorem y_impl_recordOk_0 (x1 : T) (x2 : T) (x3 : T) (x4 : T) (x5 : T) (x6 : T) (x7 : T) {r : List T} (h : Yields (fun k => b_impl_recordOk_0 (hl env k fi_impl_recordOk) (cl env k) x1 x2 x3 x4 x5 x6 x7) r) : Yields (fun k => l_impl_recordOk_0 (hl env k fi_impl_recordOk) x1 x2 x3 x4 x5 x6 x7) r := Yields.head (fun H C => q_impl_recordOk_0 H C x1 x2 x3 x4 x5 x6 x7) h
/- loop.example/heirlooms/spec.l1Field -/
noncomputable abbrev b_spec_l1Field (H : List Item → CS → R) (C : CallsE) (a0 a1 a2 a3 : T) : R :=
 obind (C F_spec_l1Kind [a3]) fun r1 =>
 bif (!(rt r1 2).b) then
 obind (C F_spec_l1Base [a3]) fun r2 =>
 some [(rt r2 0)]
 else
 obind (C F_spec_l1Has [a0, (rt r1 0), (rt r1 1)]) fun r2 =>
 bif (rt r2 0).b then
 bif (decide ((rt r1 0).i < a1.i)) then
 some [(T.bool true)]
 else
 bif ((rt r1 0).i == a1.i) then
 some [(T.bool (decide ((rt r1 1).i < a2.i)))]
 else
 some [(T.bool false)]
 else
 some [(T.bool false)]
theorem e_spec_l1Field (H : List Item → CS → R) (C : CallsE) (a0 a1 a2 a3 : T) : enterE fi_spec_l1Field env H C [a0, a1, a2, a3] =
 obind (C F_spec_l1Kind [a3]) fun r1 =>
 bif (!(rt r1 2).b) then
 obind (C F_spec_l1Base [a3]) fun r2 =>
 some [(rt r2 0)]
 else
 obind (C F_spec_l1Has [a0, (rt r1 0), (rt r1 1)]) fun r3 =>
 bif ((!((rt r3 0).b == true)) || true) then
 bif ((!((rt r3 0).b == true)) || true) then
 bif ((!((rt r3 0).b == true)) || ((((rt r3 0).b == true) && ((rt r3 0).b == true)) && true)) then
 bif ((!((rt r3 0).b == true)) || ((rt r3 0).b == true)) then
 bif ((!(((rt r3 0).b == true) && ((decide ((rt r1 0).i < a1.i)) == false))) || true) then
 bif ((!(((rt r3 0).b == true) && ((decide ((rt r1 0).i < a1.i)) == false))) || true) then
 bif ((!(((rt r3 0).b == true) && ((decide ((rt r1 0).i < a1.i)) == false))) || (((((rt r3 0).b == true) && ((decide ((rt r1 0).i < a1.i)) == false)) && (((rt r3 0).b == true) && ((decide ((rt r1 0).i < a1.i)) == false))) && true)) then
 bif ((!(((rt r3 0).b == true) && ((decide ((rt r1 0).i < a1.i)) == false))) || (((rt r3 0).b == true) && ((decide ((rt r1 0).i < a1.i)) == false))) then
 bif ((!((((rt r3 0).b == true) && ((decide ((rt r1 0).i < a1.i)) == false)) && (((rt r1 0).i == a1.i) == true))) || true) then
 bif ((!((((rt r3 0).b == true) && ((decide ((rt r1 0).i < a1.i)) == false)) && (((rt r1 0).i == a1.i) == true))) || true) then
 bif ((!((((rt r3 0).b == true) && ((decide ((rt r1 0).i < a1.i)) == false)) && (((rt r1 0).i == a1.i) == true))) || ((((((rt r3 0).b == true) && ((decide ((rt r1 0).i < a1.i)) == false)) && (((rt r1 0).i == a1.i) == true)) && ((((rt r3 0).b == true) && ((decide ((rt r1 0).i < a1.i)) == false)) && (((rt r1 0).i == a1.i) == true))) && true)) then
 bif ((!(((rt r3 0).b == true) && ((decide ((rt r1 0).i < a1.i)) == false))) || ((((rt r3 0).b == true) && ((decide ((rt r1 0).i < a1.i)) == false)) && (bif ((rt r1 0).i == a1.i) then ((((rt r3 0).b == true) && ((decide ((rt r1 0).i < a1.i)) == false)) && (((rt r1 0).i == a1.i) == true)) else true))) then
 bif ((!((rt r3 0).b == true)) || (((rt r3 0).b == true) && (bif (decide ((rt r1 0).i < a1.i)) then true else (((rt r3 0).b == true) && ((decide ((rt r1 0).i < a1.i)) == false))))) then
 bif (bif (rt r3 0).b then ((rt r3 0).b == true) else true) then
 some [(bif (rt r3 0).b then (bif (decide ((rt r1 0).i < a1.i)) then (T.bool true) else (bif ((rt r1 0).i == a1.i) then (T.bool (decide ((rt r1 1).i < a2.i))) else (T.bool false))) else (T.bool false))]
 else
 none
 else
 none
 else
 none
 else
 none
 else
 none
 else
 none
 else
 none
 else
 none
 else
 none
 else
 none
 else
 none
 else
 none
 else
 none
 else
 none := by kernel_rfl
theorem q_spec_l1Field (H : List Item → CS → R) (C : CallsE) (a0 a1 a2 a3 : T) : enterE fi_spec_l1Field env H C [a0, a1, a2, a3] = b_spec_l1Field H C a0 a1 a2 a3 := by
 refine (e_spec_l1Field H C a0 a1 a2 a3).trans ?_
 unfold b_spec_l1Field
 all_goals refine obind_congr fun r1 => ?_
 all_goals try simp only [bs]
 all_goals cases hc : ((!(rt r1 2).b)) with
 | true =>
  try simp only [bs]
  all_goals refine obind_congr fun r2 => ?_
  all_goals try simp only [bs]
  all_goals kernel_rfl
 | false =>
  try simp only [bs]
  all_goals refine obind_congr fun r2 => ?_
  all_goals try simp only [bs]
  all_goals cases hc : ((rt r2 0).b) with
  | true =>
   try simp only [bs]
   all_goals cases hc : ((decide ((rt r1 0).i < a1.i))) with
   | true =>
    try simp only [bs]
    all_goals cases hc : (((rt r1 0).i == a1.i)) with
    | true =>
     try simp only [bs]
     all_goals kernel_rfl
    | false =>
     try simp only [bs]
     all_goals kernel_rfl
   | false =>
    try simp only [bs]
    all_goals cases hc : (((rt r1 0).i == a1.i)) with
    | true =>
     try simp only [bs]
     all_goals kernel_rfl
    | false =>
     try simp only [bs]
     all_goals kernel_rfl
  | false =>
   try simp only [bs]
   all_goals cases hc : ((decide ((rt r1 0).i < a1.i))) with
   | true =>
    try simp only [bs]
    all_goals cases hc : (((rt r1 0).i == a1.i)) with
    | true =>
     try simp only [bs]
     all_goals kernel_rfl
    | false =>
     try simp only [bs]
     all_goals kernel_rfl
   | false =>
    try simp only [bs]
    all_goals cases hc : (((rt r1 0).i == a1.i)) with
    | true =>
     try simp only [bs]
     all_goals kernel_rfl
    | false =>
     try simp only [bs]
     all_goals kernel_rfl
theorem y_spec_l1Field (a0 a1 a2 a3 : T) {r : List T} (h : Yields (fun k => b_spec_l1Field (hl env k fi_spec_l1Field) (cl env k) a0 a1 a2 a3) r) : Yields (fun k => cl env k F_spec_l1Field [a0, a1, a2, a3]) r := Yields.call (fi := fi_spec_l1Field) rfl (fun H C => q_spec_l1Field H C a0 a1 a2 a3) h
/- loop.example/heirlooms/impl.ableOf -/
noncomputable abbrev b_impl_ableOf (H : List Item → CS → R) (C : CallsE) (a0 a1 : T) : R :=
 obind (C F_impl_signOf [a1]) fun r1 =>
 bif (((rt r1 0).s).toList == (⟨#[38]⟩ : ByteArray).toList) then
 some [(T.int (3 : Int))]
 else
 bif (((rt r1 0).s).toList == (⟨#[33]⟩ : ByteArray).toList) then
 some [(T.int (2 : Int))]
 else
 obind (C F_impl_kindIn [a0, (rt r1 1)]) fun r2 =>
 bif (rt r2 0).b then
 obind (C F_impl_recordOf [a0, (rt r1 1)]) fun r3 =>
 some [((rt r3 0).fld 0)]
 else
 some [(T.int (7 : Int))]
theorem q_impl_ableOf (H : List Item → CS → R) (C : CallsE) (a0 a1 : T) : enterE fi_impl_ableOf env H C [a0, a1] = b_impl_ableOf H C a0 a1 := by kernel_rfl
theorem y_impl_ableOf (a0 a1 : T) {r : List T} (h : Yields (fun k => b_impl_ableOf (hl env k fi_impl_ableOf) (cl env k) a0 a1) r) : Yields (fun k => cl env k F_impl_ableOf [a0, a1]) r := Yields.call (fi := fi_impl_ableOf) rfl (fun H C => q_impl_ableOf H C a0 a1) h
/- loop.example/heirlooms/impl.signOf -/
noncomputable abbrev b_impl_signOf (H : List Item → CS → R) (C : CallsE) (a0 : T) : R :=
 bif (!(a0.s.toList == (⟨#[]⟩ : ByteArray).toList)) then
 bif (decide (0 ≤ (0 : Int)) && decide (0 < a0.s.size)) then
 bif ((a0.s.data.getD 0 0).toNat == (38 : Int)) then
 bif (decide (0 ≤ (0 : Int)) && (decide ((0 : Int) ≤ (1 : Int)) && (decide ((1 : Int) ≤ (a0.s.size : Int)) && decide ((a0.s.size : Int) ≤ (a0.s.size : Int))))) then
 bif (decide (0 ≤ (1 : Int)) && (decide ((1 : Int) ≤ (a0.s.size : Int)) && (decide ((a0.s.size : Int) ≤ (a0.s.size : Int)) && decide ((a0.s.size : Int) ≤ (a0.s.size : Int))))) then
 some [(T.str (a0.s.extract 0 1)), (T.str (a0.s.extract 1 a0.s.size))]
 else
 none
 else
 none
 else
 bif ((a0.s.data.getD 0 0).toNat == (33 : Int)) then
 bif (decide (0 ≤ (0 : Int)) && (decide ((0 : Int) ≤ (1 : Int)) && (decide ((1 : Int) ≤ (a0.s.size : Int)) && decide ((a0.s.size : Int) ≤ (a0.s.size : Int))))) then
 bif (decide (0 ≤ (1 : Int)) && (decide ((1 : Int) ≤ (a0.s.size : Int)) && (decide ((a0.s.size : Int) ≤ (a0.s.size : Int)) && decide ((a0.s.size : Int) ≤ (a0.s.size : Int))))) then
 some [(T.str (a0.s.extract 0 1)), (T.str (a0.s.extract 1 a0.s.size))]
 else
 none
 else
 none
 else
 some [(T.str (⟨#[]⟩ : ByteArray)), a0]
 else
 none
 else
 some [(T.str (⟨#[]⟩ : ByteArray)), a0]
theorem e_impl_signOf (H : List Item → CS → R) (C : CallsE) (a0 : T) : enterE fi_impl_signOf env H C [a0] =
 bif ((!((!(a0.s.toList == (⟨#[]⟩ : ByteArray).toList)) == true)) || true) then
 bif ((!((!(a0.s.toList == (⟨#[]⟩ : ByteArray).toList)) == true)) || ((((!(a0.s.toList == (⟨#[]⟩ : ByteArray).toList)) == true) && true) && (decide (0 ≤ (0 : Int)) && decide (0 < a0.s.size)))) then
 bif ((!((!(a0.s.toList == (⟨#[]⟩ : ByteArray).toList)) == true)) || ((((!(a0.s.toList == (⟨#[]⟩ : ByteArray).toList)) == true) && true) && true)) then
 bif ((!((!(a0.s.toList == (⟨#[]⟩ : ByteArray).toList)) == true)) || ((!(a0.s.toList == (⟨#[]⟩ : ByteArray).toList)) == true)) then
 bif ((!(((!(a0.s.toList == (⟨#[]⟩ : ByteArray).toList)) == true) && (((a0.s.data.getD 0 0).toNat == (38 : Int)) == false))) || true) then
 bif ((!(((!(a0.s.toList == (⟨#[]⟩ : ByteArray).toList)) == true) && (((a0.s.data.getD 0 0).toNat == (38 : Int)) == false))) || (((((!(a0.s.toList == (⟨#[]⟩ : ByteArray).toList)) == true) && (((a0.s.data.getD 0 0).toNat == (38 : Int)) == false)) && true) && (decide (0 ≤ (0 : Int)) && decide (0 < a0.s.size)))) then
 bif ((!(((!(a0.s.toList == (⟨#[]⟩ : ByteArray).toList)) == true) && (((a0.s.data.getD 0 0).toNat == (38 : Int)) == false))) || (((((!(a0.s.toList == (⟨#[]⟩ : ByteArray).toList)) == true) && (((a0.s.data.getD 0 0).toNat == (38 : Int)) == false)) && true) && true)) then
 bif ((!((!(a0.s.toList == (⟨#[]⟩ : ByteArray).toList)) == true)) || (((!(a0.s.toList == (⟨#[]⟩ : ByteArray).toList)) == true) && (bif ((a0.s.data.getD 0 0).toNat == (38 : Int)) then true else (((!(a0.s.toList == (⟨#[]⟩ : ByteArray).toList)) == true) && (((a0.s.data.getD 0 0).toNat == (38 : Int)) == false))))) then
 bif (bif (!(a0.s.toList == (⟨#[]⟩ : ByteArray).toList)) then ((!(a0.s.toList == (⟨#[]⟩ : ByteArray).toList)) == true) else true) then
 bif (bif (!(a0.s.toList == (⟨#[]⟩ : ByteArray).toList)) then (bif ((a0.s.data.getD 0 0).toNat == (38 : Int)) then (T.bool true) else (T.bool ((a0.s.data.getD 0 0).toNat == (33 : Int)))) else (T.bool false)).b then
 bif (decide (0 ≤ (0 : Int)) && (decide ((0 : Int) ≤ (1 : Int)) && (decide ((1 : Int) ≤ (a0.s.size : Int)) && decide ((a0.s.size : Int) ≤ (a0.s.size : Int))))) then
 bif (decide (0 ≤ (1 : Int)) && (decide ((1 : Int) ≤ (a0.s.size : Int)) && (decide ((a0.s.size : Int) ≤ (a0.s.size : Int)) && decide ((a0.s.size : Int) ≤ (a0.s.size : Int))))) then
 some [(T.str (a0.s.extract 0 1)), (T.str (a0.s.extract 1 a0.s.size))]
 else
 none
 else
 none
 else
 some [(T.str (⟨#[]⟩ : ByteArray)), a0]
 else
 none
 else
 none
 else
 none
 else
 none
 else
 none
 else
 none
 else
 none
 else
 none
 else
 none := by kernel_rfl
theorem q_impl_signOf (H : List Item → CS → R) (C : CallsE) (a0 : T) : enterE fi_impl_signOf env H C [a0] = b_impl_signOf H C a0 := by
 refine (e_impl_signOf H C a0).trans ?_
 unfold b_impl_signOf
 all_goals cases hc : ((!(a0.s.toList == (⟨#[]⟩ : ByteArray).toList))) with
 | true =>
  try simp only [bs]
  all_goals cases hc : ((decide (0 ≤ (0 : Int)) && decide (0 < a0.s.size))) with
  | true =>
   try simp only [bs]
   all_goals cases hc : (((a0.s.data.getD 0 0).toNat == (38 : Int))) with
   | true =>
    try simp only [bs]
    all_goals cases hc : ((decide (0 ≤ (0 : Int)) && (decide ((0 : Int) ≤ (1 : Int)) && (decide ((1 : Int) ≤ (a0.s.size : Int)) && decide ((a0.s.size : Int) ≤ (a0.s.size : Int)))))) with
    | true =>
     try simp only [bs]
     all_goals cases hc : ((decide (0 ≤ (1 : Int)) && (decide ((1 : Int) ≤ (a0.s.size : Int)) && (decide ((a0.s.size : Int) ≤ (a0.s.size : Int)) && decide ((a0.s.size : Int) ≤ (a0.s.size : Int)))))) with
     | true =>
      try simp only [bs]
      all_goals kernel_rfl
     | false =>
      try simp only [bs]
      all_goals kernel_rfl
    | false =>
     try simp only [bs]
     all_goals kernel_rfl
   | false =>
    try simp only [bs]
    all_goals cases hc : (((a0.s.data.getD 0 0).toNat == (33 : Int))) with
    | true =>
     try simp only [bs]
     all_goals cases hc : ((decide (0 ≤ (0 : Int)) && (decide ((0 : Int) ≤ (1 : Int)) && (decide ((1 : Int) ≤ (a0.s.size : Int)) && decide ((a0.s.size : Int) ≤ (a0.s.size : Int)))))) with
     | true =>
      try simp only [bs]
      all_goals cases hc : ((decide (0 ≤ (1 : Int)) && (decide ((1 : Int) ≤ (a0.s.size : Int)) && (decide ((a0.s.size : Int) ≤ (a0.s.size : Int)) && decide ((a0.s.size : Int) ≤ (a0.s.size : Int)))))) with
      | true =>
       try simp only [bs]
       all_goals kernel_rfl
      | false =>
       try simp only [bs]
       all_goals kernel_rfl
     | false =>
      try simp only [bs]
      all_goals kernel_rfl
    | false =>
     try simp only [bs]
     all_goals kernel_rfl
  | false =>
   try simp only [bs]
   all_goals kernel_rfl
 | false =>
  try simp only [bs]
  all_goals cases hc : (((a0.s.data.getD 0 0).toNat == (38 : Int))) with
  | true =>
   try simp only [bs]
   all_goals kernel_rfl
  | false =>
   try simp only [bs]
   all_goals kernel_rfl
theorem y_impl_signOf (a0 : T) {r : List T} (h : Yields (fun k => b_impl_signOf (hl env k fi_impl_signOf) (cl env k) a0) r) : Yields (fun k => cl env k F_impl_signOf [a0]) r := Yields.call (fi := fi_impl_signOf) rfl (fun H C => q_impl_signOf H C a0) h
end Go.Proofs.Ytmhjjanaackknaa.Ra
