/- Each function as a readable term. Written by gen.py. -/
import Derived.Test.YtfelodpbejdhlaaGreatDoorTab
set_option linter.unusedSimpArgs false
set_option linter.unusedVariables false
namespace Go.Proofs.YtfelodpbejdhlaaGreatDoor.Ra
open Go
abbrev F_laws_FnExactCallOk : Nat := 3
abbrev F_laws_szModuleS : Nat := 4
abbrev F_laws_szKeptS : Nat := 5
abbrev F_laws_szValueS : Nat := 6
abbrev F_spec_CallOk : Nat := 7
abbrev F_laws_toModuleS : Nat := 8
abbrev F_laws_toKeptS : Nat := 9
abbrev F_laws_toValueS : Nat := 10
abbrev F_impl_CallOk : Nat := 11
abbrev F_laws_eqModuleS : Nat := 12
abbrev F_laws_eqKeptS : Nat := 13
abbrev F_laws_eqValueS : Nat := 14
abbrev F_laws_szModule : Nat := 15
abbrev F_laws_szKept : Nat := 16
abbrev F_laws_szValue : Nat := 17
abbrev F_spec_ShelfShape : Nat := 18
abbrev F_spec_l4Has : Nat := 19
abbrev F_spec_l6In : Nat := 20
abbrev F_spec_ShelfKinds : Nat := 21
abbrev F_spec_l9Ok : Nat := 22
abbrev F_spec_l10Plain : Nat := 23
abbrev F_spec_l2Ok : Nat := 24
abbrev F_laws_toModule : Nat := 25
abbrev F_laws_toKept : Nat := 26
abbrev F_laws_toValue : Nat := 27
abbrev F_impl_ShelfShape : Nat := 28
abbrev F_impl_ShelfKinds : Nat := 29
abbrev F_impl_ShelfFunc : Nat := 30
abbrev F_impl_VaultsOk : Nat := 31
abbrev F_slices_ContainsFunc_string : Nat := 32
abbrev F_impl_isRef : Nat := 33
abbrev F_impl_valueFits : Nat := 34
abbrev F_laws_eqModule : Nat := 35
abbrev F_laws_eqKept : Nat := 36
abbrev F_laws_eqValue : Nat := 37
abbrev F_laws_szRecordS : Nat := 38
abbrev F_laws_szFuncS : Nat := 39
abbrev F_laws_szIntS : Nat := 40
abbrev F_spec_KindsOk : Nat := 41
abbrev F_spec_l4Rises : Nat := 42
abbrev F_spec_l4Func : Nat := 43
abbrev F_spec_l9Kind : Nat := 44
abbrev F_spec_l1Ref : Nat := 45
abbrev F_spec_l2Plain : Nat := 46
abbrev F_spec_l1Kind : Nat := 47
abbrev F_spec_l1Has : Nat := 48
abbrev F_laws_toRecordS : Nat := 49
abbrev F_laws_toFuncS : Nat := 50
abbrev F_laws_toIntS : Nat := 51
abbrev F_impl_KindsOk : Nat := 52
abbrev F_impl_rising : Nat := 53
abbrev F_impl_funcShape : Nat := 54
abbrev F_impl_copyRecords : Nat := 55
abbrev F_slices_Clip_s_impl_Record : Nat := 56
abbrev F_impl_copyFunc : Nat := 57
abbrev F_impl_keepable : Nat := 58
abbrev F_impl_vaultBefore : Nat := 59
abbrev F_slices_IndexFunc_string : Nat := 60
abbrev F_impl_signOf : Nat := 61
abbrev F_impl_plainOk : Nat := 62
abbrev F_impl_recordOf : Nat := 63
abbrev F_laws_eqRecordS : Nat := 64
abbrev F_laws_eqFuncS : Nat := 65
abbrev F_laws_eqIntS : Nat := 66
abbrev F_laws_szRecord : Nat := 67
abbrev F_laws_szFunc : Nat := 68
abbrev F_spec_KindsBad : Nat := 69
abbrev F_spec_l4Types : Nat := 70
abbrev F_spec_l4Code : Nat := 71
abbrev F_spec_l1Can : Nat := 72
abbrev F_spec_l1Able : Nat := 73
abbrev F_laws_toRecord : Nat := 74
abbrev F_laws_toFunc : Nat := 75
abbrev F_impl_KindsBad : Nat := 76
abbrev F_impl_typesFit : Nat := 77
abbrev F_impl_InsOk : Nat := 78
abbrev F_impl_copyTexts : Nat := 79
abbrev F_slices_Clip_impl_Record : Nat := 80
abbrev F_slices_Clip_impl_Ins : Nat := 81
abbrev F_impl_copyInts : Nat := 82
abbrev F_impl_kindIn : Nat := 83
abbrev F_impl_kindAt : Nat := 84
abbrev F_laws_eqRecord : Nat := 85
abbrev F_laws_eqFunc : Nat := 86
abbrev F_laws_szStringS : Nat := 87
abbrev F_laws_szInsS : Nat := 88
abbrev F_spec_l1Record : Nat := 89
abbrev F_spec_l1Plain : Nat := 90
abbrev F_spec_l1Of : Nat := 91
abbrev F_spec_InsOk : Nat := 92
abbrev F_laws_toStringS : Nat := 93
abbrev F_laws_toInsS : Nat := 94
abbrev F_impl_recordOk : Nat := 95
abbrev F_impl_formOf : Nat := 96
abbrev F_impl_limitOk : Nat := 97
abbrev F_slices_Clip_string : Nat := 98
abbrev F_slices_Clip_int : Nat := 99
abbrev F_laws_eqStringS : Nat := 100
abbrev F_laws_eqInsS : Nat := 101
abbrev F_laws_szIns : Nat := 102
abbrev F_spec_l1Field : Nat := 103
abbrev F_spec_l1Base : Nat := 104
abbrev F_spec_l3Needs : Nat := 105
abbrev F_spec_l3Fits : Nat := 106
abbrev F_laws_toIns : Nat := 107
abbrev F_impl_ableOf : Nat := 108
abbrev F_impl_insForms : Nat := 109
abbrev F_laws_eqIns : Nat := 110
abbrev F_spec_l3Table : Nat := 111
abbrev F_strings_Fields : Nat := 112
/- loop.example/heirlooms/laws.FnExactCallOk -/
noncomputable abbrev b_laws_FnExactCallOk (H : List Item → CS → R) (C : CallsE) (a0 a1 a2 a3 a4 a5 a6 : T) : R :=
 obind (C F_laws_szModuleS [a0, (T.int (1048576 : Int))]) fun r1 =>
 bif (decide ((rt r1 0).i < (0 : Int))) then
 some [(T.bool true)]
 else
 obind (C F_laws_szKeptS [a1, (rt r1 0)]) fun r2 =>
 bif (decide ((rt r2 0).i < (0 : Int))) then
 some [(T.bool true)]
 else
 obind (C F_laws_szValueS [a5, (rt r2 0)]) fun r3 =>
 bif (decide ((rt r3 0).i < (0 : Int))) then
 some [(T.bool true)]
 else
 obind (C F_laws_toModuleS [a0]) fun r4 =>
 obind (C F_laws_toKeptS [a1]) fun r5 =>
 obind (C F_laws_toValueS [a5]) fun r6 =>
 obind (C F_spec_CallOk [(rt r4 0), (rt r5 0), a2, a3, a4, (rt r6 0), a6]) fun r7 =>
 obind (C F_laws_toModuleS [a0]) fun r8 =>
 obind (C F_laws_toKeptS [a1]) fun r9 =>
 obind (C F_laws_toValueS [a5]) fun r10 =>
 obind (C F_impl_CallOk [(rt r8 0), (rt r9 0), a2, a3, a4, (rt r10 0), a6]) fun r11 =>
 bif (!((rt r11 0).b == (rt r7 0).b)) then
 some [(T.bool false)]
 else
 obind (C F_laws_toModuleS [a0]) fun r12 =>
 obind (C F_laws_eqModuleS [(rt r8 0), (rt r12 0)]) fun r13 =>
 bif (!(rt r13 0).b) then
 some [(T.bool false)]
 else
 obind (C F_laws_toKeptS [a1]) fun r14 =>
 obind (C F_laws_eqKeptS [(rt r9 0), (rt r14 0)]) fun r15 =>
 bif (!(rt r15 0).b) then
 some [(T.bool false)]
 else
 obind (C F_laws_toValueS [a5]) fun r16 =>
 obind (C F_laws_eqValueS [(rt r10 0), (rt r16 0)]) fun r17 =>
 bif (!(rt r17 0).b) then
 some [(T.bool false)]
 else
 some [(T.bool true)]
theorem q_laws_FnExactCallOk (H : List Item → CS → R) (C : CallsE) (a0 a1 a2 a3 a4 a5 a6 : T) : enterE fi_laws_FnExactCallOk env H C [a0, a1, a2, a3, a4, a5, a6] = b_laws_FnExactCallOk H C a0 a1 a2 a3 a4 a5 a6 := by kernel_rfl
theorem y_laws_FnExactCallOk (a0 a1 a2 a3 a4 a5 a6 : T) {r : List T} (h : Yields (fun k => b_laws_FnExactCallOk (hl env k fi_laws_FnExactCallOk) (cl env k) a0 a1 a2 a3 a4 a5 a6) r) : Yields (fun k => cl env k F_laws_FnExactCallOk [a0, a1, a2, a3, a4, a5, a6]) r := Yields.call (fi := fi_laws_FnExactCallOk) rfl rfl (fun H C => q_laws_FnExactCallOk H C a0 a1 a2 a3 a4 a5 a6) h
noncomputable def l_laws_szModuleS_0 (H : List Item → CS → R) (x1 : T) (x2 : T) (x3 : T) : R := H (hdAt fi_laws_szModuleS.body 0) ([(0, .val 22 x1), (1, .val 3 x2), (5, .val 3 x3)], [])
/- loop.example/heirlooms/laws.szModuleS -/
noncomputable abbrev b_laws_szModuleS (H : List Item → CS → R) (C : CallsE) (a0 a1 : T) : R :=
 bif (decide ((IntKind.wrap .i64 (a1.i - (a0.es.length : Int))) < (0 : Int))) then
 some [(T.int (-1 : Int))]
 else
 l_laws_szModuleS_0 H a0 (T.int (IntKind.wrap .i64 (a1.i - (a0.es.length : Int)))) (T.int (0 : Int))
theorem q_laws_szModuleS (H : List Item → CS → R) (C : CallsE) (a0 a1 : T) : enterE fi_laws_szModuleS env H C [a0, a1] = b_laws_szModuleS H C a0 a1 := by kernel_rfl
theorem y_laws_szModuleS (a0 a1 : T) {r : List T} (h : Yields (fun k => b_laws_szModuleS (hl env k fi_laws_szModuleS) (cl env k) a0 a1) r) : Yields (fun k => cl env k F_laws_szModuleS [a0, a1]) r := Yields.call (fi := fi_laws_szModuleS) rfl rfl (fun H C => q_laws_szModuleS H C a0 a1) h
noncomputable abbrev b_laws_szModuleS_0 (H : List Item → CS → R) (C : CallsE) (x1 : T) (x2 : T) (x3 : T) : R :=
 bif (decide (x3.i < (x1.es.length : Int))) then
 bif (decide (0 ≤ x3.i) && decide (x3.i.toNat < x1.es.length)) then
 obind (C F_laws_szModule [(x1.nth x3.i.toNat), x2]) fun r1 =>
 bif (decide ((rt r1 0).i < (0 : Int))) then
 some [(T.int (-1 : Int))]
 else
 l_laws_szModuleS_0 H x1 (rt r1 0) (T.int (IntKind.wrap .i64 (x3.i + (1 : Int))))
 else
 none
 else
 some [x2]
theorem q_laws_szModuleS_0 (H : List Item → CS → R) (C : CallsE) (x1 : T) (x2 : T) (x3 : T) : headE fi_laws_szModuleS env H C (hdAt fi_laws_szModuleS.body 0) ([(0, .val 22 x1), (1, .val 3 x2), (5, .val 3 x3)], []) = b_laws_szModuleS_0 H C x1 x2 x3 := by kernel_rfl
theorem y_laws_szModuleS_0 (x1 : T) (x2 : T) (x3 : T) {r : List T} (h : Yields (fun k => b_laws_szModuleS_0 (hl env k fi_laws_szModuleS) (cl env k) x1 x2 x3) r) : Yields (fun k => l_laws_szModuleS_0 (hl env k fi_laws_szModuleS) x1 x2 x3) r := Yields.head (fun H C => q_laws_szModuleS_0 H C x1 x2 x3) h
noncomputable def l_laws_szKeptS_0 (H : List Item → CS → R) (x1 : T) (x2 : T) (x3 : T) : R := H (hdAt fi_laws_szKeptS.body 0) ([(0, .val 23 x1), (1, .val 3 x2), (5, .val 3 x3)], [])
/- loop.example/heirlooms/laws.szKeptS -/
noncomputable abbrev b_laws_szKeptS (H : List Item → CS → R) (C : CallsE) (a0 a1 : T) : R :=
 bif (decide ((IntKind.wrap .i64 (a1.i - (a0.es.length : Int))) < (0 : Int))) then
 some [(T.int (-1 : Int))]
 else
 l_laws_szKeptS_0 H a0 (T.int (IntKind.wrap .i64 (a1.i - (a0.es.length : Int)))) (T.int (0 : Int))
theorem q_laws_szKeptS (H : List Item → CS → R) (C : CallsE) (a0 a1 : T) : enterE fi_laws_szKeptS env H C [a0, a1] = b_laws_szKeptS H C a0 a1 := by kernel_rfl
theorem y_laws_szKeptS (a0 a1 : T) {r : List T} (h : Yields (fun k => b_laws_szKeptS (hl env k fi_laws_szKeptS) (cl env k) a0 a1) r) : Yields (fun k => cl env k F_laws_szKeptS [a0, a1]) r := Yields.call (fi := fi_laws_szKeptS) rfl rfl (fun H C => q_laws_szKeptS H C a0 a1) h
noncomputable abbrev b_laws_szKeptS_0 (H : List Item → CS → R) (C : CallsE) (x1 : T) (x2 : T) (x3 : T) : R :=
 bif (decide (x3.i < (x1.es.length : Int))) then
 bif (decide (0 ≤ x3.i) && decide (x3.i.toNat < x1.es.length)) then
 obind (C F_laws_szKept [(x1.nth x3.i.toNat), x2]) fun r1 =>
 bif (decide ((rt r1 0).i < (0 : Int))) then
 some [(T.int (-1 : Int))]
 else
 l_laws_szKeptS_0 H x1 (rt r1 0) (T.int (IntKind.wrap .i64 (x3.i + (1 : Int))))
 else
 none
 else
 some [x2]
theorem q_laws_szKeptS_0 (H : List Item → CS → R) (C : CallsE) (x1 : T) (x2 : T) (x3 : T) : headE fi_laws_szKeptS env H C (hdAt fi_laws_szKeptS.body 0) ([(0, .val 23 x1), (1, .val 3 x2), (5, .val 3 x3)], []) = b_laws_szKeptS_0 H C x1 x2 x3 := by kernel_rfl
theorem y_laws_szKeptS_0 (x1 : T) (x2 : T) (x3 : T) {r : List T} (h : Yields (fun k => b_laws_szKeptS_0 (hl env k fi_laws_szKeptS) (cl env k) x1 x2 x3) r) : Yields (fun k => l_laws_szKeptS_0 (hl env k fi_laws_szKeptS) x1 x2 x3) r := Yields.head (fun H C => q_laws_szKeptS_0 H C x1 x2 x3) h
noncomputable def l_laws_szValueS_0 (H : List Item → CS → R) (x1 : T) (x2 : T) (x3 : T) : R := H (hdAt fi_laws_szValueS.body 0) ([(0, .val 24 x1), (1, .val 3 x2), (5, .val 3 x3)], [])
/- loop.example/heirlooms/laws.szValueS -/
noncomputable abbrev b_laws_szValueS (H : List Item → CS → R) (C : CallsE) (a0 a1 : T) : R :=
 bif (decide ((IntKind.wrap .i64 (a1.i - (a0.es.length : Int))) < (0 : Int))) then
 some [(T.int (-1 : Int))]
 else
 l_laws_szValueS_0 H a0 (T.int (IntKind.wrap .i64 (a1.i - (a0.es.length : Int)))) (T.int (0 : Int))
theorem q_laws_szValueS (H : List Item → CS → R) (C : CallsE) (a0 a1 : T) : enterE fi_laws_szValueS env H C [a0, a1] = b_laws_szValueS H C a0 a1 := by kernel_rfl
theorem y_laws_szValueS (a0 a1 : T) {r : List T} (h : Yields (fun k => b_laws_szValueS (hl env k fi_laws_szValueS) (cl env k) a0 a1) r) : Yields (fun k => cl env k F_laws_szValueS [a0, a1]) r := Yields.call (fi := fi_laws_szValueS) rfl rfl (fun H C => q_laws_szValueS H C a0 a1) h
noncomputable abbrev b_laws_szValueS_0 (H : List Item → CS → R) (C : CallsE) (x1 : T) (x2 : T) (x3 : T) : R :=
 bif (decide (x3.i < (x1.es.length : Int))) then
 bif (decide (0 ≤ x3.i) && decide (x3.i.toNat < x1.es.length)) then
 obind (C F_laws_szValue [(x1.nth x3.i.toNat), x2]) fun r1 =>
 bif (decide ((rt r1 0).i < (0 : Int))) then
 some [(T.int (-1 : Int))]
 else
 l_laws_szValueS_0 H x1 (rt r1 0) (T.int (IntKind.wrap .i64 (x3.i + (1 : Int))))
 else
 none
 else
 some [x2]
theorem q_laws_szValueS_0 (H : List Item → CS → R) (C : CallsE) (x1 : T) (x2 : T) (x3 : T) : headE fi_laws_szValueS env H C (hdAt fi_laws_szValueS.body 0) ([(0, .val 24 x1), (1, .val 3 x2), (5, .val 3 x3)], []) = b_laws_szValueS_0 H C x1 x2 x3 := by kernel_rfl
theorem y_laws_szValueS_0 (x1 : T) (x2 : T) (x3 : T) {r : List T} (h : Yields (fun k => b_laws_szValueS_0 (hl env k fi_laws_szValueS) (cl env k) x1 x2 x3) r) : Yields (fun k => l_laws_szValueS_0 (hl env k fi_laws_szValueS) x1 x2 x3) r := Yields.head (fun H C => q_laws_szValueS_0 H C x1 x2 x3) h
noncomputable def l_spec_CallOk_0 (H : List Item → CS → R) (x1 : T) (x2 : T) (x3 : T) (x4 : T) : R := H (hdAt fi_spec_CallOk.body 0) ([(5, .val 33 x1), (15, .sref 54 15 []), (16, .pref 59 16 []), (17, .val 3 x2)], [(15, ⟨54, x3, .dp, false⟩), (16, ⟨59, x4, .fz, true⟩)])
/- loop.example/heirlooms/spec.CallOk -/
noncomputable abbrev b_spec_CallOk (H : List Item → CS → R) (C : CallsE) (a0 a1 a2 a3 a4 a5 a6 : T) : R :=
 obind (C F_spec_ShelfShape [a0]) fun r1 =>
 bif (!(rt r1 0).b) then
 some [(T.bool false)]
 else
 obind (C F_spec_l4Has [a0, a3, a4]) fun r2 =>
 bif (!(rt r2 0).b) then
 some [(T.bool false)]
 else
 obind (C F_spec_l6In [a2, (T.int (0 : Int)), (T.int (3 : Int))]) fun r3 =>
 bif (!(rt r3 0).b) then
 some [(T.bool false)]
 else
 obind (C F_spec_l6In [a6, (T.int (0 : Int)), (T.int (300 : Int))]) fun r4 =>
 bif (!(rt r4 0).b) then
 some [(T.bool false)]
 else
 obind (C F_spec_ShelfKinds [a0]) fun r5 =>
 bif (decide (0 ≤ a3.i) && decide (a3.i.toNat < a0.es.length)) then
 bif (decide (0 ≤ a4.i) && decide (a4.i.toNat < (((a0.nth a3.i.toNat).fld 1).es).length)) then
 obind (C F_spec_l9Ok [(rt r5 0), a1]) fun r6 =>
 bif (!(rt r6 0).b) then
 some [(T.bool false)]
 else
 bif (((((a0.nth a3.i.toNat).fld 1).nth a4.i.toNat).fld 0).i != (2 : Int)) then
 some [(T.bool false)]
 else
 obind (C F_spec_l10Plain [((((a0.nth a3.i.toNat).fld 1).nth a4.i.toNat).fld 1)]) fun r7 =>
 bif (!(rt r7 0).b) then
 some [(T.bool false)]
 else
 obind (C F_spec_l10Plain [((((a0.nth a3.i.toNat).fld 1).nth a4.i.toNat).fld 2)]) fun r8 =>
 bif (!(rt r8 0).b) then
 some [(T.bool false)]
 else
 bif ((a5.es.length : Int) != ((((((a0.nth a3.i.toNat).fld 1).nth a4.i.toNat).fld 1).es).length : Int)) then
 some [(T.bool false)]
 else
 l_spec_CallOk_0 H a5 (T.int (0 : Int)) (rt r5 0) (((a0.nth a3.i.toNat).fld 1).nth a4.i.toNat)
 else
 none
 else
 none
theorem e_spec_CallOk (H : List Item → CS → R) (C : CallsE) (a0 a1 a2 a3 a4 a5 a6 : T) : enterE fi_spec_CallOk env H C [a0, a1, a2, a3, a4, a5, a6] =
 obind (C F_spec_ShelfShape [a0]) fun r1 =>
 bif ((!((!(rt r1 0).b) == false)) || true) then
 bif ((!((!(rt r1 0).b) == false)) || true) then
 bif ((!((!(rt r1 0).b) == false)) || true) then
 bif ((!((!(rt r1 0).b) == false)) || (((!(rt r1 0).b) == false) && (((!(rt r1 0).b) == false) && (((!(rt r1 0).b) == false) && true)))) then
 obind ((bif ((!(rt r1 0).b) == false) then C F_spec_l4Has [a0, a3, a4] else some [])) fun r2 =>
 bif ((!((!(rt r1 0).b) == false)) || ((!(rt r1 0).b) == false)) then
 bif (bif (!(rt r1 0).b) then true else ((!(rt r1 0).b) == false)) then
 bif ((!((bif (!(rt r1 0).b) then (T.bool true) else (T.bool (!(rt r2 0).b))).b == false)) || true) then
 bif ((!((bif (!(rt r1 0).b) then (T.bool true) else (T.bool (!(rt r2 0).b))).b == false)) || (((bif (!(rt r1 0).b) then (T.bool true) else (T.bool (!(rt r2 0).b))).b == false) && true)) then
 obind ((bif ((bif (!(rt r1 0).b) then (T.bool true) else (T.bool (!(rt r2 0).b))).b == false) then C F_spec_l6In [a2, (T.int (0 : Int)), (T.int (3 : Int))] else some [])) fun r3 =>
 bif ((!((bif (!(rt r1 0).b) then (T.bool true) else (T.bool (!(rt r2 0).b))).b == false)) || ((bif (!(rt r1 0).b) then (T.bool true) else (T.bool (!(rt r2 0).b))).b == false)) then
 bif (bif (bif (!(rt r1 0).b) then (T.bool true) else (T.bool (!(rt r2 0).b))).b then true else ((bif (!(rt r1 0).b) then (T.bool true) else (T.bool (!(rt r2 0).b))).b == false)) then
 bif ((!((bif (bif (!(rt r1 0).b) then (T.bool true) else (T.bool (!(rt r2 0).b))).b then (T.bool true) else (T.bool (!(rt r3 0).b))).b == false)) || true) then
 bif ((!((bif (bif (!(rt r1 0).b) then (T.bool true) else (T.bool (!(rt r2 0).b))).b then (T.bool true) else (T.bool (!(rt r3 0).b))).b == false)) || (((bif (bif (!(rt r1 0).b) then (T.bool true) else (T.bool (!(rt r2 0).b))).b then (T.bool true) else (T.bool (!(rt r3 0).b))).b == false) && true)) then
 obind ((bif ((bif (bif (!(rt r1 0).b) then (T.bool true) else (T.bool (!(rt r2 0).b))).b then (T.bool true) else (T.bool (!(rt r3 0).b))).b == false) then C F_spec_l6In [a6, (T.int (0 : Int)), (T.int (300 : Int))] else some [])) fun r4 =>
 bif ((!((bif (bif (!(rt r1 0).b) then (T.bool true) else (T.bool (!(rt r2 0).b))).b then (T.bool true) else (T.bool (!(rt r3 0).b))).b == false)) || ((bif (bif (!(rt r1 0).b) then (T.bool true) else (T.bool (!(rt r2 0).b))).b then (T.bool true) else (T.bool (!(rt r3 0).b))).b == false)) then
 bif (bif (bif (bif (!(rt r1 0).b) then (T.bool true) else (T.bool (!(rt r2 0).b))).b then (T.bool true) else (T.bool (!(rt r3 0).b))).b then true else ((bif (bif (!(rt r1 0).b) then (T.bool true) else (T.bool (!(rt r2 0).b))).b then (T.bool true) else (T.bool (!(rt r3 0).b))).b == false)) then
 bif (bif (bif (bif (!(rt r1 0).b) then (T.bool true) else (T.bool (!(rt r2 0).b))).b then (T.bool true) else (T.bool (!(rt r3 0).b))).b then (T.bool true) else (T.bool (!(rt r4 0).b))).b then
 some [(T.bool false)]
 else
 obind (C F_spec_ShelfKinds [a0]) fun r5 =>
 bif (decide (0 ≤ a3.i) && decide (a3.i.toNat < a0.es.length)) then
 bif (decide (0 ≤ a4.i) && decide (a4.i.toNat < (((a0.nth a3.i.toNat).fld 1).es).length)) then
 obind (C F_spec_l9Ok [(rt r5 0), a1]) fun r6 =>
 bif ((!((!(rt r6 0).b) == false)) || true) then
 bif ((!((!(rt r6 0).b) == false)) || ((!(rt r6 0).b) == false)) then
 bif ((!((!(rt r6 0).b) == false)) || ((((!(rt r6 0).b) == false) && true) && true)) then
 bif (bif (!(rt r6 0).b) then true else ((!(rt r6 0).b) == false)) then
 bif ((!((bif (!(rt r6 0).b) then (T.bool true) else (T.bool (((((a0.nth a3.i.toNat).fld 1).nth a4.i.toNat).fld 0).i != (2 : Int)))).b == false)) || true) then
 bif ((!((bif (!(rt r6 0).b) then (T.bool true) else (T.bool (((((a0.nth a3.i.toNat).fld 1).nth a4.i.toNat).fld 0).i != (2 : Int)))).b == false)) || ((bif (!(rt r6 0).b) then (T.bool true) else (T.bool (((((a0.nth a3.i.toNat).fld 1).nth a4.i.toNat).fld 0).i != (2 : Int)))).b == false)) then
 bif ((!((bif (!(rt r6 0).b) then (T.bool true) else (T.bool (((((a0.nth a3.i.toNat).fld 1).nth a4.i.toNat).fld 0).i != (2 : Int)))).b == false)) || (((bif (!(rt r6 0).b) then (T.bool true) else (T.bool (((((a0.nth a3.i.toNat).fld 1).nth a4.i.toNat).fld 0).i != (2 : Int)))).b == false) && true)) then
 obind ((bif ((bif (!(rt r6 0).b) then (T.bool true) else (T.bool (((((a0.nth a3.i.toNat).fld 1).nth a4.i.toNat).fld 0).i != (2 : Int)))).b == false) then C F_spec_l10Plain [((((a0.nth a3.i.toNat).fld 1).nth a4.i.toNat).fld 1)] else some [])) fun r7 =>
 bif ((!((bif (!(rt r6 0).b) then (T.bool true) else (T.bool (((((a0.nth a3.i.toNat).fld 1).nth a4.i.toNat).fld 0).i != (2 : Int)))).b == false)) || ((bif (!(rt r6 0).b) then (T.bool true) else (T.bool (((((a0.nth a3.i.toNat).fld 1).nth a4.i.toNat).fld 0).i != (2 : Int)))).b == false)) then
 bif (bif (bif (!(rt r6 0).b) then (T.bool true) else (T.bool (((((a0.nth a3.i.toNat).fld 1).nth a4.i.toNat).fld 0).i != (2 : Int)))).b then true else ((bif (!(rt r6 0).b) then (T.bool true) else (T.bool (((((a0.nth a3.i.toNat).fld 1).nth a4.i.toNat).fld 0).i != (2 : Int)))).b == false)) then
 bif ((!((bif (bif (!(rt r6 0).b) then (T.bool true) else (T.bool (((((a0.nth a3.i.toNat).fld 1).nth a4.i.toNat).fld 0).i != (2 : Int)))).b then (T.bool true) else (T.bool (!(rt r7 0).b))).b == false)) || true) then
 bif ((!((bif (bif (!(rt r6 0).b) then (T.bool true) else (T.bool (((((a0.nth a3.i.toNat).fld 1).nth a4.i.toNat).fld 0).i != (2 : Int)))).b then (T.bool true) else (T.bool (!(rt r7 0).b))).b == false)) || ((bif (bif (!(rt r6 0).b) then (T.bool true) else (T.bool (((((a0.nth a3.i.toNat).fld 1).nth a4.i.toNat).fld 0).i != (2 : Int)))).b then (T.bool true) else (T.bool (!(rt r7 0).b))).b == false)) then
 bif ((!((bif (bif (!(rt r6 0).b) then (T.bool true) else (T.bool (((((a0.nth a3.i.toNat).fld 1).nth a4.i.toNat).fld 0).i != (2 : Int)))).b then (T.bool true) else (T.bool (!(rt r7 0).b))).b == false)) || (((bif (bif (!(rt r6 0).b) then (T.bool true) else (T.bool (((((a0.nth a3.i.toNat).fld 1).nth a4.i.toNat).fld 0).i != (2 : Int)))).b then (T.bool true) else (T.bool (!(rt r7 0).b))).b == false) && true)) then
 obind ((bif ((bif (bif (!(rt r6 0).b) then (T.bool true) else (T.bool (((((a0.nth a3.i.toNat).fld 1).nth a4.i.toNat).fld 0).i != (2 : Int)))).b then (T.bool true) else (T.bool (!(rt r7 0).b))).b == false) then C F_spec_l10Plain [((((a0.nth a3.i.toNat).fld 1).nth a4.i.toNat).fld 2)] else some [])) fun r8 =>
 bif ((!((bif (bif (!(rt r6 0).b) then (T.bool true) else (T.bool (((((a0.nth a3.i.toNat).fld 1).nth a4.i.toNat).fld 0).i != (2 : Int)))).b then (T.bool true) else (T.bool (!(rt r7 0).b))).b == false)) || ((bif (bif (!(rt r6 0).b) then (T.bool true) else (T.bool (((((a0.nth a3.i.toNat).fld 1).nth a4.i.toNat).fld 0).i != (2 : Int)))).b then (T.bool true) else (T.bool (!(rt r7 0).b))).b == false)) then
 bif (bif (bif (bif (!(rt r6 0).b) then (T.bool true) else (T.bool (((((a0.nth a3.i.toNat).fld 1).nth a4.i.toNat).fld 0).i != (2 : Int)))).b then (T.bool true) else (T.bool (!(rt r7 0).b))).b then true else ((bif (bif (!(rt r6 0).b) then (T.bool true) else (T.bool (((((a0.nth a3.i.toNat).fld 1).nth a4.i.toNat).fld 0).i != (2 : Int)))).b then (T.bool true) else (T.bool (!(rt r7 0).b))).b == false)) then
 bif ((!((bif (bif (bif (!(rt r6 0).b) then (T.bool true) else (T.bool (((((a0.nth a3.i.toNat).fld 1).nth a4.i.toNat).fld 0).i != (2 : Int)))).b then (T.bool true) else (T.bool (!(rt r7 0).b))).b then (T.bool true) else (T.bool (!(rt r8 0).b))).b == false)) || true) then
 bif ((!((bif (bif (bif (!(rt r6 0).b) then (T.bool true) else (T.bool (((((a0.nth a3.i.toNat).fld 1).nth a4.i.toNat).fld 0).i != (2 : Int)))).b then (T.bool true) else (T.bool (!(rt r7 0).b))).b then (T.bool true) else (T.bool (!(rt r8 0).b))).b == false)) || ((bif (bif (bif (!(rt r6 0).b) then (T.bool true) else (T.bool (((((a0.nth a3.i.toNat).fld 1).nth a4.i.toNat).fld 0).i != (2 : Int)))).b then (T.bool true) else (T.bool (!(rt r7 0).b))).b then (T.bool true) else (T.bool (!(rt r8 0).b))).b == false)) then
 bif ((!((bif (bif (bif (!(rt r6 0).b) then (T.bool true) else (T.bool (((((a0.nth a3.i.toNat).fld 1).nth a4.i.toNat).fld 0).i != (2 : Int)))).b then (T.bool true) else (T.bool (!(rt r7 0).b))).b then (T.bool true) else (T.bool (!(rt r8 0).b))).b == false)) || true) then
 bif ((!((bif (bif (bif (!(rt r6 0).b) then (T.bool true) else (T.bool (((((a0.nth a3.i.toNat).fld 1).nth a4.i.toNat).fld 0).i != (2 : Int)))).b then (T.bool true) else (T.bool (!(rt r7 0).b))).b then (T.bool true) else (T.bool (!(rt r8 0).b))).b == false)) || ((bif (bif (bif (!(rt r6 0).b) then (T.bool true) else (T.bool (((((a0.nth a3.i.toNat).fld 1).nth a4.i.toNat).fld 0).i != (2 : Int)))).b then (T.bool true) else (T.bool (!(rt r7 0).b))).b then (T.bool true) else (T.bool (!(rt r8 0).b))).b == false)) then
 bif ((!((bif (bif (bif (!(rt r6 0).b) then (T.bool true) else (T.bool (((((a0.nth a3.i.toNat).fld 1).nth a4.i.toNat).fld 0).i != (2 : Int)))).b then (T.bool true) else (T.bool (!(rt r7 0).b))).b then (T.bool true) else (T.bool (!(rt r8 0).b))).b == false)) || ((bif (bif (bif (!(rt r6 0).b) then (T.bool true) else (T.bool (((((a0.nth a3.i.toNat).fld 1).nth a4.i.toNat).fld 0).i != (2 : Int)))).b then (T.bool true) else (T.bool (!(rt r7 0).b))).b then (T.bool true) else (T.bool (!(rt r8 0).b))).b == false)) then
 bif ((!((bif (bif (bif (!(rt r6 0).b) then (T.bool true) else (T.bool (((((a0.nth a3.i.toNat).fld 1).nth a4.i.toNat).fld 0).i != (2 : Int)))).b then (T.bool true) else (T.bool (!(rt r7 0).b))).b then (T.bool true) else (T.bool (!(rt r8 0).b))).b == false)) || ((((bif (bif (bif (!(rt r6 0).b) then (T.bool true) else (T.bool (((((a0.nth a3.i.toNat).fld 1).nth a4.i.toNat).fld 0).i != (2 : Int)))).b then (T.bool true) else (T.bool (!(rt r7 0).b))).b then (T.bool true) else (T.bool (!(rt r8 0).b))).b == false) && ((bif (bif (bif (!(rt r6 0).b) then (T.bool true) else (T.bool (((((a0.nth a3.i.toNat).fld 1).nth a4.i.toNat).fld 0).i != (2 : Int)))).b then (T.bool true) else (T.bool (!(rt r7 0).b))).b then (T.bool true) else (T.bool (!(rt r8 0).b))).b == false)) && true)) then
 bif (bif (bif (bif (bif (!(rt r6 0).b) then (T.bool true) else (T.bool (((((a0.nth a3.i.toNat).fld 1).nth a4.i.toNat).fld 0).i != (2 : Int)))).b then (T.bool true) else (T.bool (!(rt r7 0).b))).b then (T.bool true) else (T.bool (!(rt r8 0).b))).b then true else ((bif (bif (bif (!(rt r6 0).b) then (T.bool true) else (T.bool (((((a0.nth a3.i.toNat).fld 1).nth a4.i.toNat).fld 0).i != (2 : Int)))).b then (T.bool true) else (T.bool (!(rt r7 0).b))).b then (T.bool true) else (T.bool (!(rt r8 0).b))).b == false)) then
 bif (bif (bif (bif (bif (!(rt r6 0).b) then (T.bool true) else (T.bool (((((a0.nth a3.i.toNat).fld 1).nth a4.i.toNat).fld 0).i != (2 : Int)))).b then (T.bool true) else (T.bool (!(rt r7 0).b))).b then (T.bool true) else (T.bool (!(rt r8 0).b))).b then (T.bool true) else (T.bool ((a5.es.length : Int) != ((((((a0.nth a3.i.toNat).fld 1).nth a4.i.toNat).fld 1).es).length : Int)))).b then
 some [(T.bool false)]
 else
 l_spec_CallOk_0 H a5 (T.int (0 : Int)) (rt r5 0) (((a0.nth a3.i.toNat).fld 1).nth a4.i.toNat)
 else
 none
 else
 none
 else
 none
 else
 none
 else
 none
 else
 none
 else
 none
 else
 none
 else
 none
 else
 none
 else
 none
 else
 none
 else
 none
 else
 none
 else
 none
 else
 none
 else
 none
 else
 none
 else
 none
 else
 none
 else
 none
 else
 none
 else
 none
 else
 none
 else
 none
 else
 none
 else
 none
 else
 none
 else
 none
 else
 none
 else
 none
 else
 none
 else
 none
 else
 none
 else
 none
 else
 none
 else
 none := by kernel_rfl
theorem q_spec_CallOk (H : List Item → CS → R) (C : CallsE) (a0 a1 a2 a3 a4 a5 a6 : T) : enterE fi_spec_CallOk env H C [a0, a1, a2, a3, a4, a5, a6] = b_spec_CallOk H C a0 a1 a2 a3 a4 a5 a6 := by
 refine (e_spec_CallOk H C a0 a1 a2 a3 a4 a5 a6).trans ?_
 unfold b_spec_CallOk
 all_goals refine obind_congr fun r1 => ?_
 all_goals try simp only [bs]
 all_goals cases hc : ((!(rt r1 0).b)) with
 | true =>
  try simp only [bs]
  all_goals kernel_rfl
 | false =>
  try simp only [bs]
  all_goals refine obind_congr fun r2 => ?_
  all_goals try simp only [bs]
  all_goals cases hc : ((!(rt r2 0).b)) with
  | true =>
   try simp only [bs]
   all_goals kernel_rfl
  | false =>
   try simp only [bs]
   all_goals refine obind_congr fun r3 => ?_
   all_goals try simp only [bs]
   all_goals cases hc : ((!(rt r3 0).b)) with
   | true =>
    try simp only [bs]
    all_goals kernel_rfl
   | false =>
    try simp only [bs]
    all_goals refine obind_congr fun r4 => ?_
    all_goals try simp only [bs]
    all_goals cases hc : ((!(rt r4 0).b)) with
    | true =>
     try simp only [bs]
     all_goals kernel_rfl
    | false =>
     try simp only [bs]
     all_goals refine obind_congr fun r5 => ?_
     all_goals try simp only [bs]
     all_goals cases hc : ((decide (0 ≤ a3.i) && decide (a3.i.toNat < a0.es.length))) with
     | true =>
      try simp only [bs]
      all_goals cases hc : ((decide (0 ≤ a4.i) && decide (a4.i.toNat < (((a0.nth a3.i.toNat).fld 1).es).length))) with
      | true =>
       try simp only [bs]
       all_goals refine obind_congr fun r6 => ?_
       all_goals try simp only [bs]
       all_goals cases hc : ((!(rt r6 0).b)) with
       | true =>
        try simp only [bs]
        all_goals kernel_rfl
       | false =>
        try simp only [bs]
        all_goals cases hc : ((((((a0.nth a3.i.toNat).fld 1).nth a4.i.toNat).fld 0).i != (2 : Int))) with
        | true =>
         try simp only [bs]
         all_goals kernel_rfl
        | false =>
         try simp only [bs]
         all_goals refine obind_congr fun r7 => ?_
         all_goals try simp only [bs]
         all_goals cases hc : ((!(rt r7 0).b)) with
         | true =>
          try simp only [bs]
          all_goals kernel_rfl
         | false =>
          try simp only [bs]
          all_goals refine obind_congr fun r8 => ?_
          all_goals try simp only [bs]
          all_goals cases hc : ((!(rt r8 0).b)) with
          | true =>
           try simp only [bs]
           all_goals kernel_rfl
          | false =>
           try simp only [bs]
           all_goals cases hc : (((a5.es.length : Int) != ((((((a0.nth a3.i.toNat).fld 1).nth a4.i.toNat).fld 1).es).length : Int))) with
           | true =>
            try simp only [bs]
            all_goals kernel_rfl
           | false =>
            try simp only [bs]
            all_goals kernel_rfl
      | false =>
       try simp only [bs]
       all_goals kernel_rfl
     | false =>
      try simp only [bs]
      all_goals kernel_rfl
theorem y_spec_CallOk (a0 a1 a2 a3 a4 a5 a6 : T) {r : List T} (h : Yields (fun k => b_spec_CallOk (hl env k fi_spec_CallOk) (cl env k) a0 a1 a2 a3 a4 a5 a6) r) : Yields (fun k => cl env k F_spec_CallOk [a0, a1, a2, a3, a4, a5, a6]) r := Yields.call (fi := fi_spec_CallOk) rfl rfl (fun H C => q_spec_CallOk H C a0 a1 a2 a3 a4 a5 a6) h
noncomputable abbrev b_spec_CallOk_0 (H : List Item → CS → R) (C : CallsE) (x1 : T) (x2 : T) (x3 : T) (x4 : T) : R :=
 bif (decide (x2.i < (x1.es.length : Int))) then
 bif (decide (0 ≤ x2.i) && decide (x2.i.toNat < x1.es.length)) then
 bif (decide (0 ≤ x2.i) && decide (x2.i.toNat < ((x4.fld 1).es).length)) then
 bif (!((((x1.nth x2.i.toNat).fld 0).s).toList == (((x4.fld 1).nth x2.i.toNat).s).toList)) then
 some [(T.bool false)]
 else
 obind (C F_spec_l2Ok [x3, (x1.nth x2.i.toNat)]) fun r1 =>
 bif (!(rt r1 0).b) then
 some [(T.bool false)]
 else
 l_spec_CallOk_0 H x1 (T.int (IntKind.wrap .i64 (x2.i + (1 : Int)))) x3 x4
 else
 none
 else
 none
 else
 some [(T.bool true)]
theorem e_spec_CallOk_0 (H : List Item → CS → R) (C : CallsE) (x1 : T) (x2 : T) (x3 : T) (x4 : T) : headE fi_spec_CallOk env H C (hdAt fi_spec_CallOk.body 0) ([(5, .val 33 x1), (15, .sref 54 15 []), (16, .pref 59 16 []), (17, .val 3 x2)], [(15, ⟨54, x3, .dp, false⟩), (16, ⟨59, x4, .fz, true⟩)]) =
 bif (decide (x2.i < (x1.es.length : Int))) then
 bif (decide (0 ≤ x2.i) && decide (x2.i.toNat < x1.es.length)) then
 bif (decide (0 ≤ x2.i) && decide (x2.i.toNat < ((x4.fld 1).es).length)) then
 bif ((!((!((((x1.nth x2.i.toNat).fld 0).s).toList == (((x4.fld 1).nth x2.i.toNat).s).toList)) == false)) || true) then
 bif ((!((!((((x1.nth x2.i.toNat).fld 0).s).toList == (((x4.fld 1).nth x2.i.toNat).s).toList)) == false)) || true) then
 bif ((!((!((((x1.nth x2.i.toNat).fld 0).s).toList == (((x4.fld 1).nth x2.i.toNat).s).toList)) == false)) || true) then
 bif ((!((!((((x1.nth x2.i.toNat).fld 0).s).toList == (((x4.fld 1).nth x2.i.toNat).s).toList)) == false)) || ((((!((((x1.nth x2.i.toNat).fld 0).s).toList == (((x4.fld 1).nth x2.i.toNat).s).toList)) == false) && (((!((((x1.nth x2.i.toNat).fld 0).s).toList == (((x4.fld 1).nth x2.i.toNat).s).toList)) == false) && true)) && (decide (0 ≤ x2.i) && decide (x2.i.toNat < x1.es.length)))) then
 bif ((!((!((((x1.nth x2.i.toNat).fld 0).s).toList == (((x4.fld 1).nth x2.i.toNat).s).toList)) == false)) || ((!((((x1.nth x2.i.toNat).fld 0).s).toList == (((x4.fld 1).nth x2.i.toNat).s).toList)) == false)) then
 bif ((!((!((((x1.nth x2.i.toNat).fld 0).s).toList == (((x4.fld 1).nth x2.i.toNat).s).toList)) == false)) || (((!((((x1.nth x2.i.toNat).fld 0).s).toList == (((x4.fld 1).nth x2.i.toNat).s).toList)) == false) && (((!((((x1.nth x2.i.toNat).fld 0).s).toList == (((x4.fld 1).nth x2.i.toNat).s).toList)) == false) && true))) then
 obind ((bif ((!((((x1.nth x2.i.toNat).fld 0).s).toList == (((x4.fld 1).nth x2.i.toNat).s).toList)) == false) then C F_spec_l2Ok [x3, (x1.nth x2.i.toNat)] else some [])) fun r1 =>
 bif ((!((!((((x1.nth x2.i.toNat).fld 0).s).toList == (((x4.fld 1).nth x2.i.toNat).s).toList)) == false)) || ((!((((x1.nth x2.i.toNat).fld 0).s).toList == (((x4.fld 1).nth x2.i.toNat).s).toList)) == false)) then
 bif (bif (!((((x1.nth x2.i.toNat).fld 0).s).toList == (((x4.fld 1).nth x2.i.toNat).s).toList)) then true else ((!((((x1.nth x2.i.toNat).fld 0).s).toList == (((x4.fld 1).nth x2.i.toNat).s).toList)) == false)) then
 bif (bif (!((((x1.nth x2.i.toNat).fld 0).s).toList == (((x4.fld 1).nth x2.i.toNat).s).toList)) then (T.bool true) else (T.bool (!(rt r1 0).b))).b then
 some [(T.bool false)]
 else
 l_spec_CallOk_0 H x1 (T.int (IntKind.wrap .i64 (x2.i + (1 : Int)))) x3 x4
 else
 none
 else
 none
 else
 none
 else
 none
 else
 none
 else
 none
 else
 none
 else
 none
 else
 none
 else
 none
 else
 some [(T.bool true)] := by kernel_rfl
theorem q_spec_CallOk_0 (H : List Item → CS → R) (C : CallsE) (x1 : T) (x2 : T) (x3 : T) (x4 : T) : headE fi_spec_CallOk env H C (hdAt fi_spec_CallOk.body 0) ([(5, .val 33 x1), (15, .sref 54 15 []), (16, .pref 59 16 []), (17, .val 3 x2)], [(15, ⟨54, x3, .dp, false⟩), (16, ⟨59, x4, .fz, true⟩)]) = b_spec_CallOk_0 H C x1 x2 x3 x4 := by
 refine (e_spec_CallOk_0 H C x1 x2 x3 x4).trans ?_
 unfold b_spec_CallOk_0
 all_goals cases hc : ((decide (x2.i < (x1.es.length : Int)))) with
 | true =>
  try simp only [bs]
  all_goals cases hc : ((decide (0 ≤ x2.i) && decide (x2.i.toNat < x1.es.length))) with
  | true =>
   try simp only [bs]
   all_goals cases hc : ((decide (0 ≤ x2.i) && decide (x2.i.toNat < ((x4.fld 1).es).length))) with
   | true =>
    try simp only [bs]
    all_goals cases hc : ((!((((x1.nth x2.i.toNat).fld 0).s).toList == (((x4.fld 1).nth x2.i.toNat).s).toList))) with
    | true =>
     try simp only [bs]
     all_goals kernel_rfl
    | false =>
     try simp only [bs]
     all_goals refine obind_congr fun r1 => ?_
     all_goals try simp only [bs]
     all_goals cases hc : ((!(rt r1 0).b)) with
     | true =>
      try simp only [bs]
      all_goals kernel_rfl
     | false =>
      try simp only [bs]
      all_goals kernel_rfl
   | false =>
    try simp only [bs]
    all_goals kernel_rfl
  | false =>
   try simp only [bs]
   all_goals kernel_rfl
 | false =>
  try simp only [bs]
  all_goals kernel_rfl
theorem y_spec_CallOk_0 (x1 : T) (x2 : T) (x3 : T) (x4 : T) {r : List T} (h : Yields (fun k => b_spec_CallOk_0 (hl env k fi_spec_CallOk) (cl env k) x1 x2 x3 x4) r) : Yields (fun k => l_spec_CallOk_0 (hl env k fi_spec_CallOk) x1 x2 x3 x4) r := Yields.head (fun H C => q_spec_CallOk_0 H C x1 x2 x3 x4) h
noncomputable def l_laws_toModuleS_0 (H : List Item → CS → R) (x1 : T) (x2 : T) (x3 : T) : R := H (hdAt fi_laws_toModuleS.body 0) ([(0, .val 22 x1), (3, .sref 29 3 []), (4, .val 3 x2)], [(3, ⟨29, x3, .dp, false⟩)])
/- loop.example/heirlooms/laws.toModuleS -/
noncomputable abbrev b_laws_toModuleS (H : List Item → CS → R) (C : CallsE) (a0 : T) : R :=
 bif (decide (0 ≤ (a0.es.length : Int)) && (decide ((a0.es.length : Int) ≤ (a0.es.length : Int)) && decide (a0.es.length ≤ LIM))) then
 l_laws_toModuleS_0 H a0 (T.int (0 : Int)) (T.sl (List.replicate a0.es.length (T.st [(T.sl []), (T.sl []), (T.sl [])])))
 else
 none
theorem q_laws_toModuleS (H : List Item → CS → R) (C : CallsE) (a0 : T) : enterE fi_laws_toModuleS env H C [a0] = b_laws_toModuleS H C a0 := by kernel_rfl
theorem y_laws_toModuleS (a0 : T) {r : List T} (h : Yields (fun k => b_laws_toModuleS (hl env k fi_laws_toModuleS) (cl env k) a0) r) : Yields (fun k => cl env k F_laws_toModuleS [a0]) r := Yields.call (fi := fi_laws_toModuleS) rfl rfl (fun H C => q_laws_toModuleS H C a0) h
noncomputable abbrev b_laws_toModuleS_0 (H : List Item → CS → R) (C : CallsE) (x1 : T) (x2 : T) (x3 : T) : R :=
 bif (decide (x2.i < (x1.es.length : Int))) then
 bif (decide (0 ≤ x2.i) && decide (x2.i.toNat < x1.es.length)) then
 obind (C F_laws_toModule [(x1.nth x2.i.toNat)]) fun r1 =>
 bif (decide (0 ≤ x2.i) && decide (x2.i.toNat < x3.es.length)) then
 l_laws_toModuleS_0 H x1 (T.int (IntKind.wrap .i64 (x2.i + (1 : Int)))) (T.sl (x3.es.set x2.i.toNat (T.st [((rt r1 0).fld 0), ((rt r1 0).fld 1), ((rt r1 0).fld 2)])))
 else
 none
 else
 none
 else
 some [x3]
theorem q_laws_toModuleS_0 (H : List Item → CS → R) (C : CallsE) (x1 : T) (x2 : T) (x3 : T) : headE fi_laws_toModuleS env H C (hdAt fi_laws_toModuleS.body 0) ([(0, .val 22 x1), (3, .sref 29 3 []), (4, .val 3 x2)], [(3, ⟨29, x3, .dp, false⟩)]) = b_laws_toModuleS_0 H C x1 x2 x3 := by kernel_rfl
theorem y_laws_toModuleS_0 (x1 : T) (x2 : T) (x3 : T) {r : List T} (h : Yields (fun k => b_laws_toModuleS_0 (hl env k fi_laws_toModuleS) (cl env k) x1 x2 x3) r) : Yields (fun k => l_laws_toModuleS_0 (hl env k fi_laws_toModuleS) x1 x2 x3) r := Yields.head (fun H C => q_laws_toModuleS_0 H C x1 x2 x3) h
noncomputable def l_laws_toKeptS_0 (H : List Item → CS → R) (x1 : T) (x2 : T) (x3 : T) : R := H (hdAt fi_laws_toKeptS.body 0) ([(0, .val 23 x1), (3, .sref 31 3 []), (4, .val 3 x2)], [(3, ⟨31, x3, .dp, false⟩)])
/- loop.example/heirlooms/laws.toKeptS -/
noncomputable abbrev b_laws_toKeptS (H : List Item → CS → R) (C : CallsE) (a0 : T) : R :=
 bif (decide (0 ≤ (a0.es.length : Int)) && (decide ((a0.es.length : Int) ≤ (a0.es.length : Int)) && decide (a0.es.length ≤ LIM))) then
 l_laws_toKeptS_0 H a0 (T.int (0 : Int)) (T.sl (List.replicate a0.es.length (T.st [(T.int (0 : Int)), (T.st [(T.str (⟨#[]⟩ : ByteArray)), (T.int (0 : Int)), (T.sl []), (T.sl [])])])))
 else
 none
theorem q_laws_toKeptS (H : List Item → CS → R) (C : CallsE) (a0 : T) : enterE fi_laws_toKeptS env H C [a0] = b_laws_toKeptS H C a0 := by kernel_rfl
theorem y_laws_toKeptS (a0 : T) {r : List T} (h : Yields (fun k => b_laws_toKeptS (hl env k fi_laws_toKeptS) (cl env k) a0) r) : Yields (fun k => cl env k F_laws_toKeptS [a0]) r := Yields.call (fi := fi_laws_toKeptS) rfl rfl (fun H C => q_laws_toKeptS H C a0) h
noncomputable abbrev b_laws_toKeptS_0 (H : List Item → CS → R) (C : CallsE) (x1 : T) (x2 : T) (x3 : T) : R :=
 bif (decide (x2.i < (x1.es.length : Int))) then
 bif (decide (0 ≤ x2.i) && decide (x2.i.toNat < x1.es.length)) then
 obind (C F_laws_toKept [(x1.nth x2.i.toNat)]) fun r1 =>
 bif (decide (0 ≤ x2.i) && decide (x2.i.toNat < x3.es.length)) then
 l_laws_toKeptS_0 H x1 (T.int (IntKind.wrap .i64 (x2.i + (1 : Int)))) (T.sl (x3.es.set x2.i.toNat (T.st [((rt r1 0).fld 0), (T.st [(((rt r1 0).fld 1).fld 0), (((rt r1 0).fld 1).fld 1), (((rt r1 0).fld 1).fld 2), (((rt r1 0).fld 1).fld 3)])])))
 else
 none
 else
 none
 else
 some [x3]
theorem q_laws_toKeptS_0 (H : List Item → CS → R) (C : CallsE) (x1 : T) (x2 : T) (x3 : T) : headE fi_laws_toKeptS env H C (hdAt fi_laws_toKeptS.body 0) ([(0, .val 23 x1), (3, .sref 31 3 []), (4, .val 3 x2)], [(3, ⟨31, x3, .dp, false⟩)]) = b_laws_toKeptS_0 H C x1 x2 x3 := by kernel_rfl
theorem y_laws_toKeptS_0 (x1 : T) (x2 : T) (x3 : T) {r : List T} (h : Yields (fun k => b_laws_toKeptS_0 (hl env k fi_laws_toKeptS) (cl env k) x1 x2 x3) r) : Yields (fun k => l_laws_toKeptS_0 (hl env k fi_laws_toKeptS) x1 x2 x3) r := Yields.head (fun H C => q_laws_toKeptS_0 H C x1 x2 x3) h
noncomputable def l_laws_toValueS_0 (H : List Item → CS → R) (x1 : T) (x2 : T) (x3 : T) : R := H (hdAt fi_laws_toValueS.body 0) ([(0, .val 24 x1), (3, .sref 33 3 []), (4, .val 3 x2)], [(3, ⟨33, x3, .dp, false⟩)])
/- loop.example/heirlooms/laws.toValueS -/
noncomputable abbrev b_laws_toValueS (H : List Item → CS → R) (C : CallsE) (a0 : T) : R :=
 bif (decide (0 ≤ (a0.es.length : Int)) && (decide ((a0.es.length : Int) ≤ (a0.es.length : Int)) && decide (a0.es.length ≤ LIM))) then
 l_laws_toValueS_0 H a0 (T.int (0 : Int)) (T.sl (List.replicate a0.es.length (T.st [(T.str (⟨#[]⟩ : ByteArray)), (T.int (0 : Int)), (T.sl []), (T.sl [])])))
 else
 none
theorem q_laws_toValueS (H : List Item → CS → R) (C : CallsE) (a0 : T) : enterE fi_laws_toValueS env H C [a0] = b_laws_toValueS H C a0 := by kernel_rfl
theorem y_laws_toValueS (a0 : T) {r : List T} (h : Yields (fun k => b_laws_toValueS (hl env k fi_laws_toValueS) (cl env k) a0) r) : Yields (fun k => cl env k F_laws_toValueS [a0]) r := Yields.call (fi := fi_laws_toValueS) rfl rfl (fun H C => q_laws_toValueS H C a0) h
noncomputable abbrev b_laws_toValueS_0 (H : List Item → CS → R) (C : CallsE) (x1 : T) (x2 : T) (x3 : T) : R :=
 bif (decide (x2.i < (x1.es.length : Int))) then
 bif (decide (0 ≤ x2.i) && decide (x2.i.toNat < x1.es.length)) then
 obind (C F_laws_toValue [(x1.nth x2.i.toNat)]) fun r1 =>
 bif (decide (0 ≤ x2.i) && decide (x2.i.toNat < x3.es.length)) then
 l_laws_toValueS_0 H x1 (T.int (IntKind.wrap .i64 (x2.i + (1 : Int)))) (T.sl (x3.es.set x2.i.toNat (T.st [((rt r1 0).fld 0), ((rt r1 0).fld 1), ((rt r1 0).fld 2), ((rt r1 0).fld 3)])))
 else
 none
 else
 none
 else
 some [x3]
theorem q_laws_toValueS_0 (H : List Item → CS → R) (C : CallsE) (x1 : T) (x2 : T) (x3 : T) : headE fi_laws_toValueS env H C (hdAt fi_laws_toValueS.body 0) ([(0, .val 24 x1), (3, .sref 33 3 []), (4, .val 3 x2)], [(3, ⟨33, x3, .dp, false⟩)]) = b_laws_toValueS_0 H C x1 x2 x3 := by kernel_rfl
theorem y_laws_toValueS_0 (x1 : T) (x2 : T) (x3 : T) {r : List T} (h : Yields (fun k => b_laws_toValueS_0 (hl env k fi_laws_toValueS) (cl env k) x1 x2 x3) r) : Yields (fun k => l_laws_toValueS_0 (hl env k fi_laws_toValueS) x1 x2 x3) r := Yields.head (fun H C => q_laws_toValueS_0 H C x1 x2 x3) h
noncomputable def l_impl_CallOk_0 (H : List Item → CS → R) (x1 : T) (x2 : T) (x3 : T) (x4 : T) (x5 : T) : R := H (hdAt fi_impl_CallOk.body 0) ([(15, .sref 54 15 []), (16, .pref 59 16 []), (79, .val 33 x1), (80, .val 3 x2), (81, .val 3 x3)], [(15, ⟨54, x4, .dp, false⟩), (16, ⟨59, x5, (.st [.dp, .dp, .dp, .dp, .dp, .dp]), true⟩)])
/- loop.example/heirlooms/impl.CallOk -/
noncomputable abbrev b_impl_CallOk (H : List Item → CS → R) (C : CallsE) (a0 a1 a2 a3 a4 a5 a6 : T) : R :=
 obind (C F_impl_ShelfShape [a0]) fun r1 =>
 bif (!(rt r1 0).b) then
 some [(T.bool false)]
 else
 bif (decide (a6.i < (0 : Int))) then
 some [(T.bool false)]
 else
 bif (decide (a6.i > (300 : Int))) then
 some [(T.bool false)]
 else
 bif (decide (a2.i < (0 : Int))) then
 some [(T.bool false)]
 else
 bif (decide (a2.i ≥ (4 : Int))) then
 some [(T.bool false)]
 else
 obind (C F_impl_ShelfKinds [a0]) fun r2 =>
 obind (C F_impl_ShelfFunc [a0, a3, a4]) fun r3 =>
 bif (!(rt r3 1).b) then
 some [(T.bool false)]
 else
 bif (((rt r3 0).fld 0).i != (2 : Int)) then
 some [(T.bool false)]
 else
 obind (C F_impl_VaultsOk [(rt r2 0), a1]) fun r4 =>
 bif (!(rt r4 0).b) then
 some [(T.bool false)]
 else
 bif ((a5.es.length : Int) != ((((rt r3 0).fld 1).es).length : Int)) then
 some [(T.bool false)]
 else
 obind (C F_slices_ContainsFunc_string [((rt r3 0).fld 1), (T.fn 33 [])]) fun r5 =>
 bif (rt r5 0).b then
 some [(T.bool false)]
 else
 obind (C F_slices_ContainsFunc_string [((rt r3 0).fld 2), (T.fn 33 [])]) fun r6 =>
 bif (rt r6 0).b then
 some [(T.bool false)]
 else
 l_impl_CallOk_0 H a5 (T.int (a5.es.length : Int)) (T.int (0 : Int)) (rt r2 0) (T.st [((rt r3 0).fld 0), ((rt r3 0).fld 1), ((rt r3 0).fld 2), ((rt r3 0).fld 3), ((rt r3 0).fld 4), ((rt r3 0).fld 5)])
theorem e_impl_CallOk (H : List Item → CS → R) (C : CallsE) (a0 a1 a2 a3 a4 a5 a6 : T) : enterE fi_impl_CallOk env H C [a0, a1, a2, a3, a4, a5, a6] =
 obind (C F_impl_ShelfShape [a0]) fun r1 =>
 bif ((!((!(rt r1 0).b) == false)) || true) then
 bif ((!((!(rt r1 0).b) == false)) || ((((!(rt r1 0).b) == false) && true) && true)) then
 bif (bif (!(rt r1 0).b) then true else ((!(rt r1 0).b) == false)) then
 bif ((!((bif (!(rt r1 0).b) then (T.bool true) else (T.bool (decide (a6.i < (0 : Int))))).b == false)) || true) then
 bif ((!((bif (!(rt r1 0).b) then (T.bool true) else (T.bool (decide (a6.i < (0 : Int))))).b == false)) || ((((bif (!(rt r1 0).b) then (T.bool true) else (T.bool (decide (a6.i < (0 : Int))))).b == false) && true) && true)) then
 bif (bif (bif (!(rt r1 0).b) then (T.bool true) else (T.bool (decide (a6.i < (0 : Int))))).b then true else ((bif (!(rt r1 0).b) then (T.bool true) else (T.bool (decide (a6.i < (0 : Int))))).b == false)) then
 bif ((!((bif (bif (!(rt r1 0).b) then (T.bool true) else (T.bool (decide (a6.i < (0 : Int))))).b then (T.bool true) else (T.bool (decide (a6.i > (300 : Int))))).b == false)) || true) then
 bif ((!((bif (bif (!(rt r1 0).b) then (T.bool true) else (T.bool (decide (a6.i < (0 : Int))))).b then (T.bool true) else (T.bool (decide (a6.i > (300 : Int))))).b == false)) || ((((bif (bif (!(rt r1 0).b) then (T.bool true) else (T.bool (decide (a6.i < (0 : Int))))).b then (T.bool true) else (T.bool (decide (a6.i > (300 : Int))))).b == false) && true) && true)) then
 bif (bif (bif (bif (!(rt r1 0).b) then (T.bool true) else (T.bool (decide (a6.i < (0 : Int))))).b then (T.bool true) else (T.bool (decide (a6.i > (300 : Int))))).b then true else ((bif (bif (!(rt r1 0).b) then (T.bool true) else (T.bool (decide (a6.i < (0 : Int))))).b then (T.bool true) else (T.bool (decide (a6.i > (300 : Int))))).b == false)) then
 bif ((!((bif (bif (bif (!(rt r1 0).b) then (T.bool true) else (T.bool (decide (a6.i < (0 : Int))))).b then (T.bool true) else (T.bool (decide (a6.i > (300 : Int))))).b then (T.bool true) else (T.bool (decide (a2.i < (0 : Int))))).b == false)) || true) then
 bif ((!((bif (bif (bif (!(rt r1 0).b) then (T.bool true) else (T.bool (decide (a6.i < (0 : Int))))).b then (T.bool true) else (T.bool (decide (a6.i > (300 : Int))))).b then (T.bool true) else (T.bool (decide (a2.i < (0 : Int))))).b == false)) || ((((bif (bif (bif (!(rt r1 0).b) then (T.bool true) else (T.bool (decide (a6.i < (0 : Int))))).b then (T.bool true) else (T.bool (decide (a6.i > (300 : Int))))).b then (T.bool true) else (T.bool (decide (a2.i < (0 : Int))))).b == false) && true) && true)) then
 bif (bif (bif (bif (bif (!(rt r1 0).b) then (T.bool true) else (T.bool (decide (a6.i < (0 : Int))))).b then (T.bool true) else (T.bool (decide (a6.i > (300 : Int))))).b then (T.bool true) else (T.bool (decide (a2.i < (0 : Int))))).b then true else ((bif (bif (bif (!(rt r1 0).b) then (T.bool true) else (T.bool (decide (a6.i < (0 : Int))))).b then (T.bool true) else (T.bool (decide (a6.i > (300 : Int))))).b then (T.bool true) else (T.bool (decide (a2.i < (0 : Int))))).b == false)) then
 bif (bif (bif (bif (bif (!(rt r1 0).b) then (T.bool true) else (T.bool (decide (a6.i < (0 : Int))))).b then (T.bool true) else (T.bool (decide (a6.i > (300 : Int))))).b then (T.bool true) else (T.bool (decide (a2.i < (0 : Int))))).b then (T.bool true) else (T.bool (decide (a2.i ≥ (4 : Int))))).b then
 some [(T.bool false)]
 else
 obind (C F_impl_ShelfKinds [a0]) fun r2 =>
 obind (C F_impl_ShelfFunc [a0, a3, a4]) fun r3 =>
 bif ((!((!(rt r3 1).b) == false)) || true) then
 bif ((!((!(rt r3 1).b) == false)) || ((!(rt r3 1).b) == false)) then
 bif ((!((!(rt r3 1).b) == false)) || ((((!(rt r3 1).b) == false) && true) && true)) then
 bif (bif (!(rt r3 1).b) then true else ((!(rt r3 1).b) == false)) then
 bif ((!((bif (!(rt r3 1).b) then (T.bool true) else (T.bool (((rt r3 0).fld 0).i != (2 : Int)))).b == false)) || true) then
 bif ((!((bif (!(rt r3 1).b) then (T.bool true) else (T.bool (((rt r3 0).fld 0).i != (2 : Int)))).b == false)) || true) then
 bif ((!((bif (!(rt r3 1).b) then (T.bool true) else (T.bool (((rt r3 0).fld 0).i != (2 : Int)))).b == false)) || (((bif (!(rt r3 1).b) then (T.bool true) else (T.bool (((rt r3 0).fld 0).i != (2 : Int)))).b == false) && (((bif (!(rt r3 1).b) then (T.bool true) else (T.bool (((rt r3 0).fld 0).i != (2 : Int)))).b == false) && true))) then
 obind ((bif ((bif (!(rt r3 1).b) then (T.bool true) else (T.bool (((rt r3 0).fld 0).i != (2 : Int)))).b == false) then C F_impl_VaultsOk [(rt r2 0), a1] else some [])) fun r4 =>
 bif ((!((bif (!(rt r3 1).b) then (T.bool true) else (T.bool (((rt r3 0).fld 0).i != (2 : Int)))).b == false)) || ((bif (!(rt r3 1).b) then (T.bool true) else (T.bool (((rt r3 0).fld 0).i != (2 : Int)))).b == false)) then
 bif (bif (bif (!(rt r3 1).b) then (T.bool true) else (T.bool (((rt r3 0).fld 0).i != (2 : Int)))).b then true else ((bif (!(rt r3 1).b) then (T.bool true) else (T.bool (((rt r3 0).fld 0).i != (2 : Int)))).b == false)) then
 bif ((!((bif (bif (!(rt r3 1).b) then (T.bool true) else (T.bool (((rt r3 0).fld 0).i != (2 : Int)))).b then (T.bool true) else (T.bool (!(rt r4 0).b))).b == false)) || true) then
 bif ((!((bif (bif (!(rt r3 1).b) then (T.bool true) else (T.bool (((rt r3 0).fld 0).i != (2 : Int)))).b then (T.bool true) else (T.bool (!(rt r4 0).b))).b == false)) || ((bif (bif (!(rt r3 1).b) then (T.bool true) else (T.bool (((rt r3 0).fld 0).i != (2 : Int)))).b then (T.bool true) else (T.bool (!(rt r4 0).b))).b == false)) then
 bif ((!((bif (bif (!(rt r3 1).b) then (T.bool true) else (T.bool (((rt r3 0).fld 0).i != (2 : Int)))).b then (T.bool true) else (T.bool (!(rt r4 0).b))).b == false)) || true) then
 bif ((!((bif (bif (!(rt r3 1).b) then (T.bool true) else (T.bool (((rt r3 0).fld 0).i != (2 : Int)))).b then (T.bool true) else (T.bool (!(rt r4 0).b))).b == false)) || ((bif (bif (!(rt r3 1).b) then (T.bool true) else (T.bool (((rt r3 0).fld 0).i != (2 : Int)))).b then (T.bool true) else (T.bool (!(rt r4 0).b))).b == false)) then
 bif ((!((bif (bif (!(rt r3 1).b) then (T.bool true) else (T.bool (((rt r3 0).fld 0).i != (2 : Int)))).b then (T.bool true) else (T.bool (!(rt r4 0).b))).b == false)) || ((bif (bif (!(rt r3 1).b) then (T.bool true) else (T.bool (((rt r3 0).fld 0).i != (2 : Int)))).b then (T.bool true) else (T.bool (!(rt r4 0).b))).b == false)) then
 bif ((!((bif (bif (!(rt r3 1).b) then (T.bool true) else (T.bool (((rt r3 0).fld 0).i != (2 : Int)))).b then (T.bool true) else (T.bool (!(rt r4 0).b))).b == false)) || ((((bif (bif (!(rt r3 1).b) then (T.bool true) else (T.bool (((rt r3 0).fld 0).i != (2 : Int)))).b then (T.bool true) else (T.bool (!(rt r4 0).b))).b == false) && ((bif (bif (!(rt r3 1).b) then (T.bool true) else (T.bool (((rt r3 0).fld 0).i != (2 : Int)))).b then (T.bool true) else (T.bool (!(rt r4 0).b))).b == false)) && true)) then
 bif (bif (bif (bif (!(rt r3 1).b) then (T.bool true) else (T.bool (((rt r3 0).fld 0).i != (2 : Int)))).b then (T.bool true) else (T.bool (!(rt r4 0).b))).b then true else ((bif (bif (!(rt r3 1).b) then (T.bool true) else (T.bool (((rt r3 0).fld 0).i != (2 : Int)))).b then (T.bool true) else (T.bool (!(rt r4 0).b))).b == false)) then
 bif ((!((bif (bif (bif (!(rt r3 1).b) then (T.bool true) else (T.bool (((rt r3 0).fld 0).i != (2 : Int)))).b then (T.bool true) else (T.bool (!(rt r4 0).b))).b then (T.bool true) else (T.bool ((a5.es.length : Int) != ((((rt r3 0).fld 1).es).length : Int)))).b == false)) || true) then
 bif ((!((bif (bif (bif (!(rt r3 1).b) then (T.bool true) else (T.bool (((rt r3 0).fld 0).i != (2 : Int)))).b then (T.bool true) else (T.bool (!(rt r4 0).b))).b then (T.bool true) else (T.bool ((a5.es.length : Int) != ((((rt r3 0).fld 1).es).length : Int)))).b == false)) || ((bif (bif (bif (!(rt r3 1).b) then (T.bool true) else (T.bool (((rt r3 0).fld 0).i != (2 : Int)))).b then (T.bool true) else (T.bool (!(rt r4 0).b))).b then (T.bool true) else (T.bool ((a5.es.length : Int) != ((((rt r3 0).fld 1).es).length : Int)))).b == false)) then
 bif ((!((bif (bif (bif (!(rt r3 1).b) then (T.bool true) else (T.bool (((rt r3 0).fld 0).i != (2 : Int)))).b then (T.bool true) else (T.bool (!(rt r4 0).b))).b then (T.bool true) else (T.bool ((a5.es.length : Int) != ((((rt r3 0).fld 1).es).length : Int)))).b == false)) || (((bif (bif (bif (!(rt r3 1).b) then (T.bool true) else (T.bool (((rt r3 0).fld 0).i != (2 : Int)))).b then (T.bool true) else (T.bool (!(rt r4 0).b))).b then (T.bool true) else (T.bool ((a5.es.length : Int) != ((((rt r3 0).fld 1).es).length : Int)))).b == false) && true)) then
 obind ((bif ((bif (bif (bif (!(rt r3 1).b) then (T.bool true) else (T.bool (((rt r3 0).fld 0).i != (2 : Int)))).b then (T.bool true) else (T.bool (!(rt r4 0).b))).b then (T.bool true) else (T.bool ((a5.es.length : Int) != ((((rt r3 0).fld 1).es).length : Int)))).b == false) then C F_slices_ContainsFunc_string [((rt r3 0).fld 1), (T.fn 33 [])] else some [])) fun r5 =>
 bif (bif (bif (bif (bif (!(rt r3 1).b) then (T.bool true) else (T.bool (((rt r3 0).fld 0).i != (2 : Int)))).b then (T.bool true) else (T.bool (!(rt r4 0).b))).b then (T.bool true) else (T.bool ((a5.es.length : Int) != ((((rt r3 0).fld 1).es).length : Int)))).b then true else ((bif (bif (bif (!(rt r3 1).b) then (T.bool true) else (T.bool (((rt r3 0).fld 0).i != (2 : Int)))).b then (T.bool true) else (T.bool (!(rt r4 0).b))).b then (T.bool true) else (T.bool ((a5.es.length : Int) != ((((rt r3 0).fld 1).es).length : Int)))).b == false)) then
 bif ((!((bif (bif (bif (bif (!(rt r3 1).b) then (T.bool true) else (T.bool (((rt r3 0).fld 0).i != (2 : Int)))).b then (T.bool true) else (T.bool (!(rt r4 0).b))).b then (T.bool true) else (T.bool ((a5.es.length : Int) != ((((rt r3 0).fld 1).es).length : Int)))).b then (T.bool true) else (rt r5 0)).b == false)) || true) then
 bif ((!((bif (bif (bif (bif (!(rt r3 1).b) then (T.bool true) else (T.bool (((rt r3 0).fld 0).i != (2 : Int)))).b then (T.bool true) else (T.bool (!(rt r4 0).b))).b then (T.bool true) else (T.bool ((a5.es.length : Int) != ((((rt r3 0).fld 1).es).length : Int)))).b then (T.bool true) else (rt r5 0)).b == false)) || ((bif (bif (bif (bif (!(rt r3 1).b) then (T.bool true) else (T.bool (((rt r3 0).fld 0).i != (2 : Int)))).b then (T.bool true) else (T.bool (!(rt r4 0).b))).b then (T.bool true) else (T.bool ((a5.es.length : Int) != ((((rt r3 0).fld 1).es).length : Int)))).b then (T.bool true) else (rt r5 0)).b == false)) then
 bif ((!((bif (bif (bif (bif (!(rt r3 1).b) then (T.bool true) else (T.bool (((rt r3 0).fld 0).i != (2 : Int)))).b then (T.bool true) else (T.bool (!(rt r4 0).b))).b then (T.bool true) else (T.bool ((a5.es.length : Int) != ((((rt r3 0).fld 1).es).length : Int)))).b then (T.bool true) else (rt r5 0)).b == false)) || (((bif (bif (bif (bif (!(rt r3 1).b) then (T.bool true) else (T.bool (((rt r3 0).fld 0).i != (2 : Int)))).b then (T.bool true) else (T.bool (!(rt r4 0).b))).b then (T.bool true) else (T.bool ((a5.es.length : Int) != ((((rt r3 0).fld 1).es).length : Int)))).b then (T.bool true) else (rt r5 0)).b == false) && true)) then
 obind ((bif ((bif (bif (bif (bif (!(rt r3 1).b) then (T.bool true) else (T.bool (((rt r3 0).fld 0).i != (2 : Int)))).b then (T.bool true) else (T.bool (!(rt r4 0).b))).b then (T.bool true) else (T.bool ((a5.es.length : Int) != ((((rt r3 0).fld 1).es).length : Int)))).b then (T.bool true) else (rt r5 0)).b == false) then C F_slices_ContainsFunc_string [((rt r3 0).fld 2), (T.fn 33 [])] else some [])) fun r6 =>
 bif (bif (bif (bif (bif (bif (!(rt r3 1).b) then (T.bool true) else (T.bool (((rt r3 0).fld 0).i != (2 : Int)))).b then (T.bool true) else (T.bool (!(rt r4 0).b))).b then (T.bool true) else (T.bool ((a5.es.length : Int) != ((((rt r3 0).fld 1).es).length : Int)))).b then (T.bool true) else (rt r5 0)).b then true else ((bif (bif (bif (bif (!(rt r3 1).b) then (T.bool true) else (T.bool (((rt r3 0).fld 0).i != (2 : Int)))).b then (T.bool true) else (T.bool (!(rt r4 0).b))).b then (T.bool true) else (T.bool ((a5.es.length : Int) != ((((rt r3 0).fld 1).es).length : Int)))).b then (T.bool true) else (rt r5 0)).b == false)) then
 bif (bif (bif (bif (bif (bif (!(rt r3 1).b) then (T.bool true) else (T.bool (((rt r3 0).fld 0).i != (2 : Int)))).b then (T.bool true) else (T.bool (!(rt r4 0).b))).b then (T.bool true) else (T.bool ((a5.es.length : Int) != ((((rt r3 0).fld 1).es).length : Int)))).b then (T.bool true) else (rt r5 0)).b then (T.bool true) else (rt r6 0)).b then
 some [(T.bool false)]
 else
 l_impl_CallOk_0 H a5 (T.int (a5.es.length : Int)) (T.int (0 : Int)) (rt r2 0) (T.st [((rt r3 0).fld 0), ((rt r3 0).fld 1), ((rt r3 0).fld 2), ((rt r3 0).fld 3), ((rt r3 0).fld 4), ((rt r3 0).fld 5)])
 else
 none
 else
 none
 else
 none
 else
 none
 else
 none
 else
 none
 else
 none
 else
 none
 else
 none
 else
 none
 else
 none
 else
 none
 else
 none
 else
 none
 else
 none
 else
 none
 else
 none
 else
 none
 else
 none
 else
 none
 else
 none
 else
 none
 else
 none
 else
 none
 else
 none
 else
 none
 else
 none
 else
 none
 else
 none
 else
 none
 else
 none
 else
 none
 else
 none
 else
 none
 else
 none
 else
 none := by kernel_rfl
theorem q_impl_CallOk (H : List Item → CS → R) (C : CallsE) (a0 a1 a2 a3 a4 a5 a6 : T) : enterE fi_impl_CallOk env H C [a0, a1, a2, a3, a4, a5, a6] = b_impl_CallOk H C a0 a1 a2 a3 a4 a5 a6 := by
 refine (e_impl_CallOk H C a0 a1 a2 a3 a4 a5 a6).trans ?_
 unfold b_impl_CallOk
 all_goals refine obind_congr fun r1 => ?_
 all_goals try simp only [bs]
 all_goals cases hc : ((!(rt r1 0).b)) with
 | true =>
  try simp only [bs]
  all_goals kernel_rfl
 | false =>
  try simp only [bs]
  all_goals cases hc : ((decide (a6.i < (0 : Int)))) with
  | true =>
   try simp only [bs]
   all_goals kernel_rfl
  | false =>
   try simp only [bs]
   all_goals cases hc : ((decide (a6.i > (300 : Int)))) with
   | true =>
    try simp only [bs]
    all_goals kernel_rfl
   | false =>
    try simp only [bs]
    all_goals cases hc : ((decide (a2.i < (0 : Int)))) with
    | true =>
     try simp only [bs]
     all_goals kernel_rfl
    | false =>
     try simp only [bs]
     all_goals cases hc : ((decide (a2.i ≥ (4 : Int)))) with
     | true =>
      try simp only [bs]
      all_goals kernel_rfl
     | false =>
      try simp only [bs]
      all_goals refine obind_congr fun r2 => ?_
      all_goals try simp only [bs]
      all_goals refine obind_congr fun r3 => ?_
      all_goals try simp only [bs]
      all_goals cases hc : ((!(rt r3 1).b)) with
      | true =>
       try simp only [bs]
       all_goals kernel_rfl
      | false =>
       try simp only [bs]
       all_goals cases hc : ((((rt r3 0).fld 0).i != (2 : Int))) with
       | true =>
        try simp only [bs]
        all_goals kernel_rfl
       | false =>
        try simp only [bs]
        all_goals refine obind_congr fun r4 => ?_
        all_goals try simp only [bs]
        all_goals cases hc : ((!(rt r4 0).b)) with
        | true =>
         try simp only [bs]
         all_goals kernel_rfl
        | false =>
         try simp only [bs]
         all_goals cases hc : (((a5.es.length : Int) != ((((rt r3 0).fld 1).es).length : Int))) with
         | true =>
          try simp only [bs]
          all_goals kernel_rfl
         | false =>
          try simp only [bs]
          all_goals refine obind_congr fun r5 => ?_
          all_goals try simp only [bs]
          all_goals cases hc : ((rt r5 0).b) with
          | true =>
           try simp only [bs]
           all_goals kernel_rfl
          | false =>
           try simp only [bs]
           all_goals refine obind_congr fun r6 => ?_
           all_goals try simp only [bs]
           all_goals cases hc : ((rt r6 0).b) with
           | true =>
            try simp only [bs]
            all_goals kernel_rfl
           | false =>
            try simp only [bs]
            all_goals kernel_rfl
theorem y_impl_CallOk (a0 a1 a2 a3 a4 a5 a6 : T) {r : List T} (h : Yields (fun k => b_impl_CallOk (hl env k fi_impl_CallOk) (cl env k) a0 a1 a2 a3 a4 a5 a6) r) : Yields (fun k => cl env k F_impl_CallOk [a0, a1, a2, a3, a4, a5, a6]) r := Yields.call (fi := fi_impl_CallOk) rfl rfl (fun H C => q_impl_CallOk H C a0 a1 a2 a3 a4 a5 a6) h
noncomputable abbrev b_impl_CallOk_0 (H : List Item → CS → R) (C : CallsE) (x1 : T) (x2 : T) (x3 : T) (x4 : T) (x5 : T) : R :=
 bif (decide (x3.i < x2.i)) then
 bif (decide (0 ≤ x3.i) && decide (x3.i.toNat < x1.es.length)) then
 bif (decide (0 ≤ x3.i) && decide (x3.i.toNat < ((x5.fld 1).es).length)) then
 bif (!((((x1.nth x3.i.toNat).fld 0).s).toList == (((x5.fld 1).nth x3.i.toNat).s).toList)) then
 some [(T.bool false)]
 else
 obind (C F_impl_valueFits [x4, (x1.nth x3.i.toNat)]) fun r1 =>
 bif (!(rt r1 0).b) then
 some [(T.bool false)]
 else
 l_impl_CallOk_0 H x1 x2 (T.int (IntKind.wrap .i64 (x3.i + (1 : Int)))) x4 x5
 else
 none
 else
 none
 else
 some [(T.bool true)]
theorem e_impl_CallOk_0 (H : List Item → CS → R) (C : CallsE) (x1 : T) (x2 : T) (x3 : T) (x4 : T) (x5 : T) : headE fi_impl_CallOk env H C (hdAt fi_impl_CallOk.body 0) ([(15, .sref 54 15 []), (16, .pref 59 16 []), (79, .val 33 x1), (80, .val 3 x2), (81, .val 3 x3)], [(15, ⟨54, x4, .dp, false⟩), (16, ⟨59, x5, (.st [.dp, .dp, .dp, .dp, .dp, .dp]), true⟩)]) =
 bif (decide (x3.i < x2.i)) then
 bif (decide (0 ≤ x3.i) && decide (x3.i.toNat < x1.es.length)) then
 bif (decide (0 ≤ x3.i) && decide (x3.i.toNat < ((x5.fld 1).es).length)) then
 bif ((!((!((((x1.nth x3.i.toNat).fld 0).s).toList == (((x5.fld 1).nth x3.i.toNat).s).toList)) == false)) || true) then
 bif ((!((!((((x1.nth x3.i.toNat).fld 0).s).toList == (((x5.fld 1).nth x3.i.toNat).s).toList)) == false)) || true) then
 bif ((!((!((((x1.nth x3.i.toNat).fld 0).s).toList == (((x5.fld 1).nth x3.i.toNat).s).toList)) == false)) || (((!((((x1.nth x3.i.toNat).fld 0).s).toList == (((x5.fld 1).nth x3.i.toNat).s).toList)) == false) && (((!((((x1.nth x3.i.toNat).fld 0).s).toList == (((x5.fld 1).nth x3.i.toNat).s).toList)) == false) && true))) then
 obind ((bif ((!((((x1.nth x3.i.toNat).fld 0).s).toList == (((x5.fld 1).nth x3.i.toNat).s).toList)) == false) then C F_impl_valueFits [x4, (x1.nth x3.i.toNat)] else some [])) fun r1 =>
 bif ((!((!((((x1.nth x3.i.toNat).fld 0).s).toList == (((x5.fld 1).nth x3.i.toNat).s).toList)) == false)) || ((!((((x1.nth x3.i.toNat).fld 0).s).toList == (((x5.fld 1).nth x3.i.toNat).s).toList)) == false)) then
 bif (bif (!((((x1.nth x3.i.toNat).fld 0).s).toList == (((x5.fld 1).nth x3.i.toNat).s).toList)) then true else ((!((((x1.nth x3.i.toNat).fld 0).s).toList == (((x5.fld 1).nth x3.i.toNat).s).toList)) == false)) then
 bif (bif (!((((x1.nth x3.i.toNat).fld 0).s).toList == (((x5.fld 1).nth x3.i.toNat).s).toList)) then (T.bool true) else (T.bool (!(rt r1 0).b))).b then
 some [(T.bool false)]
 else
 l_impl_CallOk_0 H x1 x2 (T.int (IntKind.wrap .i64 (x3.i + (1 : Int)))) x4 x5
 else
 none
 else
 none
 else
 none
 else
 none
 else
 none
 else
 none
 else
 none
 else
 some [(T.bool true)] := by kernel_rfl
theorem q_impl_CallOk_0 (H : List Item → CS → R) (C : CallsE) (x1 : T) (x2 : T) (x3 : T) (x4 : T) (x5 : T) : headE fi_impl_CallOk env H C (hdAt fi_impl_CallOk.body 0) ([(15, .sref 54 15 []), (16, .pref 59 16 []), (79, .val 33 x1), (80, .val 3 x2), (81, .val 3 x3)], [(15, ⟨54, x4, .dp, false⟩), (16, ⟨59, x5, (.st [.dp, .dp, .dp, .dp, .dp, .dp]), true⟩)]) = b_impl_CallOk_0 H C x1 x2 x3 x4 x5 := by
 refine (e_impl_CallOk_0 H C x1 x2 x3 x4 x5).trans ?_
 unfold b_impl_CallOk_0
 all_goals cases hc : ((decide (x3.i < x2.i))) with
 | true =>
  try simp only [bs]
  all_goals cases hc : ((decide (0 ≤ x3.i) && decide (x3.i.toNat < x1.es.length))) with
  | true =>
   try simp only [bs]
   all_goals cases hc : ((decide (0 ≤ x3.i) && decide (x3.i.toNat < ((x5.fld 1).es).length))) with
   | true =>
    try simp only [bs]
    all_goals cases hc : ((!((((x1.nth x3.i.toNat).fld 0).s).toList == (((x5.fld 1).nth x3.i.toNat).s).toList))) with
    | true =>
     try simp only [bs]
     all_goals kernel_rfl
    | false =>
     try simp only [bs]
     all_goals refine obind_congr fun r1 => ?_
     all_goals try simp only [bs]
     all_goals cases hc : ((!(rt r1 0).b)) with
     | true =>
      try simp only [bs]
      all_goals kernel_rfl
     | false =>
      try simp only [bs]
      all_goals kernel_rfl
   | false =>
    try simp only [bs]
    all_goals kernel_rfl
  | false =>
   try simp only [bs]
   all_goals kernel_rfl
 | false =>
  try simp only [bs]
  all_goals kernel_rfl
theorem y_impl_CallOk_0 (x1 : T) (x2 : T) (x3 : T) (x4 : T) (x5 : T) {r : List T} (h : Yields (fun k => b_impl_CallOk_0 (hl env k fi_impl_CallOk) (cl env k) x1 x2 x3 x4 x5) r) : Yields (fun k => l_impl_CallOk_0 (hl env k fi_impl_CallOk) x1 x2 x3 x4 x5) r := Yields.head (fun H C => q_impl_CallOk_0 H C x1 x2 x3 x4 x5) h
noncomputable def l_laws_eqModuleS_0 (H : List Item → CS → R) (x1 : T) (x2 : T) (x3 : T) : R := H (hdAt fi_laws_eqModuleS.body 0) ([(0, .val 29 x1), (1, .val 29 x2), (5, .val 3 x3)], [])
/- loop.example/heirlooms/laws.eqModuleS -/
noncomputable abbrev b_laws_eqModuleS (H : List Item → CS → R) (C : CallsE) (a0 a1 : T) : R :=
 bif ((a0.es.length : Int) != (a1.es.length : Int)) then
 some [(T.bool false)]
 else
 l_laws_eqModuleS_0 H a0 a1 (T.int (0 : Int))
theorem q_laws_eqModuleS (H : List Item → CS → R) (C : CallsE) (a0 a1 : T) : enterE fi_laws_eqModuleS env H C [a0, a1] = b_laws_eqModuleS H C a0 a1 := by kernel_rfl
theorem y_laws_eqModuleS (a0 a1 : T) {r : List T} (h : Yields (fun k => b_laws_eqModuleS (hl env k fi_laws_eqModuleS) (cl env k) a0 a1) r) : Yields (fun k => cl env k F_laws_eqModuleS [a0, a1]) r := Yields.call (fi := fi_laws_eqModuleS) rfl rfl (fun H C => q_laws_eqModuleS H C a0 a1) h
noncomputable abbrev b_laws_eqModuleS_0 (H : List Item → CS → R) (C : CallsE) (x1 : T) (x2 : T) (x3 : T) : R :=
 bif (decide (x3.i < (x1.es.length : Int))) then
 bif (decide (0 ≤ x3.i) && decide (x3.i.toNat < x1.es.length)) then
 bif (decide (0 ≤ x3.i) && decide (x3.i.toNat < x2.es.length)) then
 obind (C F_laws_eqModule [(x1.nth x3.i.toNat), (x2.nth x3.i.toNat)]) fun r1 =>
 bif (!(rt r1 0).b) then
 some [(T.bool false)]
 else
 l_laws_eqModuleS_0 H x1 x2 (T.int (IntKind.wrap .i64 (x3.i + (1 : Int))))
 else
 none
 else
 none
 else
 some [(T.bool true)]
theorem q_laws_eqModuleS_0 (H : List Item → CS → R) (C : CallsE) (x1 : T) (x2 : T) (x3 : T) : headE fi_laws_eqModuleS env H C (hdAt fi_laws_eqModuleS.body 0) ([(0, .val 29 x1), (1, .val 29 x2), (5, .val 3 x3)], []) = b_laws_eqModuleS_0 H C x1 x2 x3 := by kernel_rfl
theorem y_laws_eqModuleS_0 (x1 : T) (x2 : T) (x3 : T) {r : List T} (h : Yields (fun k => b_laws_eqModuleS_0 (hl env k fi_laws_eqModuleS) (cl env k) x1 x2 x3) r) : Yields (fun k => l_laws_eqModuleS_0 (hl env k fi_laws_eqModuleS) x1 x2 x3) r := Yields.head (fun H C => q_laws_eqModuleS_0 H C x1 x2 x3) h
noncomputable def l_laws_eqKeptS_0 (H : List Item → CS → R) (x1 : T) (x2 : T) (x3 : T) : R := H (hdAt fi_laws_eqKeptS.body 0) ([(0, .val 31 x1), (1, .val 31 x2), (5, .val 3 x3)], [])
/- loop.example/heirlooms/laws.eqKeptS -/
noncomputable abbrev b_laws_eqKeptS (H : List Item → CS → R) (C : CallsE) (a0 a1 : T) : R :=
 bif ((a0.es.length : Int) != (a1.es.length : Int)) then
 some [(T.bool false)]
 else
 l_laws_eqKeptS_0 H a0 a1 (T.int (0 : Int))
theorem q_laws_eqKeptS (H : List Item → CS → R) (C : CallsE) (a0 a1 : T) : enterE fi_laws_eqKeptS env H C [a0, a1] = b_laws_eqKeptS H C a0 a1 := by kernel_rfl
theorem y_laws_eqKeptS (a0 a1 : T) {r : List T} (h : Yields (fun k => b_laws_eqKeptS (hl env k fi_laws_eqKeptS) (cl env k) a0 a1) r) : Yields (fun k => cl env k F_laws_eqKeptS [a0, a1]) r := Yields.call (fi := fi_laws_eqKeptS) rfl rfl (fun H C => q_laws_eqKeptS H C a0 a1) h
noncomputable abbrev b_laws_eqKeptS_0 (H : List Item → CS → R) (C : CallsE) (x1 : T) (x2 : T) (x3 : T) : R :=
 bif (decide (x3.i < (x1.es.length : Int))) then
 bif (decide (0 ≤ x3.i) && decide (x3.i.toNat < x1.es.length)) then
 bif (decide (0 ≤ x3.i) && decide (x3.i.toNat < x2.es.length)) then
 obind (C F_laws_eqKept [(x1.nth x3.i.toNat), (x2.nth x3.i.toNat)]) fun r1 =>
 bif (!(rt r1 0).b) then
 some [(T.bool false)]
 else
 l_laws_eqKeptS_0 H x1 x2 (T.int (IntKind.wrap .i64 (x3.i + (1 : Int))))
 else
 none
 else
 none
 else
 some [(T.bool true)]
theorem q_laws_eqKeptS_0 (H : List Item → CS → R) (C : CallsE) (x1 : T) (x2 : T) (x3 : T) : headE fi_laws_eqKeptS env H C (hdAt fi_laws_eqKeptS.body 0) ([(0, .val 31 x1), (1, .val 31 x2), (5, .val 3 x3)], []) = b_laws_eqKeptS_0 H C x1 x2 x3 := by kernel_rfl
theorem y_laws_eqKeptS_0 (x1 : T) (x2 : T) (x3 : T) {r : List T} (h : Yields (fun k => b_laws_eqKeptS_0 (hl env k fi_laws_eqKeptS) (cl env k) x1 x2 x3) r) : Yields (fun k => l_laws_eqKeptS_0 (hl env k fi_laws_eqKeptS) x1 x2 x3) r := Yields.head (fun H C => q_laws_eqKeptS_0 H C x1 x2 x3) h
noncomputable def l_laws_eqValueS_0 (H : List Item → CS → R) (x1 : T) (x2 : T) (x3 : T) : R := H (hdAt fi_laws_eqValueS.body 0) ([(0, .val 33 x1), (1, .val 33 x2), (5, .val 3 x3)], [])
/- loop.example/heirlooms/laws.eqValueS -/
noncomputable abbrev b_laws_eqValueS (H : List Item → CS → R) (C : CallsE) (a0 a1 : T) : R :=
 bif ((a0.es.length : Int) != (a1.es.length : Int)) then
 some [(T.bool false)]
 else
 l_laws_eqValueS_0 H a0 a1 (T.int (0 : Int))
theorem q_laws_eqValueS (H : List Item → CS → R) (C : CallsE) (a0 a1 : T) : enterE fi_laws_eqValueS env H C [a0, a1] = b_laws_eqValueS H C a0 a1 := by kernel_rfl
theorem y_laws_eqValueS (a0 a1 : T) {r : List T} (h : Yields (fun k => b_laws_eqValueS (hl env k fi_laws_eqValueS) (cl env k) a0 a1) r) : Yields (fun k => cl env k F_laws_eqValueS [a0, a1]) r := Yields.call (fi := fi_laws_eqValueS) rfl rfl (fun H C => q_laws_eqValueS H C a0 a1) h
noncomputable abbrev b_laws_eqValueS_0 (H : List Item → CS → R) (C : CallsE) (x1 : T) (x2 : T) (x3 : T) : R :=
 bif (decide (x3.i < (x1.es.length : Int))) then
 bif (decide (0 ≤ x3.i) && decide (x3.i.toNat < x1.es.length)) then
 bif (decide (0 ≤ x3.i) && decide (x3.i.toNat < x2.es.length)) then
 obind (C F_laws_eqValue [(x1.nth x3.i.toNat), (x2.nth x3.i.toNat)]) fun r1 =>
 bif (!(rt r1 0).b) then
 some [(T.bool false)]
 else
 l_laws_eqValueS_0 H x1 x2 (T.int (IntKind.wrap .i64 (x3.i + (1 : Int))))
 else
 none
 else
 none
 else
 some [(T.bool true)]
theorem q_laws_eqValueS_0 (H : List Item → CS → R) (C : CallsE) (x1 : T) (x2 : T) (x3 : T) : headE fi_laws_eqValueS env H C (hdAt fi_laws_eqValueS.body 0) ([(0, .val 33 x1), (1, .val 33 x2), (5, .val 3 x3)], []) = b_laws_eqValueS_0 H C x1 x2 x3 := by kernel_rfl
theorem y_laws_eqValueS_0 (x1 : T) (x2 : T) (x3 : T) {r : List T} (h : Yields (fun k => b_laws_eqValueS_0 (hl env k fi_laws_eqValueS) (cl env k) x1 x2 x3) r) : Yields (fun k => l_laws_eqValueS_0 (hl env k fi_laws_eqValueS) x1 x2 x3) r := Yields.head (fun H C => q_laws_eqValueS_0 H C x1 x2 x3) h
/- loop.example/heirlooms/laws.szModule -/
noncomputable abbrev b_laws_szModule (H : List Item → CS → R) (C : CallsE) (a0 a1 : T) : R :=
 obind (C F_laws_szRecordS [(a0.fld 0), a1]) fun r1 =>
 bif (decide ((rt r1 0).i < (0 : Int))) then
 some [(T.int (-1 : Int))]
 else
 obind (C F_laws_szFuncS [(a0.fld 1), (rt r1 0)]) fun r2 =>
 bif (decide ((rt r2 0).i < (0 : Int))) then
 some [(T.int (-1 : Int))]
 else
 obind (C F_laws_szIntS [(a0.fld 2), (rt r2 0)]) fun r3 =>
 bif (decide ((rt r3 0).i < (0 : Int))) then
 some [(T.int (-1 : Int))]
 else
 some [(rt r3 0)]
theorem q_laws_szModule (H : List Item → CS → R) (C : CallsE) (a0 a1 : T) : enterE fi_laws_szModule env H C [a0, a1] = b_laws_szModule H C a0 a1 := by kernel_rfl
theorem y_laws_szModule (a0 a1 : T) {r : List T} (h : Yields (fun k => b_laws_szModule (hl env k fi_laws_szModule) (cl env k) a0 a1) r) : Yields (fun k => cl env k F_laws_szModule [a0, a1]) r := Yields.call (fi := fi_laws_szModule) rfl rfl (fun H C => q_laws_szModule H C a0 a1) h
/- loop.example/heirlooms/laws.szKept -/
noncomputable abbrev b_laws_szKept (H : List Item → CS → R) (C : CallsE) (a0 a1 : T) : R :=
 obind (C F_laws_szValue [(a0.fld 1), a1]) fun r1 =>
 bif (decide ((rt r1 0).i < (0 : Int))) then
 some [(T.int (-1 : Int))]
 else
 some [(rt r1 0)]
theorem q_laws_szKept (H : List Item → CS → R) (C : CallsE) (a0 a1 : T) : enterE fi_laws_szKept env H C [a0, a1] = b_laws_szKept H C a0 a1 := by kernel_rfl
theorem y_laws_szKept (a0 a1 : T) {r : List T} (h : Yields (fun k => b_laws_szKept (hl env k fi_laws_szKept) (cl env k) a0 a1) r) : Yields (fun k => cl env k F_laws_szKept [a0, a1]) r := Yields.call (fi := fi_laws_szKept) rfl rfl (fun H C => q_laws_szKept H C a0 a1) h
/- loop.example/heirlooms/laws.szValue -/
noncomputable abbrev b_laws_szValue (H : List Item → CS → R) (C : CallsE) (a0 a1 : T) : R :=
 bif (decide ((IntKind.wrap .i64 (a1.i - (((a0.fld 0).s).size : Int))) < (0 : Int))) then
 some [(T.int (-1 : Int))]
 else
 obind (C F_laws_szValueS [(a0.fld 2), (T.int (IntKind.wrap .i64 (a1.i - (((a0.fld 0).s).size : Int))))]) fun r1 =>
 bif (decide ((rt r1 0).i < (0 : Int))) then
 some [(T.int (-1 : Int))]
 else
 obind (C F_laws_szIntS [(a0.fld 3), (rt r1 0)]) fun r2 =>
 bif (decide ((rt r2 0).i < (0 : Int))) then
 some [(T.int (-1 : Int))]
 else
 some [(rt r2 0)]
theorem q_laws_szValue (H : List Item → CS → R) (C : CallsE) (a0 a1 : T) : enterE fi_laws_szValue env H C [a0, a1] = b_laws_szValue H C a0 a1 := by kernel_rfl
theorem y_laws_szValue (a0 a1 : T) {r : List T} (h : Yields (fun k => b_laws_szValue (hl env k fi_laws_szValue) (cl env k) a0 a1) r) : Yields (fun k => cl env k F_laws_szValue [a0, a1]) r := Yields.call (fi := fi_laws_szValue) rfl rfl (fun H C => q_laws_szValue H C a0 a1) h
noncomputable def l_spec_ShelfShape_0 (H : List Item → CS → R) (x1 : T) (x2 : T) (x3 : T) : R := H (hdAt fi_spec_ShelfShape.body 0) ([(0, .val 29 x1), (3, .sref 54 3 []), (4, .val 3 x2)], [(3, ⟨54, x3, .dp, false⟩)])
noncomputable def l_spec_ShelfShape_1 (H : List Item → CS → R) (x1 : T) (x2 : T) (x3 : T) (x4 : T) : R := H (hdAt fi_spec_ShelfShape.body 1) ([(0, .val 29 x1), (3, .sref 54 3 []), (4, .val 3 x2), (5, .val 3 x3)], [(3, ⟨54, x4, .dp, false⟩)])
/- loop.example/heirlooms/spec.ShelfShape -/
noncomputable abbrev b_spec_ShelfShape (H : List Item → CS → R) (C : CallsE) (a0 : T) : R :=
 obind (C F_spec_ShelfKinds [a0]) fun r1 =>
 obind (C F_spec_KindsOk [(rt r1 0)]) fun r2 =>
 bif (!(rt r2 0).b) then
 some [(T.bool false)]
 else
 l_spec_ShelfShape_0 H a0 (T.int (0 : Int)) (rt r1 0)
theorem q_spec_ShelfShape (H : List Item → CS → R) (C : CallsE) (a0 : T) : enterE fi_spec_ShelfShape env H C [a0] = b_spec_ShelfShape H C a0 := by kernel_rfl
theorem y_spec_ShelfShape (a0 : T) {r : List T} (h : Yields (fun k => b_spec_ShelfShape (hl env k fi_spec_ShelfShape) (cl env k) a0) r) : Yields (fun k => cl env k F_spec_ShelfShape [a0]) r := Yields.call (fi := fi_spec_ShelfShape) rfl rfl (fun H C => q_spec_ShelfShape H C a0) h
noncomputable abbrev b_spec_ShelfShape_0 (H : List Item → CS → R) (C : CallsE) (x1 : T) (x2 : T) (x3 : T) : R :=
 bif (decide (x2.i < (x1.es.length : Int))) then
 bif (decide (0 ≤ x2.i) && decide (x2.i.toNat < x1.es.length)) then
 bif (decide (((((x1.nth x2.i.toNat).fld 1).es).length : Int) > (4 : Int))) then
 some [(T.bool false)]
 else
 obind (C F_spec_l4Rises [((x1.nth x2.i.toNat).fld 2), (T.int (IntKind.wrap .i64 (x2.i + (1 : Int)))), (T.int (IntKind.wrap .i64 ((x1.es.length : Int) - (1 : Int))))]) fun r1 =>
 bif (!(rt r1 0).b) then
 some [(T.bool false)]
 else
 l_spec_ShelfShape_1 H x1 x2 (T.int (0 : Int)) x3
 else
 none
 else
 some [(T.bool true)]
theorem e_spec_ShelfShape_0 (H : List Item → CS → R) (C : CallsE) (x1 : T) (x2 : T) (x3 : T) : headE fi_spec_ShelfShape env H C (hdAt fi_spec_ShelfShape.body 0) ([(0, .val 29 x1), (3, .sref 54 3 []), (4, .val 3 x2)], [(3, ⟨54, x3, .dp, false⟩)]) =
 bif (decide (x2.i < (x1.es.length : Int))) then
 bif (decide (0 ≤ x2.i) && decide (x2.i.toNat < x1.es.length)) then
 bif ((!((decide (((((x1.nth x2.i.toNat).fld 1).es).length : Int) > (4 : Int))) == false)) || true) then
 bif ((!((decide (((((x1.nth x2.i.toNat).fld 1).es).length : Int) > (4 : Int))) == false)) || true) then
 bif ((!((decide (((((x1.nth x2.i.toNat).fld 1).es).length : Int) > (4 : Int))) == false)) || ((((decide (((((x1.nth x2.i.toNat).fld 1).es).length : Int) > (4 : Int))) == false) && (((decide (((((x1.nth x2.i.toNat).fld 1).es).length : Int) > (4 : Int))) == false) && true)) && (decide (0 ≤ x2.i) && decide (x2.i.toNat < x1.es.length)))) then
 bif ((!((decide (((((x1.nth x2.i.toNat).fld 1).es).length : Int) > (4 : Int))) == false)) || ((decide (((((x1.nth x2.i.toNat).fld 1).es).length : Int) > (4 : Int))) == false)) then
 bif ((!((decide (((((x1.nth x2.i.toNat).fld 1).es).length : Int) > (4 : Int))) == false)) || ((decide (((((x1.nth x2.i.toNat).fld 1).es).length : Int) > (4 : Int))) == false)) then
 bif ((!((decide (((((x1.nth x2.i.toNat).fld 1).es).length : Int) > (4 : Int))) == false)) || true) then
 bif ((!((decide (((((x1.nth x2.i.toNat).fld 1).es).length : Int) > (4 : Int))) == false)) || ((((decide (((((x1.nth x2.i.toNat).fld 1).es).length : Int) > (4 : Int))) == false) && true) && true)) then
 bif ((!((decide (((((x1.nth x2.i.toNat).fld 1).es).length : Int) > (4 : Int))) == false)) || true) then
 bif ((!((decide (((((x1.nth x2.i.toNat).fld 1).es).length : Int) > (4 : Int))) == false)) || ((decide (((((x1.nth x2.i.toNat).fld 1).es).length : Int) > (4 : Int))) == false)) then
 bif ((!((decide (((((x1.nth x2.i.toNat).fld 1).es).length : Int) > (4 : Int))) == false)) || ((((decide (((((x1.nth x2.i.toNat).fld 1).es).length : Int) > (4 : Int))) == false) && true) && true)) then
 bif ((!((decide (((((x1.nth x2.i.toNat).fld 1).es).length : Int) > (4 : Int))) == false)) || (((decide (((((x1.nth x2.i.toNat).fld 1).es).length : Int) > (4 : Int))) == false) && (((decide (((((x1.nth x2.i.toNat).fld 1).es).length : Int) > (4 : Int))) == false) && (((decide (((((x1.nth x2.i.toNat).fld 1).es).length : Int) > (4 : Int))) == false) && true)))) then
 obind ((bif ((decide (((((x1.nth x2.i.toNat).fld 1).es).length : Int) > (4 : Int))) == false) then C F_spec_l4Rises [((x1.nth x2.i.toNat).fld 2), (T.int (IntKind.wrap .i64 (x2.i + (1 : Int)))), (T.int (IntKind.wrap .i64 ((x1.es.length : Int) - (1 : Int))))] else some [])) fun r1 =>
 bif ((!((decide (((((x1.nth x2.i.toNat).fld 1).es).length : Int) > (4 : Int))) == false)) || ((decide (((((x1.nth x2.i.toNat).fld 1).es).length : Int) > (4 : Int))) == false)) then
 bif (bif (decide (((((x1.nth x2.i.toNat).fld 1).es).length : Int) > (4 : Int))) then true else ((decide (((((x1.nth x2.i.toNat).fld 1).es).length : Int) > (4 : Int))) == false)) then
 bif (bif (decide (((((x1.nth x2.i.toNat).fld 1).es).length : Int) > (4 : Int))) then (T.bool true) else (T.bool (!(rt r1 0).b))).b then
 some [(T.bool false)]
 else
 l_spec_ShelfShape_1 H x1 x2 (T.int (0 : Int)) x3
 else
 none
 else
 none
 else
 none
 else
 none
 else
 none
 else
 none
 else
 none
 else
 none
 else
 none
 else
 none
 else
 none
 else
 none
 else
 none
 else
 none
 else
 some [(T.bool true)] := by kernel_rfl
theorem q_spec_ShelfShape_0 (H : List Item → CS → R) (C : CallsE) (x1 : T) (x2 : T) (x3 : T) : headE fi_spec_ShelfShape env H C (hdAt fi_spec_ShelfShape.body 0) ([(0, .val 29 x1), (3, .sref 54 3 []), (4, .val 3 x2)], [(3, ⟨54, x3, .dp, false⟩)]) = b_spec_ShelfShape_0 H C x1 x2 x3 := by
 refine (e_spec_ShelfShape_0 H C x1 x2 x3).trans ?_
 unfold b_spec_ShelfShape_0
 all_goals cases hc : ((decide (x2.i < (x1.es.length : Int)))) with
 | true =>
  try simp only [bs]
  all_goals cases hc : ((decide (0 ≤ x2.i) && decide (x2.i.toNat < x1.es.length))) with
  | true =>
   try simp only [bs]
   all_goals cases hc : ((decide (((((x1.nth x2.i.toNat).fld 1).es).length : Int) > (4 : Int)))) with
   | true =>
    try simp only [bs]
    all_goals kernel_rfl
   | false =>
    try simp only [bs]
    all_goals refine obind_congr fun r1 => ?_
    all_goals try simp only [bs]
    all_goals cases hc : ((!(rt r1 0).b)) with
    | true =>
     try simp only [bs]
     all_goals kernel_rfl
    | false =>
     try simp only [bs]
     all_goals kernel_rfl
  | false =>
   try simp only [bs]
   all_goals kernel_rfl
 | false =>
  try simp only [bs]
  all_goals kernel_rfl
theorem y_spec_ShelfShape_0 (x1 : T) (x2 : T) (x3 : T) {r : List T} (h : Yields (fun k => b_spec_ShelfShape_0 (hl env k fi_spec_ShelfShape) (cl env k) x1 x2 x3) r) : Yields (fun k => l_spec_ShelfShape_0 (hl env k fi_spec_ShelfShape) x1 x2 x3) r := Yields.head (fun H C => q_spec_ShelfShape_0 H C x1 x2 x3) h
noncomputable abbrev b_spec_ShelfShape_1 (H : List Item → CS → R) (C : CallsE) (x1 : T) (x2 : T) (x3 : T) (x4 : T) : R :=
 bif (decide (0 ≤ x2.i) && decide (x2.i.toNat < x1.es.length)) then
 bif (decide (x3.i < ((((x1.nth x2.i.toNat).fld 1).es).length : Int))) then
 bif (decide (0 ≤ x3.i) && decide (x3.i.toNat < (((x1.nth x2.i.toNat).fld 1).es).length)) then
 obind (C F_spec_l4Func [x4, x2, (((x1.nth x2.i.toNat).fld 1).nth x3.i.toNat)]) fun r1 =>
 bif (!(rt r1 0).b) then
 some [(T.bool false)]
 else
 l_spec_ShelfShape_1 H x1 x2 (T.int (IntKind.wrap .i64 (x3.i + (1 : Int)))) x4
 else
 none
 else
 l_spec_ShelfShape_0 H x1 (T.int (IntKind.wrap .i64 (x2.i + (1 : Int)))) x4
 else
 none
theorem e_spec_ShelfShape_1 (H : List Item → CS → R) (C : CallsE) (x1 : T) (x2 : T) (x3 : T) (x4 : T) : headE fi_spec_ShelfShape env H C (hdAt fi_spec_ShelfShape.body 1) ([(0, .val 29 x1), (3, .sref 54 3 []), (4, .val 3 x2), (5, .val 3 x3)], [(3, ⟨54, x4, .dp, false⟩)]) =
 bif (decide (0 ≤ x2.i) && decide (x2.i.toNat < x1.es.length)) then
 bif (decide (x3.i < ((((x1.nth x2.i.toNat).fld 1).es).length : Int))) then
 bif (decide (0 ≤ x2.i) && decide (x2.i.toNat < x1.es.length)) then
 bif (decide (0 ≤ x3.i) && decide (x3.i.toNat < (((x1.nth x2.i.toNat).fld 1).es).length)) then
 obind (C F_spec_l4Func [x4, x2, (((x1.nth x2.i.toNat).fld 1).nth x3.i.toNat)]) fun r1 =>
 bif (!(rt r1 0).b) then
 some [(T.bool false)]
 else
 l_spec_ShelfShape_1 H x1 x2 (T.int (IntKind.wrap .i64 (x3.i + (1 : Int)))) x4
 else
 none
 else
 none
 else
 l_spec_ShelfShape_0 H x1 (T.int (IntKind.wrap .i64 (x2.i + (1 : Int)))) x4
 else
 none := by kernel_rfl
theorem q_spec_ShelfShape_1 (H : List Item → CS → R) (C : CallsE) (x1 : T) (x2 : T) (x3 : T) (x4 : T) : headE fi_spec_ShelfShape env H C (hdAt fi_spec_ShelfShape.body 1) ([(0, .val 29 x1), (3, .sref 54 3 []), (4, .val 3 x2), (5, .val 3 x3)], [(3, ⟨54, x4, .dp, false⟩)]) = b_spec_ShelfShape_1 H C x1 x2 x3 x4 := by
 refine (e_spec_ShelfShape_1 H C x1 x2 x3 x4).trans ?_
 unfold b_spec_ShelfShape_1
 all_goals cases hc : ((decide (0 ≤ x2.i) && decide (x2.i.toNat < x1.es.length))) with
 | true =>
  try simp only [bs]
  all_goals cases hc : ((decide (x3.i < ((((x1.nth x2.i.toNat).fld 1).es).length : Int)))) with
  | true =>
   try simp only [bs]
   all_goals cases hc : ((decide (0 ≤ x3.i) && decide (x3.i.toNat < (((x1.nth x2.i.toNat).fld 1).es).length))) with
   | true =>
    try simp only [bs]
    all_goals refine obind_congr fun r1 => ?_
    all_goals try simp only [bs]
    all_goals cases hc : ((!(rt r1 0).b)) with
    | true =>
     try simp only [bs]
     all_goals kernel_rfl
    | false =>
     try simp only [bs]
     all_goals kernel_rfl
   | false =>
    try simp only [bs]
    all_goals kernel_rfl
  | false =>
   try simp only [bs]
   all_goals kernel_rfl
 | false =>
  try simp only [bs]
  all_goals kernel_rfl
theorem y_spec_ShelfShape_1 (x1 : T) (x2 : T) (x3 : T) (x4 : T) {r : List T} (h : Yields (fun k => b_spec_ShelfShape_1 (hl env k fi_spec_ShelfShape) (cl env k) x1 x2 x3 x4) r) : Yields (fun k => l_spec_ShelfShape_1 (hl env k fi_spec_ShelfShape) x1 x2 x3 x4) r := Yields.head (fun H C => q_spec_ShelfShape_1 H C x1 x2 x3 x4) h
/- loop.example/heirlooms/spec.l4Has -/
noncomputable abbrev b_spec_l4Has (H : List Item → CS → R) (C : CallsE) (a0 a1 a2 : T) : R :=
 obind (C F_spec_l6In [a1, (T.int (0 : Int)), (T.int (IntKind.wrap .i64 ((a0.es.length : Int) - (1 : Int))))]) fun r1 =>
 bif (rt r1 0).b then
 bif (decide (0 ≤ a1.i) && decide (a1.i.toNat < a0.es.length)) then
 obind (C F_spec_l6In [a2, (T.int (0 : Int)), (T.int (IntKind.wrap .i64 (((((a0.nth a1.i.toNat).fld 1).es).length : Int) - (1 : Int))))]) fun r2 =>
 some [(rt r2 0)]
 else
 none
 else
 some [(T.bool false)]
theorem e_spec_l4Has (H : List Item → CS → R) (C : CallsE) (a0 a1 a2 : T) : enterE fi_spec_l4Has env H C [a0, a1, a2] =
 obind (C F_spec_l6In [a1, (T.int (0 : Int)), (T.int (IntKind.wrap .i64 ((a0.es.length : Int) - (1 : Int))))]) fun r1 =>
 bif ((!((rt r1 0).b == true)) || true) then
 bif ((!((rt r1 0).b == true)) || true) then
 bif ((!((rt r1 0).b == true)) || true) then
 bif ((!((rt r1 0).b == true)) || ((((rt r1 0).b == true) && (((rt r1 0).b == true) && true)) && (decide (0 ≤ a1.i) && decide (a1.i.toNat < a0.es.length)))) then
 bif ((!((rt r1 0).b == true)) || ((rt r1 0).b == true)) then
 bif ((!((rt r1 0).b == true)) || ((rt r1 0).b == true)) then
 bif ((!((rt r1 0).b == true)) || ((rt r1 0).b == true)) then
 bif ((!((rt r1 0).b == true)) || ((((rt r1 0).b == true) && true) && true)) then
 bif ((!((rt r1 0).b == true)) || (((rt r1 0).b == true) && (((rt r1 0).b == true) && true))) then
 obind ((bif ((rt r1 0).b == true) then C F_spec_l6In [a2, (T.int (0 : Int)), (T.int (IntKind.wrap .i64 (((((a0.nth a1.i.toNat).fld 1).es).length : Int) - (1 : Int))))] else some [])) fun r2 =>
 bif (bif (rt r1 0).b then ((rt r1 0).b == true) else true) then
 some [(bif (rt r1 0).b then (rt r2 0) else (T.bool false))]
 else
 none
 else
 none
 else
 none
 else
 none
 else
 none
 else
 none
 else
 none
 else
 none
 else
 none
 else
 none := by kernel_rfl
theorem q_spec_l4Has (H : List Item → CS → R) (C : CallsE) (a0 a1 a2 : T) : enterE fi_spec_l4Has env H C [a0, a1, a2] = b_spec_l4Has H C a0 a1 a2 := by
 refine (e_spec_l4Has H C a0 a1 a2).trans ?_
 unfold b_spec_l4Has
 all_goals refine obind_congr fun r1 => ?_
 all_goals try simp only [bs]
 all_goals cases hc : ((rt r1 0).b) with
 | true =>
  try simp only [bs]
  all_goals cases hc : ((decide (0 ≤ a1.i) && decide (a1.i.toNat < a0.es.length))) with
  | true =>
   try simp only [bs]
   all_goals refine obind_congr fun r2 => ?_
   all_goals try simp only [bs]
   all_goals kernel_rfl
  | false =>
   try simp only [bs]
   all_goals kernel_rfl
 | false =>
  try simp only [bs]
  all_goals kernel_rfl
theorem y_spec_l4Has (a0 a1 a2 : T) {r : List T} (h : Yields (fun k => b_spec_l4Has (hl env k fi_spec_l4Has) (cl env k) a0 a1 a2) r) : Yields (fun k => cl env k F_spec_l4Has [a0, a1, a2]) r := Yields.call (fi := fi_spec_l4Has) rfl rfl (fun H C => q_spec_l4Has H C a0 a1 a2) h
/- loop.example/heirlooms/spec.l6In -/
noncomputable abbrev b_spec_l6In (H : List Item → CS → R) (C : CallsE) (a0 a1 a2 : T) : R :=
 bif (decide (a0.i ≥ a1.i)) then
 some [(T.bool (decide (a0.i ≤ a2.i)))]
 else
 some [(T.bool false)]
theorem e_spec_l6In (H : List Item → CS → R) (C : CallsE) (a0 a1 a2 : T) : enterE fi_spec_l6In env H C [a0, a1, a2] =
 bif ((!((decide (a0.i ≥ a1.i)) == true)) || true) then
 bif ((!((decide (a0.i ≥ a1.i)) == true)) || true) then
 bif ((!((decide (a0.i ≥ a1.i)) == true)) || ((((decide (a0.i ≥ a1.i)) == true) && ((decide (a0.i ≥ a1.i)) == true)) && true)) then
 bif (bif (decide (a0.i ≥ a1.i)) then ((decide (a0.i ≥ a1.i)) == true) else true) then
 some [(bif (decide (a0.i ≥ a1.i)) then (T.bool (decide (a0.i ≤ a2.i))) else (T.bool false))]
 else
 none
 else
 none
 else
 none
 else
 none := by kernel_rfl
theorem q_spec_l6In (H : List Item → CS → R) (C : CallsE) (a0 a1 a2 : T) : enterE fi_spec_l6In env H C [a0, a1, a2] = b_spec_l6In H C a0 a1 a2 := by
 refine (e_spec_l6In H C a0 a1 a2).trans ?_
 unfold b_spec_l6In
 all_goals cases hc : ((decide (a0.i ≥ a1.i))) with
 | true =>
  try simp only [bs]
  all_goals kernel_rfl
 | false =>
  try simp only [bs]
  all_goals kernel_rfl
theorem y_spec_l6In (a0 a1 a2 : T) {r : List T} (h : Yields (fun k => b_spec_l6In (hl env k fi_spec_l6In) (cl env k) a0 a1 a2) r) : Yields (fun k => cl env k F_spec_l6In [a0, a1, a2]) r := Yields.call (fi := fi_spec_l6In) rfl rfl (fun H C => q_spec_l6In H C a0 a1 a2) h
noncomputable def l_spec_ShelfKinds_0 (H : List Item → CS → R) (x1 : T) (x2 : T) (x3 : T) : R := H (hdAt fi_spec_ShelfKinds.body 0) ([(0, .val 29 x1), (3, .sref 54 3 []), (4, .val 3 x2)], [(3, ⟨54, x3, (.sl .dp), false⟩)])
noncomputable def l_spec_ShelfKinds_1 (H : List Item → CS → R) (x1 : T) (x2 : T) (x3 : T) (x4 : T) (x5 : T) : R := H (hdAt fi_spec_ShelfKinds.body 1) ([(0, .val 29 x1), (3, .sref 54 3 []), (4, .val 3 x2), (5, .sref 60 5 []), (6, .val 3 x3)], [(3, ⟨54, x4, (.sl .dp), false⟩), (5, ⟨60, x5, (.sl .dp), false⟩)])
/- loop.example/heirlooms/spec.ShelfKinds -/
noncomputable abbrev b_spec_ShelfKinds (H : List Item → CS → R) (C : CallsE) (a0 : T) : R :=
 l_spec_ShelfKinds_0 H a0 (T.int (0 : Int)) (T.sl [])
theorem q_spec_ShelfKinds (H : List Item → CS → R) (C : CallsE) (a0 : T) : enterE fi_spec_ShelfKinds env H C [a0] = b_spec_ShelfKinds H C a0 := by kernel_rfl
theorem y_spec_ShelfKinds (a0 : T) {r : List T} (h : Yields (fun k => b_spec_ShelfKinds (hl env k fi_spec_ShelfKinds) (cl env k) a0) r) : Yields (fun k => cl env k F_spec_ShelfKinds [a0]) r := Yields.call (fi := fi_spec_ShelfKinds) rfl rfl (fun H C => q_spec_ShelfKinds H C a0) h
noncomputable abbrev b_spec_ShelfKinds_0 (H : List Item → CS → R) (C : CallsE) (x1 : T) (x2 : T) (x3 : T) : R :=
 bif (decide (x2.i < (x1.es.length : Int))) then
 l_spec_ShelfKinds_1 H x1 x2 (T.int (0 : Int)) x3 (T.sl [])
 else
 some [x3]
theorem q_spec_ShelfKinds_0 (H : List Item → CS → R) (C : CallsE) (x1 : T) (x2 : T) (x3 : T) : headE fi_spec_ShelfKinds env H C (hdAt fi_spec_ShelfKinds.body 0) ([(0, .val 29 x1), (3, .sref 54 3 []), (4, .val 3 x2)], [(3, ⟨54, x3, (.sl .dp), false⟩)]) = b_spec_ShelfKinds_0 H C x1 x2 x3 := by kernel_rfl
theorem y_spec_ShelfKinds_0 (x1 : T) (x2 : T) (x3 : T) {r : List T} (h : Yields (fun k => b_spec_ShelfKinds_0 (hl env k fi_spec_ShelfKinds) (cl env k) x1 x2 x3) r) : Yields (fun k => l_spec_ShelfKinds_0 (hl env k fi_spec_ShelfKinds) x1 x2 x3) r := Yields.head (fun H C => q_spec_ShelfKinds_0 H C x1 x2 x3) h
noncomputable abbrev b_spec_ShelfKinds_1 (H : List Item → CS → R) (C : CallsE) (x1 : T) (x2 : T) (x3 : T) (x4 : T) (x5 : T) : R :=
 bif (decide (0 ≤ x2.i) && decide (x2.i.toNat < x1.es.length)) then
 bif (decide (x3.i < ((((x1.nth x2.i.toNat).fld 0).es).length : Int))) then
 bif (decide (0 ≤ x3.i) && decide (x3.i.toNat < (((x1.nth x2.i.toNat).fld 0).es).length)) then
 bif (decide (([] : List T).length + (((((x1.nth x2.i.toNat).fld 0).nth x3.i.toNat).fld 1).es).length ≤ LIM)) then
 bif (decide (x5.es.length + [(T.st [((((x1.nth x2.i.toNat).fld 0).nth x3.i.toNat).fld 0), (T.sl (([] : List T) ++ ((((x1.nth x2.i.toNat).fld 0).nth x3.i.toNat).fld 1).es))])].length ≤ LIM)) then
 l_spec_ShelfKinds_1 H x1 x2 (T.int (IntKind.wrap .i64 (x3.i + (1 : Int)))) x4 (T.sl (x5.es ++ [(T.st [((((x1.nth x2.i.toNat).fld 0).nth x3.i.toNat).fld 0), (T.sl (([] : List T) ++ ((((x1.nth x2.i.toNat).fld 0).nth x3.i.toNat).fld 1).es))])]))
 else
 none
 else
 none
 else
 none
 else
 bif (decide (x4.es.length + [x5].length ≤ LIM)) then
 l_spec_ShelfKinds_0 H x1 (T.int (IntKind.wrap .i64 (x2.i + (1 : Int)))) (T.sl (x4.es ++ [x5]))
 else
 none
 else
 none
theorem e_spec_ShelfKinds_1 (H : List Item → CS → R) (C : CallsE) (x1 : T) (x2 : T) (x3 : T) (x4 : T) (x5 : T) : headE fi_spec_ShelfKinds env H C (hdAt fi_spec_ShelfKinds.body 1) ([(0, .val 29 x1), (3, .sref 54 3 []), (4, .val 3 x2), (5, .sref 60 5 []), (6, .val 3 x3)], [(3, ⟨54, x4, (.sl .dp), false⟩), (5, ⟨60, x5, (.sl .dp), false⟩)]) =
 bif (decide (0 ≤ x2.i) && decide (x2.i.toNat < x1.es.length)) then
 bif (decide (x3.i < ((((x1.nth x2.i.toNat).fld 0).es).length : Int))) then
 bif (decide (0 ≤ x2.i) && decide (x2.i.toNat < x1.es.length)) then
 bif (decide (0 ≤ x3.i) && decide (x3.i.toNat < (((x1.nth x2.i.toNat).fld 0).es).length)) then
 bif (decide (([] : List T).length + (((((x1.nth x2.i.toNat).fld 0).nth x3.i.toNat).fld 1).es).length ≤ LIM)) then
 bif (decide (x5.es.length + [(T.st [((((x1.nth x2.i.toNat).fld 0).nth x3.i.toNat).fld 0), (T.sl (([] : List T) ++ ((((x1.nth x2.i.toNat).fld 0).nth x3.i.toNat).fld 1).es))])].length ≤ LIM)) then
 l_spec_ShelfKinds_1 H x1 x2 (T.int (IntKind.wrap .i64 (x3.i + (1 : Int)))) x4 (T.sl (x5.es ++ [(T.st [((((x1.nth x2.i.toNat).fld 0).nth x3.i.toNat).fld 0), (T.sl (([] : List T) ++ ((((x1.nth x2.i.toNat).fld 0).nth x3.i.toNat).fld 1).es))])]))
 else
 none
 else
 none
 else
 none
 else
 none
 else
 bif (decide (x4.es.length + [x5].length ≤ LIM)) then
 l_spec_ShelfKinds_0 H x1 (T.int (IntKind.wrap .i64 (x2.i + (1 : Int)))) (T.sl (x4.es ++ [x5]))
 else
 none
 else
 none := by kernel_rfl
theorem q_spec_ShelfKinds_1 (H : List Item → CS → R) (C : CallsE) (x1 : T) (x2 : T) (x3 : T) (x4 : T) (x5 : T) : headE fi_spec_ShelfKinds env H C (hdAt fi_spec_ShelfKinds.body 1) ([(0, .val 29 x1), (3, .sref 54 3 []), (4, .val 3 x2), (5, .sref 60 5 []), (6, .val 3 x3)], [(3, ⟨54, x4, (.sl .dp), false⟩), (5, ⟨60, x5, (.sl .dp), false⟩)]) = b_spec_ShelfKinds_1 H C x1 x2 x3 x4 x5 := by
 refine (e_spec_ShelfKinds_1 H C x1 x2 x3 x4 x5).trans ?_
 unfold b_spec_ShelfKinds_1
 all_goals cases hc : ((decide (0 ≤ x2.i) && decide (x2.i.toNat < x1.es.length))) with
 | true =>
  try simp only [bs]
  all_goals cases hc : ((decide (x3.i < ((((x1.nth x2.i.toNat).fld 0).es).length : Int)))) with
  | true =>
   try simp only [bs]
   all_goals cases hc : ((decide (0 ≤ x3.i) && decide (x3.i.toNat < (((x1.nth x2.i.toNat).fld 0).es).length))) with
   | true =>
    try simp only [bs]
    all_goals cases hc : ((decide (([] : List T).length + (((((x1.nth x2.i.toNat).fld 0).nth x3.i.toNat).fld 1).es).length ≤ LIM))) with
    | true =>
     try simp only [bs]
     all_goals cases hc : ((decide (x5.es.length + [(T.st [((((x1.nth x2.i.toNat).fld 0).nth x3.i.toNat).fld 0), (T.sl (([] : List T) ++ ((((x1.nth x2.i.toNat).fld 0).nth x3.i.toNat).fld 1).es))])].length ≤ LIM))) with
     | true =>
      try simp only [bs]
      all_goals kernel_rfl
     | false =>
      try simp only [bs]
      all_goals kernel_rfl
    | false =>
     try simp only [bs]
     all_goals kernel_rfl
   | false =>
    try simp only [bs]
    all_goals kernel_rfl
  | false =>
   try simp only [bs]
   all_goals cases hc : ((decide (x4.es.length + [x5].length ≤ LIM))) with
   | true =>
    try simp only [bs]
    all_goals kernel_rfl
   | false =>
    try simp only [bs]
    all_goals kernel_rfl
 | false =>
  try simp only [bs]
  all_goals kernel_rfl
theorem y_spec_ShelfKinds_1 (x1 : T) (x2 : T) (x3 : T) (x4 : T) (x5 : T) {r : List T} (h : Yields (fun k => b_spec_ShelfKinds_1 (hl env k fi_spec_ShelfKinds) (cl env k) x1 x2 x3 x4 x5) r) : Yields (fun k => l_spec_ShelfKinds_1 (hl env k fi_spec_ShelfKinds) x1 x2 x3 x4 x5) r := Yields.head (fun H C => q_spec_ShelfKinds_1 H C x1 x2 x3 x4 x5) h
noncomputable def l_spec_l9Ok_0 (H : List Item → CS → R) (x1 : T) (x2 : T) (x3 : T) : R := H (hdAt fi_spec_l9Ok.body 0) ([(0, .val 54 x1), (1, .val 31 x2), (5, .val 3 x3)], [])
/- loop.example/heirlooms/spec.l9Ok -/
noncomputable abbrev b_spec_l9Ok (H : List Item → CS → R) (C : CallsE) (a0 a1 : T) : R :=
 l_spec_l9Ok_0 H a0 a1 (T.int (0 : Int))
theorem q_spec_l9Ok (H : List Item → CS → R) (C : CallsE) (a0 a1 : T) : enterE fi_spec_l9Ok env H C [a0, a1] = b_spec_l9Ok H C a0 a1 := by kernel_rfl
theorem y_spec_l9Ok (a0 a1 : T) {r : List T} (h : Yields (fun k => b_spec_l9Ok (hl env k fi_spec_l9Ok) (cl env k) a0 a1) r) : Yields (fun k => cl env k F_spec_l9Ok [a0, a1]) r := Yields.call (fi := fi_spec_l9Ok) rfl rfl (fun H C => q_spec_l9Ok H C a0 a1) h
noncomputable abbrev b_spec_l9Ok_0 (H : List Item → CS → R) (C : CallsE) (x1 : T) (x2 : T) (x3 : T) : R :=
 bif (decide (x3.i < (x2.es.length : Int))) then
 bif (decide (0 ≤ x3.i) && decide (x3.i.toNat < x2.es.length)) then
 obind (C F_spec_l6In [((x2.nth x3.i.toNat).fld 0), (T.int (0 : Int)), (T.int (3 : Int))]) fun r1 =>
 bif (!(rt r1 0).b) then
 some [(T.bool false)]
 else
 obind (C F_spec_l9Kind [x1, ((x2.nth x3.i.toNat).fld 1)]) fun r2 =>
 bif (!(rt r2 0).b) then
 some [(T.bool false)]
 else
 bif (decide (x3.i > (0 : Int))) then
 bif (decide (0 ≤ (IntKind.wrap .i64 (x3.i - (1 : Int)))) && decide ((IntKind.wrap .i64 (x3.i - (1 : Int))).toNat < x2.es.length)) then
 bif (decide (((x2.nth ((IntKind.wrap .i64 (x3.i - (1 : Int))).toNat)).fld 0).i > ((x2.nth x3.i.toNat).fld 0).i)) then
 some [(T.bool false)]
 else
 bif (((x2.nth ((IntKind.wrap .i64 (x3.i - (1 : Int))).toNat)).fld 0).i == ((x2.nth x3.i.toNat).fld 0).i) then
 bif (!(Op.bytesLess ((((x2.nth ((IntKind.wrap .i64 (x3.i - (1 : Int))).toNat)).fld 1).fld 0).s).toList ((((x2.nth x3.i.toNat).fld 1).fld 0).s).toList)) then
 some [(T.bool false)]
 else
 l_spec_l9Ok_0 H x1 x2 (T.int (IntKind.wrap .i64 (x3.i + (1 : Int))))
 else
 l_spec_l9Ok_0 H x1 x2 (T.int (IntKind.wrap .i64 (x3.i + (1 : Int))))
 else
 none
 else
 l_spec_l9Ok_0 H x1 x2 (T.int (IntKind.wrap .i64 (x3.i + (1 : Int))))
 else
 none
 else
 some [(T.bool (decide ((x2.es.length : Int) ≤ (36 : Int))))]
theorem e_spec_l9Ok_0 (H : List Item → CS → R) (C : CallsE) (x1 : T) (x2 : T) (x3 : T) : headE fi_spec_l9Ok env H C (hdAt fi_spec_l9Ok.body 0) ([(0, .val 54 x1), (1, .val 31 x2), (5, .val 3 x3)], []) =
 bif (decide (x3.i < (x2.es.length : Int))) then
 bif (decide (0 ≤ x3.i) && decide (x3.i.toNat < x2.es.length)) then
 obind (C F_spec_l6In [((x2.nth x3.i.toNat).fld 0), (T.int (0 : Int)), (T.int (3 : Int))]) fun r1 =>
 bif ((!((!(rt r1 0).b) == false)) || true) then
 bif ((!((!(rt r1 0).b) == false)) || true) then
 bif ((!((!(rt r1 0).b) == false)) || true) then
 bif ((!((!(rt r1 0).b) == false)) || ((((!(rt r1 0).b) == false) && (((!(rt r1 0).b) == false) && true)) && (decide (0 ≤ x3.i) && decide (x3.i.toNat < x2.es.length)))) then
 bif ((!((!(rt r1 0).b) == false)) || ((!(rt r1 0).b) == false)) then
 bif ((!((!(rt r1 0).b) == false)) || ((!(rt r1 0).b) == false)) then
 bif ((!((!(rt r1 0).b) == false)) || (((!(rt r1 0).b) == false) && (((!(rt r1 0).b) == false) && true))) then
 obind ((bif ((!(rt r1 0).b) == false) then C F_spec_l9Kind [x1, ((x2.nth x3.i.toNat).fld 1)] else some [])) fun r2 =>
 bif ((!((!(rt r1 0).b) == false)) || ((!(rt r1 0).b) == false)) then
 bif (bif (!(rt r1 0).b) then true else ((!(rt r1 0).b) == false)) then
 bif (bif (!(rt r1 0).b) then (T.bool true) else (T.bool (!(rt r2 0).b))).b then
 some [(T.bool false)]
 else
 bif ((!((decide (x3.i > (0 : Int))) == true)) || true) then
 bif ((!((decide (x3.i > (0 : Int))) == true)) || true) then
 bif ((!((decide (x3.i > (0 : Int))) == true)) || ((((decide (x3.i > (0 : Int))) == true) && true) && true)) then
 bif ((!((decide (x3.i > (0 : Int))) == true)) || ((((decide (x3.i > (0 : Int))) == true) && (((decide (x3.i > (0 : Int))) == true) && true)) && (decide (0 ≤ (IntKind.wrap .i64 (x3.i - (1 : Int)))) && decide ((IntKind.wrap .i64 (x3.i - (1 : Int))).toNat < x2.es.length)))) then
 bif ((!((decide (x3.i > (0 : Int))) == true)) || ((decide (x3.i > (0 : Int))) == true)) then
 bif ((!((decide (x3.i > (0 : Int))) == true)) || ((decide (x3.i > (0 : Int))) == true)) then
 bif ((!((decide (x3.i > (0 : Int))) == true)) || true) then
 bif ((!((decide (x3.i > (0 : Int))) == true)) || true) then
 bif ((!((decide (x3.i > (0 : Int))) == true)) || ((((decide (x3.i > (0 : Int))) == true) && (((decide (x3.i > (0 : Int))) == true) && true)) && (decide (0 ≤ x3.i) && decide (x3.i.toNat < x2.es.length)))) then
 bif ((!((decide (x3.i > (0 : Int))) == true)) || ((decide (x3.i > (0 : Int))) == true)) then
 bif ((!((decide (x3.i > (0 : Int))) == true)) || ((decide (x3.i > (0 : Int))) == true)) then
 bif ((!((decide (x3.i > (0 : Int))) == true)) || ((((decide (x3.i > (0 : Int))) == true) && ((decide (x3.i > (0 : Int))) == true)) && true)) then
 bif ((!((decide (x3.i > (0 : Int))) == true)) || ((decide (x3.i > (0 : Int))) == true)) then
 bif ((!(((decide (x3.i > (0 : Int))) == true) && ((decide (((x2.nth ((IntKind.wrap .i64 (x3.i - (1 : Int))).toNat)).fld 0).i > ((x2.nth x3.i.toNat).fld 0).i)) == false))) || true) then
 bif ((!(((decide (x3.i > (0 : Int))) == true) && ((decide (((x2.nth ((IntKind.wrap .i64 (x3.i - (1 : Int))).toNat)).fld 0).i > ((x2.nth x3.i.toNat).fld 0).i)) == false))) || true) then
 bif ((!(((decide (x3.i > (0 : Int))) == true) && ((decide (((x2.nth ((IntKind.wrap .i64 (x3.i - (1 : Int))).toNat)).fld 0).i > ((x2.nth x3.i.toNat).fld 0).i)) == false))) || (((((decide (x3.i > (0 : Int))) == true) && ((decide (((x2.nth ((IntKind.wrap .i64 (x3.i - (1 : Int))).toNat)).fld 0).i > ((x2.nth x3.i.toNat).fld 0).i)) == false)) && true) && true)) then
 bif ((!(((decide (x3.i > (0 : Int))) == true) && ((decide (((x2.nth ((IntKind.wrap .i64 (x3.i - (1 : Int))).toNat)).fld 0).i > ((x2.nth x3.i.toNat).fld 0).i)) == false))) || (((((decide (x3.i > (0 : Int))) == true) && ((decide (((x2.nth ((IntKind.wrap .i64 (x3.i - (1 : Int))).toNat)).fld 0).i > ((x2.nth x3.i.toNat).fld 0).i)) == false)) && ((((decide (x3.i > (0 : Int))) == true) && ((decide (((x2.nth ((IntKind.wrap .i64 (x3.i - (1 : Int))).toNat)).fld 0).i > ((x2.nth x3.i.toNat).fld 0).i)) == false)) && true)) && (decide (0 ≤ (IntKind.wrap .i64 (x3.i - (1 : Int)))) && decide ((IntKind.wrap .i64 (x3.i - (1 : Int))).toNat < x2.es.length)))) then
 bif ((!(((decide (x3.i > (0 : Int))) == true) && ((decide (((x2.nth ((IntKind.wrap .i64 (x3.i - (1 : Int))).toNat)).fld 0).i > ((x2.nth x3.i.toNat).fld 0).i)) == false))) || (((decide (x3.i > (0 : Int))) == true) && ((decide (((x2.nth ((IntKind.wrap .i64 (x3.i - (1 : Int))).toNat)).fld 0).i > ((x2.nth x3.i.toNat).fld 0).i)) == false))) then
 bif ((!(((decide (x3.i > (0 : Int))) == true) && ((decide (((x2.nth ((IntKind.wrap .i64 (x3.i - (1 : Int))).toNat)).fld 0).i > ((x2.nth x3.i.toNat).fld 0).i)) == false))) || (((decide (x3.i > (0 : Int))) == true) && ((decide (((x2.nth ((IntKind.wrap .i64 (x3.i - (1 : Int))).toNat)).fld 0).i > ((x2.nth x3.i.toNat).fld 0).i)) == false))) then
 bif ((!(((decide (x3.i > (0 : Int))) == true) && ((decide (((x2.nth ((IntKind.wrap .i64 (x3.i - (1 : Int))).toNat)).fld 0).i > ((x2.nth x3.i.toNat).fld 0).i)) == false))) || true) then
 bif ((!(((decide (x3.i > (0 : Int))) == true) && ((decide (((x2.nth ((IntKind.wrap .i64 (x3.i - (1 : Int))).toNat)).fld 0).i > ((x2.nth x3.i.toNat).fld 0).i)) == false))) || true) then
 bif ((!(((decide (x3.i > (0 : Int))) == true) && ((decide (((x2.nth ((IntKind.wrap .i64 (x3.i - (1 : Int))).toNat)).fld 0).i > ((x2.nth x3.i.toNat).fld 0).i)) == false))) || (((((decide (x3.i > (0 : Int))) == true) && ((decide (((x2.nth ((IntKind.wrap .i64 (x3.i - (1 : Int))).toNat)).fld 0).i > ((x2.nth x3.i.toNat).fld 0).i)) == false)) && ((((decide (x3.i > (0 : Int))) == true) && ((decide (((x2.nth ((IntKind.wrap .i64 (x3.i - (1 : Int))).toNat)).fld 0).i > ((x2.nth x3.i.toNat).fld 0).i)) == false)) && true)) && (decide (0 ≤ x3.i) && decide (x3.i.toNat < x2.es.length)))) then
 bif ((!(((decide (x3.i > (0 : Int))) == true) && ((decide (((x2.nth ((IntKind.wrap .i64 (x3.i - (1 : Int))).toNat)).fld 0).i > ((x2.nth x3.i.toNat).fld 0).i)) == false))) || (((decide (x3.i > (0 : Int))) == true) && ((decide (((x2.nth ((IntKind.wrap .i64 (x3.i - (1 : Int))).toNat)).fld 0).i > ((x2.nth x3.i.toNat).fld 0).i)) == false))) then
 bif ((!(((decide (x3.i > (0 : Int))) == true) && ((decide (((x2.nth ((IntKind.wrap .i64 (x3.i - (1 : Int))).toNat)).fld 0).i > ((x2.nth x3.i.toNat).fld 0).i)) == false))) || (((decide (x3.i > (0 : Int))) == true) && ((decide (((x2.nth ((IntKind.wrap .i64 (x3.i - (1 : Int))).toNat)).fld 0).i > ((x2.nth x3.i.toNat).fld 0).i)) == false))) then
 bif ((!(((decide (x3.i > (0 : Int))) == true) && ((decide (((x2.nth ((IntKind.wrap .i64 (x3.i - (1 : Int))).toNat)).fld 0).i > ((x2.nth x3.i.toNat).fld 0).i)) == false))) || (((((decide (x3.i > (0 : Int))) == true) && ((decide (((x2.nth ((IntKind.wrap .i64 (x3.i - (1 : Int))).toNat)).fld 0).i > ((x2.nth x3.i.toNat).fld 0).i)) == false)) && (((decide (x3.i > (0 : Int))) == true) && ((decide (((x2.nth ((IntKind.wrap .i64 (x3.i - (1 : Int))).toNat)).fld 0).i > ((x2.nth x3.i.toNat).fld 0).i)) == false))) && true)) then
 bif ((!(((decide (x3.i > (0 : Int))) == true) && ((decide (((x2.nth ((IntKind.wrap .i64 (x3.i - (1 : Int))).toNat)).fld 0).i > ((x2.nth x3.i.toNat).fld 0).i)) == false))) || (((decide (x3.i > (0 : Int))) == true) && ((decide (((x2.nth ((IntKind.wrap .i64 (x3.i - (1 : Int))).toNat)).fld 0).i > ((x2.nth x3.i.toNat).fld 0).i)) == false))) then
 bif ((!((((decide (x3.i > (0 : Int))) == true) && ((decide (((x2.nth ((IntKind.wrap .i64 (x3.i - (1 : Int))).toNat)).fld 0).i > ((x2.nth x3.i.toNat).fld 0).i)) == false)) && ((((x2.nth ((IntKind.wrap .i64 (x3.i - (1 : Int))).toNat)).fld 0).i == ((x2.nth x3.i.toNat).fld 0).i) == true))) || true) then
 bif ((!((((decide (x3.i > (0 : Int))) == true) && ((decide (((x2.nth ((IntKind.wrap .i64 (x3.i - (1 : Int))).toNat)).fld 0).i > ((x2.nth x3.i.toNat).fld 0).i)) == false)) && ((((x2.nth ((IntKind.wrap .i64 (x3.i - (1 : Int))).toNat)).fld 0).i == ((x2.nth x3.i.toNat).fld 0).i) == true))) || true) then
 bif ((!((((decide (x3.i > (0 : Int))) == true) && ((decide (((x2.nth ((IntKind.wrap .i64 (x3.i - (1 : Int))).toNat)).fld 0).i > ((x2.nth x3.i.toNat).fld 0).i)) == false)) && ((((x2.nth ((IntKind.wrap .i64 (x3.i - (1 : Int))).toNat)).fld 0).i == ((x2.nth x3.i.toNat).fld 0).i) == true))) || ((((((decide (x3.i > (0 : Int))) == true) && ((decide (((x2.nth ((IntKind.wrap .i64 (x3.i - (1 : Int))).toNat)).fld 0).i > ((x2.nth x3.i.toNat).fld 0).i)) == false)) && ((((x2.nth ((IntKind.wrap .i64 (x3.i - (1 : Int))).toNat)).fld 0).i == ((x2.nth x3.i.toNat).fld 0).i) == true)) && true) && true)) then
 bif ((!((((decide (x3.i > (0 : Int))) == true) && ((decide (((x2.nth ((IntKind.wrap .i64 (x3.i - (1 : Int))).toNat)).fld 0).i > ((x2.nth x3.i.toNat).fld 0).i)) == false)) && ((((x2.nth ((IntKind.wrap .i64 (x3.i - (1 : Int))).toNat)).fld 0).i == ((x2.nth x3.i.toNat).fld 0).i) == true))) || ((((((decide (x3.i > (0 : Int))) == true) && ((decide (((x2.nth ((IntKind.wrap .i64 (x3.i - (1 : Int))).toNat)).fld 0).i > ((x2.nth x3.i.toNat).fld 0).i)) == false)) && ((((x2.nth ((IntKind.wrap .i64 (x3.i - (1 : Int))).toNat)).fld 0).i == ((x2.nth x3.i.toNat).fld 0).i) == true)) && (((((decide (x3.i > (0 : Int))) == true) && ((decide (((x2.nth ((IntKind.wrap .i64 (x3.i - (1 : Int))).toNat)).fld 0).i > ((x2.nth x3.i.toNat).fld 0).i)) == false)) && ((((x2.nth ((IntKind.wrap .i64 (x3.i - (1 : Int))).toNat)).fld 0).i == ((x2.nth x3.i.toNat).fld 0).i) == true)) && true)) && (decide (0 ≤ (IntKind.wrap .i64 (x3.i - (1 : Int)))) && decide ((IntKind.wrap .i64 (x3.i - (1 : Int))).toNat < x2.es.length)))) then
 bif ((!((((decide (x3.i > (0 : Int))) == true) && ((decide (((x2.nth ((IntKind.wrap .i64 (x3.i - (1 : Int))).toNat)).fld 0).i > ((x2.nth x3.i.toNat).fld 0).i)) == false)) && ((((x2.nth ((IntKind.wrap .i64 (x3.i - (1 : Int))).toNat)).fld 0).i == ((x2.nth x3.i.toNat).fld 0).i) == true))) || ((((decide (x3.i > (0 : Int))) == true) && ((decide (((x2.nth ((IntKind.wrap .i64 (x3.i - (1 : Int))).toNat)).fld 0).i > ((x2.nth x3.i.toNat).fld 0).i)) == false)) && ((((x2.nth ((IntKind.wrap .i64 (x3.i - (1 : Int))).toNat)).fld 0).i == ((x2.nth x3.i.toNat).fld 0).i) == true))) then
 bif ((!((((decide (x3.i > (0 : Int))) == true) && ((decide (((x2.nth ((IntKind.wrap .i64 (x3.i - (1 : Int))).toNat)).fld 0).i > ((x2.nth x3.i.toNat).fld 0).i)) == false)) && ((((x2.nth ((IntKind.wrap .i64 (x3.i - (1 : Int))).toNat)).fld 0).i == ((x2.nth x3.i.toNat).fld 0).i) == true))) || ((((decide (x3.i > (0 : Int))) == true) && ((decide (((x2.nth ((IntKind.wrap .i64 (x3.i - (1 : Int))).toNat)).fld 0).i > ((x2.nth x3.i.toNat).fld 0).i)) == false)) && ((((x2.nth ((IntKind.wrap .i64 (x3.i - (1 : Int))).toNat)).fld 0).i == ((x2.nth x3.i.toNat).fld 0).i) == true))) then
 bif ((!((((decide (x3.i > (0 : Int))) == true) && ((decide (((x2.nth ((IntKind.wrap .i64 (x3.i - (1 : Int))).toNat)).fld 0).i > ((x2.nth x3.i.toNat).fld 0).i)) == false)) && ((((x2.nth ((IntKind.wrap .i64 (x3.i - (1 : Int))).toNat)).fld 0).i == ((x2.nth x3.i.toNat).fld 0).i) == true))) || ((((decide (x3.i > (0 : Int))) == true) && ((decide (((x2.nth ((IntKind.wrap .i64 (x3.i - (1 : Int))).toNat)).fld 0).i > ((x2.nth x3.i.toNat).fld 0).i)) == false)) && ((((x2.nth ((IntKind.wrap .i64 (x3.i - (1 : Int))).toNat)).fld 0).i == ((x2.nth x3.i.toNat).fld 0).i) == true))) then
 bif ((!((((decide (x3.i > (0 : Int))) == true) && ((decide (((x2.nth ((IntKind.wrap .i64 (x3.i - (1 : Int))).toNat)).fld 0).i > ((x2.nth x3.i.toNat).fld 0).i)) == false)) && ((((x2.nth ((IntKind.wrap .i64 (x3.i - (1 : Int))).toNat)).fld 0).i == ((x2.nth x3.i.toNat).fld 0).i) == true))) || true) then
 bif ((!((((decide (x3.i > (0 : Int))) == true) && ((decide (((x2.nth ((IntKind.wrap .i64 (x3.i - (1 : Int))).toNat)).fld 0).i > ((x2.nth x3.i.toNat).fld 0).i)) == false)) && ((((x2.nth ((IntKind.wrap .i64 (x3.i - (1 : Int))).toNat)).fld 0).i == ((x2.nth x3.i.toNat).fld 0).i) == true))) || true) then
 bif ((!((((decide (x3.i > (0 : Int))) == true) && ((decide (((x2.nth ((IntKind.wrap .i64 (x3.i - (1 : Int))).toNat)).fld 0).i > ((x2.nth x3.i.toNat).fld 0).i)) == false)) && ((((x2.nth ((IntKind.wrap .i64 (x3.i - (1 : Int))).toNat)).fld 0).i == ((x2.nth x3.i.toNat).fld 0).i) == true))) || ((((((decide (x3.i > (0 : Int))) == true) && ((decide (((x2.nth ((IntKind.wrap .i64 (x3.i - (1 : Int))).toNat)).fld 0).i > ((x2.nth x3.i.toNat).fld 0).i)) == false)) && ((((x2.nth ((IntKind.wrap .i64 (x3.i - (1 : Int))).toNat)).fld 0).i == ((x2.nth x3.i.toNat).fld 0).i) == true)) && (((((decide (x3.i > (0 : Int))) == true) && ((decide (((x2.nth ((IntKind.wrap .i64 (x3.i - (1 : Int))).toNat)).fld 0).i > ((x2.nth x3.i.toNat).fld 0).i)) == false)) && ((((x2.nth ((IntKind.wrap .i64 (x3.i - (1 : Int))).toNat)).fld 0).i == ((x2.nth x3.i.toNat).fld 0).i) == true)) && true)) && (decide (0 ≤ x3.i) && decide (x3.i.toNat < x2.es.length)))) then
 bif ((!((((decide (x3.i > (0 : Int))) == true) && ((decide (((x2.nth ((IntKind.wrap .i64 (x3.i - (1 : Int))).toNat)).fld 0).i > ((x2.nth x3.i.toNat).fld 0).i)) == false)) && ((((x2.nth ((IntKind.wrap .i64 (x3.i - (1 : Int))).toNat)).fld 0).i == ((x2.nth x3.i.toNat).fld 0).i) == true))) || ((((decide (x3.i > (0 : Int))) == true) && ((decide (((x2.nth ((IntKind.wrap .i64 (x3.i - (1 : Int))).toNat)).fld 0).i > ((x2.nth x3.i.toNat).fld 0).i)) == false)) && ((((x2.nth ((IntKind.wrap .i64 (x3.i - (1 : Int))).toNat)).fld 0).i == ((x2.nth x3.i.toNat).fld 0).i) == true))) then
 bif ((!((((decide (x3.i > (0 : Int))) == true) && ((decide (((x2.nth ((IntKind.wrap .i64 (x3.i - (1 : Int))).toNat)).fld 0).i > ((x2.nth x3.i.toNat).fld 0).i)) == false)) && ((((x2.nth ((IntKind.wrap .i64 (x3.i - (1 : Int))).toNat)).fld 0).i == ((x2.nth x3.i.toNat).fld 0).i) == true))) || ((((decide (x3.i > (0 : Int))) == true) && ((decide (((x2.nth ((IntKind.wrap .i64 (x3.i - (1 : Int))).toNat)).fld 0).i > ((x2.nth x3.i.toNat).fld 0).i)) == false)) && ((((x2.nth ((IntKind.wrap .i64 (x3.i - (1 : Int))).toNat)).fld 0).i == ((x2.nth x3.i.toNat).fld 0).i) == true))) then
 bif ((!((((decide (x3.i > (0 : Int))) == true) && ((decide (((x2.nth ((IntKind.wrap .i64 (x3.i - (1 : Int))).toNat)).fld 0).i > ((x2.nth x3.i.toNat).fld 0).i)) == false)) && ((((x2.nth ((IntKind.wrap .i64 (x3.i - (1 : Int))).toNat)).fld 0).i == ((x2.nth x3.i.toNat).fld 0).i) == true))) || ((((decide (x3.i > (0 : Int))) == true) && ((decide (((x2.nth ((IntKind.wrap .i64 (x3.i - (1 : Int))).toNat)).fld 0).i > ((x2.nth x3.i.toNat).fld 0).i)) == false)) && ((((x2.nth ((IntKind.wrap .i64 (x3.i - (1 : Int))).toNat)).fld 0).i == ((x2.nth x3.i.toNat).fld 0).i) == true))) then
 bif ((!((((decide (x3.i > (0 : Int))) == true) && ((decide (((x2.nth ((IntKind.wrap .i64 (x3.i - (1 : Int))).toNat)).fld 0).i > ((x2.nth x3.i.toNat).fld 0).i)) == false)) && ((((x2.nth ((IntKind.wrap .i64 (x3.i - (1 : Int))).toNat)).fld 0).i == ((x2.nth x3.i.toNat).fld 0).i) == true))) || ((((((decide (x3.i > (0 : Int))) == true) && ((decide (((x2.nth ((IntKind.wrap .i64 (x3.i - (1 : Int))).toNat)).fld 0).i > ((x2.nth x3.i.toNat).fld 0).i)) == false)) && ((((x2.nth ((IntKind.wrap .i64 (x3.i - (1 : Int))).toNat)).fld 0).i == ((x2.nth x3.i.toNat).fld 0).i) == true)) && ((((decide (x3.i > (0 : Int))) == true) && ((decide (((x2.nth ((IntKind.wrap .i64 (x3.i - (1 : Int))).toNat)).fld 0).i > ((x2.nth x3.i.toNat).fld 0).i)) == false)) && ((((x2.nth ((IntKind.wrap .i64 (x3.i - (1 : Int))).toNat)).fld 0).i == ((x2.nth x3.i.toNat).fld 0).i) == true))) && true)) then
 bif ((!(((decide (x3.i > (0 : Int))) == true) && ((decide (((x2.nth ((IntKind.wrap .i64 (x3.i - (1 : Int))).toNat)).fld 0).i > ((x2.nth x3.i.toNat).fld 0).i)) == false))) || ((((decide (x3.i > (0 : Int))) == true) && ((decide (((x2.nth ((IntKind.wrap .i64 (x3.i - (1 : Int))).toNat)).fld 0).i > ((x2.nth x3.i.toNat).fld 0).i)) == false)) && (bif (((x2.nth ((IntKind.wrap .i64 (x3.i - (1 : Int))).toNat)).fld 0).i == ((x2.nth x3.i.toNat).fld 0).i) then ((((decide (x3.i > (0 : Int))) == true) && ((decide (((x2.nth ((IntKind.wrap .i64 (x3.i - (1 : Int))).toNat)).fld 0).i > ((x2.nth x3.i.toNat).fld 0).i)) == false)) && ((((x2.nth ((IntKind.wrap .i64 (x3.i - (1 : Int))).toNat)).fld 0).i == ((x2.nth x3.i.toNat).fld 0).i) == true)) else true))) then
 bif ((!((decide (x3.i > (0 : Int))) == true)) || (((decide (x3.i > (0 : Int))) == true) && (bif (decide (((x2.nth ((IntKind.wrap .i64 (x3.i - (1 : Int))).toNat)).fld 0).i > ((x2.nth x3.i.toNat).fld 0).i)) then true else (((decide (x3.i > (0 : Int))) == true) && ((decide (((x2.nth ((IntKind.wrap .i64 (x3.i - (1 : Int))).toNat)).fld 0).i > ((x2.nth x3.i.toNat).fld 0).i)) == false))))) then
 bif (bif (decide (x3.i > (0 : Int))) then ((decide (x3.i > (0 : Int))) == true) else true) then
 bif (bif (decide (x3.i > (0 : Int))) then (bif (decide (((x2.nth ((IntKind.wrap .i64 (x3.i - (1 : Int))).toNat)).fld 0).i > ((x2.nth x3.i.toNat).fld 0).i)) then (T.bool true) else (bif (((x2.nth ((IntKind.wrap .i64 (x3.i - (1 : Int))).toNat)).fld 0).i == ((x2.nth x3.i.toNat).fld 0).i) then (T.bool (!(Op.bytesLess ((((x2.nth ((IntKind.wrap .i64 (x3.i - (1 : Int))).toNat)).fld 1).fld 0).s).toList ((((x2.nth x3.i.toNat).fld 1).fld 0).s).toList))) else (T.bool false))) else (T.bool false)).b then
 some [(T.bool false)]
 else
 l_spec_l9Ok_0 H x1 x2 (T.int (IntKind.wrap .i64 (x3.i + (1 : Int))))
 else
 none
 else
 none
 else
 none
 else
 none
 else
 none
 else
 none
 else
 none
 else
 none
 else
 none
 else
 none
 else
 none
 else
 none
 else
 none
 else
 none
 else
 none
 else
 none
 else
 none
 else
 none
 else
 none
 else
 none
 else
 none
 else
 none
 else
 none
 else
 none
 else
 none
 else
 none
 else
 none
 else
 none
 else
 none
 else
 none
 else
 none
 else
 none
 else
 none
 else
 none
 else
 none
 else
 none
 else
 none
 else
 none
 else
 none
 else
 none
 else
 none
 else
 none
 else
 none
 else
 none
 else
 none
 else
 none
 else
 none
 else
 none
 else
 none
 else
 none
 else
 none
 else
 none
 else
 none
 else
 some [(T.bool (decide ((x2.es.length : Int) ≤ (36 : Int))))] := by kernel_rfl
theorem q_spec_l9Ok_0 (H : List Item → CS → R) (C : CallsE) (x1 : T) (x2 : T) (x3 : T) : headE fi_spec_l9Ok env H C (hdAt fi_spec_l9Ok.body 0) ([(0, .val 54 x1), (1, .val 31 x2), (5, .val 3 x3)], []) = b_spec_l9Ok_0 H C x1 x2 x3 := by
 refine (e_spec_l9Ok_0 H C x1 x2 x3).trans ?_
 unfold b_spec_l9Ok_0
 all_goals cases hc : ((decide (x3.i < (x2.es.length : Int)))) with
 | true =>
  try simp only [bs]
  all_goals cases hc : ((decide (0 ≤ x3.i) && decide (x3.i.toNat < x2.es.length))) with
  | true =>
   try simp only [bs]
   all_goals refine obind_congr fun r1 => ?_
   all_goals try simp only [bs]
   all_goals cases hc : ((!(rt r1 0).b)) with
   | true =>
    try simp only [bs]
    all_goals kernel_rfl
   | false =>
    try simp only [bs]
    all_goals refine obind_congr fun r2 => ?_
    all_goals try simp only [bs]
    all_goals cases hc : ((!(rt r2 0).b)) with
    | true =>
     try simp only [bs]
     all_goals kernel_rfl
    | false =>
     try simp only [bs]
     all_goals cases hc : ((decide (x3.i > (0 : Int)))) with
     | true =>
      try simp only [bs]
      all_goals cases hc : ((decide (0 ≤ (IntKind.wrap .i64 (x3.i - (1 : Int)))) && decide ((IntKind.wrap .i64 (x3.i - (1 : Int))).toNat < x2.es.length))) with
      | true =>
       try simp only [bs]
       all_goals cases hc : ((decide (((x2.nth ((IntKind.wrap .i64 (x3.i - (1 : Int))).toNat)).fld 0).i > ((x2.nth x3.i.toNat).fld 0).i))) with
       | true =>
        try simp only [bs]
        all_goals cases hc : ((((x2.nth ((IntKind.wrap .i64 (x3.i - (1 : Int))).toNat)).fld 0).i == ((x2.nth x3.i.toNat).fld 0).i)) with
        | true =>
         try simp only [bs]
         all_goals kernel_rfl
        | false =>
         try simp only [bs]
         all_goals kernel_rfl
       | false =>
        try simp only [bs]
        all_goals cases hc : ((((x2.nth ((IntKind.wrap .i64 (x3.i - (1 : Int))).toNat)).fld 0).i == ((x2.nth x3.i.toNat).fld 0).i)) with
        | true =>
         try simp only [bs]
         all_goals cases hc : ((!(Op.bytesLess ((((x2.nth ((IntKind.wrap .i64 (x3.i - (1 : Int))).toNat)).fld 1).fld 0).s).toList ((((x2.nth x3.i.toNat).fld 1).fld 0).s).toList))) with
         | true =>
          try simp only [bs]
          all_goals kernel_rfl
         | false =>
          try simp only [bs]
          all_goals kernel_rfl
        | false =>
         try simp only [bs]
         all_goals kernel_rfl
      | false =>
       try simp only [bs]
       all_goals kernel_rfl
     | false =>
      try simp only [bs]
      all_goals cases hc : ((decide (((x2.nth ((IntKind.wrap .i64 (x3.i - (1 : Int))).toNat)).fld 0).i > ((x2.nth x3.i.toNat).fld 0).i))) with
      | true =>
       try simp only [bs]
       all_goals cases hc : ((((x2.nth ((IntKind.wrap .i64 (x3.i - (1 : Int))).toNat)).fld 0).i == ((x2.nth x3.i.toNat).fld 0).i)) with
       | true =>
        try simp only [bs]
        all_goals kernel_rfl
       | false =>
        try simp only [bs]
        all_goals kernel_rfl
      | false =>
       try simp only [bs]
       all_goals cases hc : ((((x2.nth ((IntKind.wrap .i64 (x3.i - (1 : Int))).toNat)).fld 0).i == ((x2.nth x3.i.toNat).fld 0).i)) with
       | true =>
        try simp only [bs]
        all_goals kernel_rfl
       | false =>
        try simp only [bs]
        all_goals kernel_rfl
  | false =>
   try simp only [bs]
   all_goals kernel_rfl
 | false =>
  try simp only [bs]
  all_goals kernel_rfl
theorem y_spec_l9Ok_0 (x1 : T) (x2 : T) (x3 : T) {r : List T} (h : Yields (fun k => b_spec_l9Ok_0 (hl env k fi_spec_l9Ok) (cl env k) x1 x2 x3) r) : Yields (fun k => l_spec_l9Ok_0 (hl env k fi_spec_l9Ok) x1 x2 x3) r := Yields.head (fun H C => q_spec_l9Ok_0 H C x1 x2 x3) h
noncomputable def l_spec_l10Plain_0 (H : List Item → CS → R) (x1 : T) (x2 : T) : R := H (hdAt fi_spec_l10Plain.body 0) ([(0, .val 56 x1), (3, .val 3 x2)], [])
/- loop.example/heirlooms/spec.l10Plain -/
noncomputable abbrev b_spec_l10Plain (H : List Item → CS → R) (C : CallsE) (a0 : T) : R :=
 l_spec_l10Plain_0 H a0 (T.int (0 : Int))
theorem q_spec_l10Plain (H : List Item → CS → R) (C : CallsE) (a0 : T) : enterE fi_spec_l10Plain env H C [a0] = b_spec_l10Plain H C a0 := by kernel_rfl
theorem y_spec_l10Plain (a0 : T) {r : List T} (h : Yields (fun k => b_spec_l10Plain (hl env k fi_spec_l10Plain) (cl env k) a0) r) : Yields (fun k => cl env k F_spec_l10Plain [a0]) r := Yields.call (fi := fi_spec_l10Plain) rfl rfl (fun H C => q_spec_l10Plain H C a0) h
noncomputable abbrev b_spec_l10Plain_0 (H : List Item → CS → R) (C : CallsE) (x1 : T) (x2 : T) : R :=
 bif (decide (x2.i < (x1.es.length : Int))) then
 bif (decide (0 ≤ x2.i) && decide (x2.i.toNat < x1.es.length)) then
 obind (C F_spec_l1Ref [(x1.nth x2.i.toNat)]) fun r1 =>
 bif (rt r1 0).b then
 some [(T.bool false)]
 else
 l_spec_l10Plain_0 H x1 (T.int (IntKind.wrap .i64 (x2.i + (1 : Int))))
 else
 none
 else
 some [(T.bool true)]
theorem q_spec_l10Plain_0 (H : List Item → CS → R) (C : CallsE) (x1 : T) (x2 : T) : headE fi_spec_l10Plain env H C (hdAt fi_spec_l10Plain.body 0) ([(0, .val 56 x1), (3, .val 3 x2)], []) = b_spec_l10Plain_0 H C x1 x2 := by kernel_rfl
theorem y_spec_l10Plain_0 (x1 : T) (x2 : T) {r : List T} (h : Yields (fun k => b_spec_l10Plain_0 (hl env k fi_spec_l10Plain) (cl env k) x1 x2) r) : Yields (fun k => l_spec_l10Plain_0 (hl env k fi_spec_l10Plain) x1 x2) r := Yields.head (fun H C => q_spec_l10Plain_0 H C x1 x2) h
noncomputable def l_spec_l2Ok_0 (H : List Item → CS → R) (x1 : T) (x2 : T) (x3 : T) (x4 : T) (x5 : T) : R := H (hdAt fi_spec_l2Ok.body 0) ([(0, .val 54 x1), (3, .pref 67 3 []), (5, .val 3 x2), (6, .val 3 x3), (8, .val 3 x4)], [(3, ⟨67, x5, .fz, true⟩)])
/- loop.example/heirlooms/spec.l2Ok -/
noncomputable abbrev b_spec_l2Ok (H : List Item → CS → R) (C : CallsE) (a0 a1 : T) : R :=
 bif (((a1.fld 0).s).toList == (⟨#[110]⟩ : ByteArray).toList) then
 obind (C F_spec_l2Plain [a1]) fun r1 =>
 bif (rt r1 0).b then
 obind (C F_spec_l6In [(a1.fld 1), (T.int (0 : Int)), (T.int (1000000 : Int))]) fun r2 =>
 some [(rt r2 0)]
 else
 some [(T.bool false)]
 else
 bif (((a1.fld 0).s).toList == (⟨#[98]⟩ : ByteArray).toList) then
 obind (C F_spec_l2Plain [a1]) fun r1 =>
 bif (rt r1 0).b then
 obind (C F_spec_l6In [(a1.fld 1), (T.int (0 : Int)), (T.int (1 : Int))]) fun r2 =>
 some [(rt r2 0)]
 else
 some [(T.bool false)]
 else
 bif (((a1.fld 0).s).toList == (⟨#[111]⟩ : ByteArray).toList) then
 obind (C F_spec_l2Plain [a1]) fun r1 =>
 bif (rt r1 0).b then
 obind (C F_spec_l6In [(a1.fld 1), (T.int (0 : Int)), (T.int (3 : Int))]) fun r2 =>
 some [(rt r2 0)]
 else
 some [(T.bool false)]
 else
 obind (C F_spec_l1Kind [(a1.fld 0)]) fun r1 =>
 bif (!(rt r1 2).b) then
 some [(T.bool false)]
 else
 obind (C F_spec_l1Has [a0, (rt r1 0), (rt r1 1)]) fun r2 =>
 bif (!(rt r2 0).b) then
 some [(T.bool false)]
 else
 bif ((a1.fld 1).i != (0 : Int)) then
 some [(T.bool false)]
 else
 bif (decide ((((a1.fld 3).es).length : Int) > (0 : Int))) then
 some [(T.bool false)]
 else
 bif (decide (0 ≤ (rt r1 0).i) && decide (((rt r1 0).i).toNat < a0.es.length)) then
 bif (decide (0 ≤ (rt r1 1).i) && decide (((rt r1 1).i).toNat < ((a0.nth (((rt r1 0).i).toNat)).es).length)) then
 bif ((((a1.fld 2).es).length : Int) != (((((a0.nth (((rt r1 0).i).toNat)).nth (((rt r1 1).i).toNat)).fld 1).es).length : Int)) then
 some [(T.bool false)]
 else
 l_spec_l2Ok_0 H a0 (rt r1 0) (rt r1 1) (T.int (0 : Int)) a1
 else
 none
 else
 none
theorem e_spec_l2Ok (H : List Item → CS → R) (C : CallsE) (a0 a1 : T) : enterE fi_spec_l2Ok env H C [a0, a1] =
 bif (((a1.fld 0).s).toList == (⟨#[110]⟩ : ByteArray).toList) then
 obind (C F_spec_l2Plain [a1]) fun r1 =>
 bif ((!((rt r1 0).b == true)) || true) then
 bif ((!((rt r1 0).b == true)) || ((rt r1 0).b == true)) then
 bif ((!((rt r1 0).b == true)) || (((rt r1 0).b == true) && true)) then
 obind ((bif ((rt r1 0).b == true) then C F_spec_l6In [(a1.fld 1), (T.int (0 : Int)), (T.int (1000000 : Int))] else some [])) fun r2 =>
 bif (bif (rt r1 0).b then ((rt r1 0).b == true) else true) then
 some [(bif (rt r1 0).b then (rt r2 0) else (T.bool false))]
 else
 none
 else
 none
 else
 none
 else
 none
 else
 bif (((a1.fld 0).s).toList == (⟨#[98]⟩ : ByteArray).toList) then
 obind (C F_spec_l2Plain [a1]) fun r3 =>
 bif ((!((rt r3 0).b == true)) || true) then
 bif ((!((rt r3 0).b == true)) || ((rt r3 0).b == true)) then
 bif ((!((rt r3 0).b == true)) || (((rt r3 0).b == true) && true)) then
 obind ((bif ((rt r3 0).b == true) then C F_spec_l6In [(a1.fld 1), (T.int (0 : Int)), (T.int (1 : Int))] else some [])) fun r4 =>
 bif (bif (rt r3 0).b then ((rt r3 0).b == true) else true) then
 some [(bif (rt r3 0).b then (rt r4 0) else (T.bool false))]
 else
 none
 else
 none
 else
 none
 else
 none
 else
 bif (((a1.fld 0).s).toList == (⟨#[111]⟩ : ByteArray).toList) then
 obind (C F_spec_l2Plain [a1]) fun r5 =>
 bif ((!((rt r5 0).b == true)) || true) then
 bif ((!((rt r5 0).b == true)) || ((rt r5 0).b == true)) then
 bif ((!((rt r5 0).b == true)) || (((rt r5 0).b == true) && true)) then
 obind ((bif ((rt r5 0).b == true) then C F_spec_l6In [(a1.fld 1), (T.int (0 : Int)), (T.int (3 : Int))] else some [])) fun r6 =>
 bif (bif (rt r5 0).b then ((rt r5 0).b == true) else true) then
 some [(bif (rt r5 0).b then (rt r6 0) else (T.bool false))]
 else
 none
 else
 none
 else
 none
 else
 none
 else
 obind (C F_spec_l1Kind [(a1.fld 0)]) fun r7 =>
 bif ((!((!(rt r7 2).b) == false)) || true) then
 bif ((!((!(rt r7 2).b) == false)) || true) then
 bif ((!((!(rt r7 2).b) == false)) || true) then
 bif ((!((!(rt r7 2).b) == false)) || (((!(rt r7 2).b) == false) && (((!(rt r7 2).b) == false) && (((!(rt r7 2).b) == false) && true)))) then
 obind ((bif ((!(rt r7 2).b) == false) then C F_spec_l1Has [a0, (rt r7 0), (rt r7 1)] else some [])) fun r8 =>
 bif ((!((!(rt r7 2).b) == false)) || ((!(rt r7 2).b) == false)) then
 bif (bif (!(rt r7 2).b) then true else ((!(rt r7 2).b) == false)) then
 bif ((!((bif (!(rt r7 2).b) then (T.bool true) else (T.bool (!(rt r8 0).b))).b == false)) || true) then
 bif ((!((bif (!(rt r7 2).b) then (T.bool true) else (T.bool (!(rt r8 0).b))).b == false)) || ((bif (!(rt r7 2).b) then (T.bool true) else (T.bool (!(rt r8 0).b))).b == false)) then
 bif ((!((bif (!(rt r7 2).b) then (T.bool true) else (T.bool (!(rt r8 0).b))).b == false)) || ((((bif (!(rt r7 2).b) then (T.bool true) else (T.bool (!(rt r8 0).b))).b == false) && true) && true)) then
 bif (bif (bif (!(rt r7 2).b) then (T.bool true) else (T.bool (!(rt r8 0).b))).b then true else ((bif (!(rt r7 2).b) then (T.bool true) else (T.bool (!(rt r8 0).b))).b == false)) then
 bif ((!((bif (bif (!(rt r7 2).b) then (T.bool true) else (T.bool (!(rt r8 0).b))).b then (T.bool true) else (T.bool ((a1.fld 1).i != (0 : Int)))).b == false)) || true) then
 bif ((!((bif (bif (!(rt r7 2).b) then (T.bool true) else (T.bool (!(rt r8 0).b))).b then (T.bool true) else (T.bool ((a1.fld 1).i != (0 : Int)))).b == false)) || ((bif (bif (!(rt r7 2).b) then (T.bool true) else (T.bool (!(rt r8 0).b))).b then (T.bool true) else (T.bool ((a1.fld 1).i != (0 : Int)))).b == false)) then
 bif ((!((bif (bif (!(rt r7 2).b) then (T.bool true) else (T.bool (!(rt r8 0).b))).b then (T.bool true) else (T.bool ((a1.fld 1).i != (0 : Int)))).b == false)) || ((bif (bif (!(rt r7 2).b) then (T.bool true) else (T.bool (!(rt r8 0).b))).b then (T.bool true) else (T.bool ((a1.fld 1).i != (0 : Int)))).b == false)) then
 bif ((!((bif (bif (!(rt r7 2).b) then (T.bool true) else (T.bool (!(rt r8 0).b))).b then (T.bool true) else (T.bool ((a1.fld 1).i != (0 : Int)))).b == false)) || ((((bif (bif (!(rt r7 2).b) then (T.bool true) else (T.bool (!(rt r8 0).b))).b then (T.bool true) else (T.bool ((a1.fld 1).i != (0 : Int)))).b == false) && true) && true)) then
 bif (bif (bif (bif (!(rt r7 2).b) then (T.bool true) else (T.bool (!(rt r8 0).b))).b then (T.bool true) else (T.bool ((a1.fld 1).i != (0 : Int)))).b then true else ((bif (bif (!(rt r7 2).b) then (T.bool true) else (T.bool (!(rt r8 0).b))).b then (T.bool true) else (T.bool ((a1.fld 1).i != (0 : Int)))).b == false)) then
 bif ((!((bif (bif (bif (!(rt r7 2).b) then (T.bool true) else (T.bool (!(rt r8 0).b))).b then (T.bool true) else (T.bool ((a1.fld 1).i != (0 : Int)))).b then (T.bool true) else (T.bool (decide ((((a1.fld 3).es).length : Int) > (0 : Int))))).b == false)) || true) then
 bif ((!((bif (bif (bif (!(rt r7 2).b) then (T.bool true) else (T.bool (!(rt r8 0).b))).b then (T.bool true) else (T.bool ((a1.fld 1).i != (0 : Int)))).b then (T.bool true) else (T.bool (decide ((((a1.fld 3).es).length : Int) > (0 : Int))))).b == false)) || ((bif (bif (bif (!(rt r7 2).b) then (T.bool true) else (T.bool (!(rt r8 0).b))).b then (T.bool true) else (T.bool ((a1.fld 1).i != (0 : Int)))).b then (T.bool true) else (T.bool (decide ((((a1.fld 3).es).length : Int) > (0 : Int))))).b == false)) then
 bif ((!((bif (bif (bif (!(rt r7 2).b) then (T.bool true) else (T.bool (!(rt r8 0).b))).b then (T.bool true) else (T.bool ((a1.fld 1).i != (0 : Int)))).b then (T.bool true) else (T.bool (decide ((((a1.fld 3).es).length : Int) > (0 : Int))))).b == false)) || ((bif (bif (bif (!(rt r7 2).b) then (T.bool true) else (T.bool (!(rt r8 0).b))).b then (T.bool true) else (T.bool ((a1.fld 1).i != (0 : Int)))).b then (T.bool true) else (T.bool (decide ((((a1.fld 3).es).length : Int) > (0 : Int))))).b == false)) then
 bif ((!((bif (bif (bif (!(rt r7 2).b) then (T.bool true) else (T.bool (!(rt r8 0).b))).b then (T.bool true) else (T.bool ((a1.fld 1).i != (0 : Int)))).b then (T.bool true) else (T.bool (decide ((((a1.fld 3).es).length : Int) > (0 : Int))))).b == false)) || true) then
 bif ((!((bif (bif (bif (!(rt r7 2).b) then (T.bool true) else (T.bool (!(rt r8 0).b))).b then (T.bool true) else (T.bool ((a1.fld 1).i != (0 : Int)))).b then (T.bool true) else (T.bool (decide ((((a1.fld 3).es).length : Int) > (0 : Int))))).b == false)) || true) then
 bif ((!((bif (bif (bif (!(rt r7 2).b) then (T.bool true) else (T.bool (!(rt r8 0).b))).b then (T.bool true) else (T.bool ((a1.fld 1).i != (0 : Int)))).b then (T.bool true) else (T.bool (decide ((((a1.fld 3).es).length : Int) > (0 : Int))))).b == false)) || ((((bif (bif (bif (!(rt r7 2).b) then (T.bool true) else (T.bool (!(rt r8 0).b))).b then (T.bool true) else (T.bool ((a1.fld 1).i != (0 : Int)))).b then (T.bool true) else (T.bool (decide ((((a1.fld 3).es).length : Int) > (0 : Int))))).b == false) && (((bif (bif (bif (!(rt r7 2).b) then (T.bool true) else (T.bool (!(rt r8 0).b))).b then (T.bool true) else (T.bool ((a1.fld 1).i != (0 : Int)))).b then (T.bool true) else (T.bool (decide ((((a1.fld 3).es).length : Int) > (0 : Int))))).b == false) && true)) && (decide (0 ≤ (rt r7 0).i) && decide (((rt r7 0).i).toNat < a0.es.length)))) then
 bif ((!((bif (bif (bif (!(rt r7 2).b) then (T.bool true) else (T.bool (!(rt r8 0).b))).b then (T.bool true) else (T.bool ((a1.fld 1).i != (0 : Int)))).b then (T.bool true) else (T.bool (decide ((((a1.fld 3).es).length : Int) > (0 : Int))))).b == false)) || ((bif (bif (bif (!(rt r7 2).b) then (T.bool true) else (T.bool (!(rt r8 0).b))).b then (T.bool true) else (T.bool ((a1.fld 1).i != (0 : Int)))).b then (T.bool true) else (T.bool (decide ((((a1.fld 3).es).length : Int) > (0 : Int))))).b == false)) then
 bif ((!((bif (bif (bif (!(rt r7 2).b) then (T.bool true) else (T.bool (!(rt r8 0).b))).b then (T.bool true) else (T.bool ((a1.fld 1).i != (0 : Int)))).b then (T.bool true) else (T.bool (decide ((((a1.fld 3).es).length : Int) > (0 : Int))))).b == false)) || true) then
 bif ((!((bif (bif (bif (!(rt r7 2).b) then (T.bool true) else (T.bool (!(rt r8 0).b))).b then (T.bool true) else (T.bool ((a1.fld 1).i != (0 : Int)))).b then (T.bool true) else (T.bool (decide ((((a1.fld 3).es).length : Int) > (0 : Int))))).b == false)) || ((((bif (bif (bif (!(rt r7 2).b) then (T.bool true) else (T.bool (!(rt r8 0).b))).b then (T.bool true) else (T.bool ((a1.fld 1).i != (0 : Int)))).b then (T.bool true) else (T.bool (decide ((((a1.fld 3).es).length : Int) > (0 : Int))))).b == false) && (((bif (bif (bif (!(rt r7 2).b) then (T.bool true) else (T.bool (!(rt r8 0).b))).b then (T.bool true) else (T.bool ((a1.fld 1).i != (0 : Int)))).b then (T.bool true) else (T.bool (decide ((((a1.fld 3).es).length : Int) > (0 : Int))))).b == false) && true)) && (decide (0 ≤ (rt r7 1).i) && decide (((rt r7 1).i).toNat < ((a0.nth (((rt r7 0).i).toNat)).es).length)))) then
 bif ((!((bif (bif (bif (!(rt r7 2).b) then (T.bool true) else (T.bool (!(rt r8 0).b))).b then (T.bool true) else (T.bool ((a1.fld 1).i != (0 : Int)))).b then (T.bool true) else (T.bool (decide ((((a1.fld 3).es).length : Int) > (0 : Int))))).b == false)) || ((bif (bif (bif (!(rt r7 2).b) then (T.bool true) else (T.bool (!(rt r8 0).b))).b then (T.bool true) else (T.bool ((a1.fld 1).i != (0 : Int)))).b then (T.bool true) else (T.bool (decide ((((a1.fld 3).es).length : Int) > (0 : Int))))).b == false)) then
 bif ((!((bif (bif (bif (!(rt r7 2).b) then (T.bool true) else (T.bool (!(rt r8 0).b))).b then (T.bool true) else (T.bool ((a1.fld 1).i != (0 : Int)))).b then (T.bool true) else (T.bool (decide ((((a1.fld 3).es).length : Int) > (0 : Int))))).b == false)) || ((bif (bif (bif (!(rt r7 2).b) then (T.bool true) else (T.bool (!(rt r8 0).b))).b then (T.bool true) else (T.bool ((a1.fld 1).i != (0 : Int)))).b then (T.bool true) else (T.bool (decide ((((a1.fld 3).es).length : Int) > (0 : Int))))).b == false)) then
 bif ((!((bif (bif (bif (!(rt r7 2).b) then (T.bool true) else (T.bool (!(rt r8 0).b))).b then (T.bool true) else (T.bool ((a1.fld 1).i != (0 : Int)))).b then (T.bool true) else (T.bool (decide ((((a1.fld 3).es).length : Int) > (0 : Int))))).b == false)) || ((bif (bif (bif (!(rt r7 2).b) then (T.bool true) else (T.bool (!(rt r8 0).b))).b then (T.bool true) else (T.bool ((a1.fld 1).i != (0 : Int)))).b then (T.bool true) else (T.bool (decide ((((a1.fld 3).es).length : Int) > (0 : Int))))).b == false)) then
 bif ((!((bif (bif (bif (!(rt r7 2).b) then (T.bool true) else (T.bool (!(rt r8 0).b))).b then (T.bool true) else (T.bool ((a1.fld 1).i != (0 : Int)))).b then (T.bool true) else (T.bool (decide ((((a1.fld 3).es).length : Int) > (0 : Int))))).b == false)) || ((((bif (bif (bif (!(rt r7 2).b) then (T.bool true) else (T.bool (!(rt r8 0).b))).b then (T.bool true) else (T.bool ((a1.fld 1).i != (0 : Int)))).b then (T.bool true) else (T.bool (decide ((((a1.fld 3).es).length : Int) > (0 : Int))))).b == false) && ((bif (bif (bif (!(rt r7 2).b) then (T.bool true) else (T.bool (!(rt r8 0).b))).b then (T.bool true) else (T.bool ((a1.fld 1).i != (0 : Int)))).b then (T.bool true) else (T.bool (decide ((((a1.fld 3).es).length : Int) > (0 : Int))))).b == false)) && true)) then
 bif (bif (bif (bif (bif (!(rt r7 2).b) then (T.bool true) else (T.bool (!(rt r8 0).b))).b then (T.bool true) else (T.bool ((a1.fld 1).i != (0 : Int)))).b then (T.bool true) else (T.bool (decide ((((a1.fld 3).es).length : Int) > (0 : Int))))).b then true else ((bif (bif (bif (!(rt r7 2).b) then (T.bool true) else (T.bool (!(rt r8 0).b))).b then (T.bool true) else (T.bool ((a1.fld 1).i != (0 : Int)))).b then (T.bool true) else (T.bool (decide ((((a1.fld 3).es).length : Int) > (0 : Int))))).b == false)) then
 bif (bif (bif (bif (bif (!(rt r7 2).b) then (T.bool true) else (T.bool (!(rt r8 0).b))).b then (T.bool true) else (T.bool ((a1.fld 1).i != (0 : Int)))).b then (T.bool true) else (T.bool (decide ((((a1.fld 3).es).length : Int) > (0 : Int))))).b then (T.bool true) else (T.bool ((((a1.fld 2).es).length : Int) != (((((a0.nth (((rt r7 0).i).toNat)).nth (((rt r7 1).i).toNat)).fld 1).es).length : Int)))).b then
 some [(T.bool false)]
 else
 l_spec_l2Ok_0 H a0 (rt r7 0) (rt r7 1) (T.int (0 : Int)) a1
 else
 none
 else
 none
 else
 none
 else
 none
 else
 none
 else
 none
 else
 none
 else
 none
 else
 none
 else
 none
 else
 none
 else
 none
 else
 none
 else
 none
 else
 none
 else
 none
 else
 none
 else
 none
 else
 none
 else
 none
 else
 none
 else
 none
 else
 none
 else
 none
 else
 none
 else
 none
 else
 none
 else
 none
 else
 none := by kernel_rfl
theorem q_spec_l2Ok (H : List Item → CS → R) (C : CallsE) (a0 a1 : T) : enterE fi_spec_l2Ok env H C [a0, a1] = b_spec_l2Ok H C a0 a1 := by
 refine (e_spec_l2Ok H C a0 a1).trans ?_
 unfold b_spec_l2Ok
 all_goals cases hc : ((((a1.fld 0).s).toList == (⟨#[110]⟩ : ByteArray).toList)) with
 | true =>
  try simp only [bs]
  all_goals refine obind_congr fun r1 => ?_
  all_goals try simp only [bs]
  all_goals cases hc : ((rt r1 0).b) with
  | true =>
   try simp only [bs]
   all_goals refine obind_congr fun r2 => ?_
   all_goals try simp only [bs]
   all_goals kernel_rfl
  | false =>
   try simp only [bs]
   all_goals kernel_rfl
 | false =>
  try simp only [bs]
  all_goals cases hc : ((((a1.fld 0).s).toList == (⟨#[98]⟩ : ByteArray).toList)) with
  | true =>
   try simp only [bs]
   all_goals refine obind_congr fun r1 => ?_
   all_goals try simp only [bs]
   all_goals cases hc : ((rt r1 0).b) with
   | true =>
    try simp only [bs]
    all_goals refine obind_congr fun r2 => ?_
    all_goals try simp only [bs]
    all_goals kernel_rfl
   | false =>
    try simp only [bs]
    all_goals kernel_rfl
  | false =>
   try simp only [bs]
   all_goals cases hc : ((((a1.fld 0).s).toList == (⟨#[111]⟩ : ByteArray).toList)) with
   | true =>
    try simp only [bs]
    all_goals refine obind_congr fun r1 => ?_
    all_goals try simp only [bs]
    all_goals cases hc : ((rt r1 0).b) with
    | true =>
     try simp only [bs]
     all_goals refine obind_congr fun r2 => ?_
     all_goals try simp only [bs]
     all_goals kernel_rfl
    | false =>
     try simp only [bs]
     all_goals kernel_rfl
   | false =>
    try simp only [bs]
    all_goals refine obind_congr fun r1 => ?_
    all_goals try simp only [bs]
    all_goals cases hc : ((!(rt r1 2).b)) with
    | true =>
     try simp only [bs]
     all_goals kernel_rfl
    | false =>
     try simp only [bs]
     all_goals refine obind_congr fun r2 => ?_
     all_goals try simp only [bs]
     all_goals cases hc : ((!(rt r2 0).b)) with
     | true =>
      try simp only [bs]
      all_goals kernel_rfl
     | false =>
      try simp only [bs]
      all_goals cases hc : (((a1.fld 1).i != (0 : Int))) with
      | true =>
       try simp only [bs]
       all_goals kernel_rfl
      | false =>
       try simp only [bs]
       all_goals cases hc : ((decide ((((a1.fld 3).es).length : Int) > (0 : Int)))) with
       | true =>
        try simp only [bs]
        all_goals kernel_rfl
       | false =>
        try simp only [bs]
        all_goals cases hc : ((decide (0 ≤ (rt r1 0).i) && decide (((rt r1 0).i).toNat < a0.es.length))) with
        | true =>
         try simp only [bs]
         all_goals cases hc : ((decide (0 ≤ (rt r1 1).i) && decide (((rt r1 1).i).toNat < ((a0.nth (((rt r1 0).i).toNat)).es).length))) with
         | true =>
          try simp only [bs]
          all_goals cases hc : (((((a1.fld 2).es).length : Int) != (((((a0.nth (((rt r1 0).i).toNat)).nth (((rt r1 1).i).toNat)).fld 1).es).length : Int))) with
          | true =>
           try simp only [bs]
           all_goals kernel_rfl
          | false =>
           try simp only [bs]
           all_goals kernel_rfl
         | false =>
          try simp only [bs]
          all_goals kernel_rfl
        | false =>
         try simp only [bs]
         all_goals kernel_rfl
theorem y_spec_l2Ok (a0 a1 : T) {r : List T} (h : Yields (fun k => b_spec_l2Ok (hl env k fi_spec_l2Ok) (cl env k) a0 a1) r) : Yields (fun k => cl env k F_spec_l2Ok [a0, a1]) r := Yields.call (fi := fi_spec_l2Ok) rfl rfl (fun H C => q_spec_l2Ok H C a0 a1) h
noncomputable abbrev b_spec_l2Ok_0 (H : List Item → CS → R) (C : CallsE) (x1 : T) (x2 : T) (x3 : T) (x4 : T) (x5 : T) : R :=
 bif (decide (x4.i < (((x5.fld 2).es).length : Int))) then
 bif (decide (0 ≤ x4.i) && decide (x4.i.toNat < ((x5.fld 2).es).length)) then
 bif (decide (0 ≤ x2.i) && decide (x2.i.toNat < x1.es.length)) then
 bif (decide (0 ≤ x3.i) && decide (x3.i.toNat < ((x1.nth x2.i.toNat).es).length)) then
 bif (decide (0 ≤ x4.i) && decide (x4.i.toNat < ((((x1.nth x2.i.toNat).nth x3.i.toNat).fld 1).es).length)) then
 bif (!(((((x5.fld 2).nth x4.i.toNat).fld 0).s).toList == (((((x1.nth x2.i.toNat).nth x3.i.toNat).fld 1).nth x4.i.toNat).s).toList)) then
 some [(T.bool false)]
 else
 obind (C F_spec_l2Ok [x1, ((x5.fld 2).nth x4.i.toNat)]) fun r1 =>
 bif (!(rt r1 0).b) then
 some [(T.bool false)]
 else
 l_spec_l2Ok_0 H x1 x2 x3 (T.int (IntKind.wrap .i64 (x4.i + (1 : Int)))) x5
 else
 none
 else
 none
 else
 none
 else
 none
 else
 some [(T.bool true)]
theorem e_spec_l2Ok_0 (H : List Item → CS → R) (C : CallsE) (x1 : T) (x2 : T) (x3 : T) (x4 : T) (x5 : T) : headE fi_spec_l2Ok env H C (hdAt fi_spec_l2Ok.body 0) ([(0, .val 54 x1), (3, .pref 67 3 []), (5, .val 3 x2), (6, .val 3 x3), (8, .val 3 x4)], [(3, ⟨67, x5, .fz, true⟩)]) =
 bif (decide (x4.i < (((x5.fld 2).es).length : Int))) then
 bif (decide (0 ≤ x4.i) && decide (x4.i.toNat < ((x5.fld 2).es).length)) then
 bif (decide (0 ≤ x2.i) && decide (x2.i.toNat < x1.es.length)) then
 bif (decide (0 ≤ x3.i) && decide (x3.i.toNat < ((x1.nth x2.i.toNat).es).length)) then
 bif (decide (0 ≤ x4.i) && decide (x4.i.toNat < ((((x1.nth x2.i.toNat).nth x3.i.toNat).fld 1).es).length)) then
 bif ((!((!(((((x5.fld 2).nth x4.i.toNat).fld 0).s).toList == (((((x1.nth x2.i.toNat).nth x3.i.toNat).fld 1).nth x4.i.toNat).s).toList)) == false)) || true) then
 bif ((!((!(((((x5.fld 2).nth x4.i.toNat).fld 0).s).toList == (((((x1.nth x2.i.toNat).nth x3.i.toNat).fld 1).nth x4.i.toNat).s).toList)) == false)) || true) then
 bif ((!((!(((((x5.fld 2).nth x4.i.toNat).fld 0).s).toList == (((((x1.nth x2.i.toNat).nth x3.i.toNat).fld 1).nth x4.i.toNat).s).toList)) == false)) || ((!(((((x5.fld 2).nth x4.i.toNat).fld 0).s).toList == (((((x1.nth x2.i.toNat).nth x3.i.toNat).fld 1).nth x4.i.toNat).s).toList)) == false)) then
 bif ((!((!(((((x5.fld 2).nth x4.i.toNat).fld 0).s).toList == (((((x1.nth x2.i.toNat).nth x3.i.toNat).fld 1).nth x4.i.toNat).s).toList)) == false)) || true) then
 bif ((!((!(((((x5.fld 2).nth x4.i.toNat).fld 0).s).toList == (((((x1.nth x2.i.toNat).nth x3.i.toNat).fld 1).nth x4.i.toNat).s).toList)) == false)) || ((((!(((((x5.fld 2).nth x4.i.toNat).fld 0).s).toList == (((((x1.nth x2.i.toNat).nth x3.i.toNat).fld 1).nth x4.i.toNat).s).toList)) == false) && (((!(((((x5.fld 2).nth x4.i.toNat).fld 0).s).toList == (((((x1.nth x2.i.toNat).nth x3.i.toNat).fld 1).nth x4.i.toNat).s).toList)) == false) && true)) && (decide (0 ≤ x4.i) && decide (x4.i.toNat < ((x5.fld 2).es).length)))) then
 bif ((!((!(((((x5.fld 2).nth x4.i.toNat).fld 0).s).toList == (((((x1.nth x2.i.toNat).nth x3.i.toNat).fld 1).nth x4.i.toNat).s).toList)) == false)) || ((!(((((x5.fld 2).nth x4.i.toNat).fld 0).s).toList == (((((x1.nth x2.i.toNat).nth x3.i.toNat).fld 1).nth x4.i.toNat).s).toList)) == false)) then
 bif ((!((!(((((x5.fld 2).nth x4.i.toNat).fld 0).s).toList == (((((x1.nth x2.i.toNat).nth x3.i.toNat).fld 1).nth x4.i.toNat).s).toList)) == false)) || (((!(((((x5.fld 2).nth x4.i.toNat).fld 0).s).toList == (((((x1.nth x2.i.toNat).nth x3.i.toNat).fld 1).nth x4.i.toNat).s).toList)) == false) && (((!(((((x5.fld 2).nth x4.i.toNat).fld 0).s).toList == (((((x1.nth x2.i.toNat).nth x3.i.toNat).fld 1).nth x4.i.toNat).s).toList)) == false) && true))) then
 obind ((bif ((!(((((x5.fld 2).nth x4.i.toNat).fld 0).s).toList == (((((x1.nth x2.i.toNat).nth x3.i.toNat).fld 1).nth x4.i.toNat).s).toList)) == false) then C F_spec_l2Ok [x1, ((x5.fld 2).nth x4.i.toNat)] else some [])) fun r1 =>
 bif ((!((!(((((x5.fld 2).nth x4.i.toNat).fld 0).s).toList == (((((x1.nth x2.i.toNat).nth x3.i.toNat).fld 1).nth x4.i.toNat).s).toList)) == false)) || ((!(((((x5.fld 2).nth x4.i.toNat).fld 0).s).toList == (((((x1.nth x2.i.toNat).nth x3.i.toNat).fld 1).nth x4.i.toNat).s).toList)) == false)) then
 bif (bif (!(((((x5.fld 2).nth x4.i.toNat).fld 0).s).toList == (((((x1.nth x2.i.toNat).nth x3.i.toNat).fld 1).nth x4.i.toNat).s).toList)) then true else ((!(((((x5.fld 2).nth x4.i.toNat).fld 0).s).toList == (((((x1.nth x2.i.toNat).nth x3.i.toNat).fld 1).nth x4.i.toNat).s).toList)) == false)) then
 bif (bif (!(((((x5.fld 2).nth x4.i.toNat).fld 0).s).toList == (((((x1.nth x2.i.toNat).nth x3.i.toNat).fld 1).nth x4.i.toNat).s).toList)) then (T.bool true) else (T.bool (!(rt r1 0).b))).b then
 some [(T.bool false)]
 else
 l_spec_l2Ok_0 H x1 x2 x3 (T.int (IntKind.wrap .i64 (x4.i + (1 : Int)))) x5
 else
 none
 else
 none
 else
 none
 else
 none
 else
 none
 else
 none
 else
 none
 else
 none
 else
 none
 else
 none
 else
 none
 else
 none
 else
 none
 else
 some [(T.bool true)] := by kernel_rfl
theorem q_spec_l2Ok_0 (H : List Item → CS → R) (C : CallsE) (x1 : T) (x2 : T) (x3 : T) (x4 : T) (x5 : T) : headE fi_spec_l2Ok env H C (hdAt fi_spec_l2Ok.body 0) ([(0, .val 54 x1), (3, .pref 67 3 []), (5, .val 3 x2), (6, .val 3 x3), (8, .val 3 x4)], [(3, ⟨67, x5, .fz, true⟩)]) = b_spec_l2Ok_0 H C x1 x2 x3 x4 x5 := by
 refine (e_spec_l2Ok_0 H C x1 x2 x3 x4 x5).trans ?_
 unfold b_spec_l2Ok_0
 all_goals cases hc : ((decide (x4.i < (((x5.fld 2).es).length : Int)))) with
 | true =>
  try simp only [bs]
  all_goals cases hc : ((decide (0 ≤ x4.i) && decide (x4.i.toNat < ((x5.fld 2).es).length))) with
  | true =>
   try simp only [bs]
   all_goals cases hc : ((decide (0 ≤ x2.i) && decide (x2.i.toNat < x1.es.length))) with
   | true =>
    try simp only [bs]
    all_goals cases hc : ((decide (0 ≤ x3.i) && decide (x3.i.toNat < ((x1.nth x2.i.toNat).es).length))) with
    | true =>
     try simp only [bs]
     all_goals cases hc : ((decide (0 ≤ x4.i) && decide (x4.i.toNat < ((((x1.nth x2.i.toNat).nth x3.i.toNat).fld 1).es).length))) with
     | true =>
      try simp only [bs]
      all_goals cases hc : ((!(((((x5.fld 2).nth x4.i.toNat).fld 0).s).toList == (((((x1.nth x2.i.toNat).nth x3.i.toNat).fld 1).nth x4.i.toNat).s).toList))) with
      | true =>
       try simp only [bs]
       all_goals kernel_rfl
      | false =>
       try simp only [bs]
       all_goals refine obind_congr fun r1 => ?_
       all_goals try simp only [bs]
       all_goals cases hc : ((!(rt r1 0).b)) with
       | true =>
        try simp only [bs]
        all_goals kernel_rfl
       | false =>
        try simp only [bs]
        all_goals kernel_rfl
     | false =>
      try simp only [bs]
      all_goals kernel_rfl
    | false =>
     try simp only [bs]
     all_goals kernel_rfl
   | false =>
    try simp only [bs]
    all_goals kernel_rfl
  | false =>
   try simp only [bs]
   all_goals kernel_rfl
 | false =>
  try simp only [bs]
  all_goals kernel_rfl
theorem y_spec_l2Ok_0 (x1 : T) (x2 : T) (x3 : T) (x4 : T) (x5 : T) {r : List T} (h : Yields (fun k => b_spec_l2Ok_0 (hl env k fi_spec_l2Ok) (cl env k) x1 x2 x3 x4 x5) r) : Yields (fun k => l_spec_l2Ok_0 (hl env k fi_spec_l2Ok) x1 x2 x3 x4 x5) r := Yields.head (fun H C => q_spec_l2Ok_0 H C x1 x2 x3 x4 x5) h
/- loop.example/heirlooms/laws.toModule -/
noncomputable abbrev b_laws_toModule (H : List Item → CS → R) (C : CallsE) (a0 : T) : R :=
 obind (C F_laws_toRecordS [(a0.fld 0)]) fun r1 =>
 obind (C F_laws_toFuncS [(a0.fld 1)]) fun r2 =>
 obind (C F_laws_toIntS [(a0.fld 2)]) fun r3 =>
 some [(T.st [(rt r1 0), (rt r2 0), (rt r3 0)])]
theorem q_laws_toModule (H : List Item → CS → R) (C : CallsE) (a0 : T) : enterE fi_laws_toModule env H C [a0] = b_laws_toModule H C a0 := by kernel_rfl
theorem y_laws_toModule (a0 : T) {r : List T} (h : Yields (fun k => b_laws_toModule (hl env k fi_laws_toModule) (cl env k) a0) r) : Yields (fun k => cl env k F_laws_toModule [a0]) r := Yields.call (fi := fi_laws_toModule) rfl rfl (fun H C => q_laws_toModule H C a0) h
/- loop.example/heirlooms/laws.toKept -/
noncomputable abbrev b_laws_toKept (H : List Item → CS → R) (C : CallsE) (a0 : T) : R :=
 obind (C F_laws_toValue [(a0.fld 1)]) fun r1 =>
 some [(T.st [(a0.fld 0), (T.st [((rt r1 0).fld 0), ((rt r1 0).fld 1), ((rt r1 0).fld 2), ((rt r1 0).fld 3)])])]
theorem q_laws_toKept (H : List Item → CS → R) (C : CallsE) (a0 : T) : enterE fi_laws_toKept env H C [a0] = b_laws_toKept H C a0 := by kernel_rfl
theorem y_laws_toKept (a0 : T) {r : List T} (h : Yields (fun k => b_laws_toKept (hl env k fi_laws_toKept) (cl env k) a0) r) : Yields (fun k => cl env k F_laws_toKept [a0]) r := Yields.call (fi := fi_laws_toKept) rfl rfl (fun H C => q_laws_toKept H C a0) h
/- loop.example/heirlooms/laws.toValue -/
noncomputable abbrev b_laws_toValue (H : List Item → CS → R) (C : CallsE) (a0 : T) : R :=
 obind (C F_laws_toValueS [(a0.fld 2)]) fun r1 =>
 obind (C F_laws_toIntS [(a0.fld 3)]) fun r2 =>
 some [(T.st [(a0.fld 0), (a0.fld 1), (rt r1 0), (rt r2 0)])]
theorem q_laws_toValue (H : List Item → CS → R) (C : CallsE) (a0 : T) : enterE fi_laws_toValue env H C [a0] = b_laws_toValue H C a0 := by kernel_rfl
theorem y_laws_toValue (a0 : T) {r : List T} (h : Yields (fun k => b_laws_toValue (hl env k fi_laws_toValue) (cl env k) a0) r) : Yields (fun k => cl env k F_laws_toValue [a0]) r := Yields.call (fi := fi_laws_toValue) rfl rfl (fun H C => q_laws_toValue H C a0) h
noncomputable def l_impl_ShelfShape_0 (H : List Item → CS → R) (x1 : T) (x2 : T) (x3 : T) (x4 : T) (x5 : T) : R := H (hdAt fi_impl_ShelfShape.body 0) ([(0, .val 29 x1), (3, .sref 54 3 []), (16, .val 29 x2), (17, .val 3 x3), (18, .val 3 x4)], [(3, ⟨54, x5, .dp, false⟩)])
noncomputable def l_impl_ShelfShape_1 (H : List Item → CS → R) (x1 : T) (x2 : T) (x3 : T) (x4 : T) (x5 : T) (x6 : T) (x7 : T) (x8 : T) (x9 : T) : R := H (hdAt fi_impl_ShelfShape.body 1) ([(0, .val 29 x1), (3, .sref 54 3 []), (4, .val 3 x2), (16, .val 29 x3), (17, .val 3 x4), (18, .val 3 x5), (39, .val 61 x6), (40, .val 3 x7), (41, .val 3 x8)], [(3, ⟨54, x9, .dp, false⟩)])
/- loop.example/heirlooms/impl.ShelfShape -/
noncomputable abbrev b_impl_ShelfShape (H : List Item → CS → R) (C : CallsE) (a0 : T) : R :=
 bif (decide ((a0.es.length : Int) > (3 : Int))) then
 some [(T.bool false)]
 else
 obind (C F_impl_ShelfKinds [a0]) fun r1 =>
 obind (C F_impl_KindsOk [(rt r1 0)]) fun r2 =>
 bif (!(rt r2 0).b) then
 some [(T.bool false)]
 else
 l_impl_ShelfShape_0 H a0 a0 (T.int (a0.es.length : Int)) (T.int (0 : Int)) (rt r1 0)
theorem q_impl_ShelfShape (H : List Item → CS → R) (C : CallsE) (a0 : T) : enterE fi_impl_ShelfShape env H C [a0] = b_impl_ShelfShape H C a0 := by kernel_rfl
theorem y_impl_ShelfShape (a0 : T) {r : List T} (h : Yields (fun k => b_impl_ShelfShape (hl env k fi_impl_ShelfShape) (cl env k) a0) r) : Yields (fun k => cl env k F_impl_ShelfShape [a0]) r := Yields.call (fi := fi_impl_ShelfShape) rfl rfl (fun H C => q_impl_ShelfShape H C a0) h
noncomputable abbrev b_impl_ShelfShape_0 (H : List Item → CS → R) (C : CallsE) (x1 : T) (x2 : T) (x3 : T) (x4 : T) (x5 : T) : R :=
 bif (decide (x4.i < x3.i)) then
 bif (decide (0 ≤ x4.i) && decide (x4.i.toNat < x2.es.length)) then
 bif (decide (((((x2.nth x4.i.toNat).fld 1).es).length : Int) > (4 : Int))) then
 some [(T.bool false)]
 else
 obind (C F_impl_rising [((x2.nth x4.i.toNat).fld 2), (T.int (IntKind.wrap .i64 (x4.i + (1 : Int)))), (T.int (IntKind.wrap .i64 ((x1.es.length : Int) - (1 : Int))))]) fun r1 =>
 bif (!(rt r1 0).b) then
 some [(T.bool false)]
 else
 l_impl_ShelfShape_1 H x1 x4 x2 x3 x4 ((x2.nth x4.i.toNat).fld 1) (T.int ((((x2.nth x4.i.toNat).fld 1).es).length : Int)) (T.int (0 : Int)) x5
 else
 none
 else
 some [(T.bool true)]
theorem e_impl_ShelfShape_0 (H : List Item → CS → R) (C : CallsE) (x1 : T) (x2 : T) (x3 : T) (x4 : T) (x5 : T) : headE fi_impl_ShelfShape env H C (hdAt fi_impl_ShelfShape.body 0) ([(0, .val 29 x1), (3, .sref 54 3 []), (16, .val 29 x2), (17, .val 3 x3), (18, .val 3 x4)], [(3, ⟨54, x5, .dp, false⟩)]) =
 bif (decide (x4.i < x3.i)) then
 bif (decide (0 ≤ x4.i) && decide (x4.i.toNat < x2.es.length)) then
 bif ((!((decide (((((x2.nth x4.i.toNat).fld 1).es).length : Int) > (4 : Int))) == false)) || true) then
 bif ((!((decide (((((x2.nth x4.i.toNat).fld 1).es).length : Int) > (4 : Int))) == false)) || ((decide (((((x2.nth x4.i.toNat).fld 1).es).length : Int) > (4 : Int))) == false)) then
 bif ((!((decide (((((x2.nth x4.i.toNat).fld 1).es).length : Int) > (4 : Int))) == false)) || true) then
 bif ((!((decide (((((x2.nth x4.i.toNat).fld 1).es).length : Int) > (4 : Int))) == false)) || ((((decide (((((x2.nth x4.i.toNat).fld 1).es).length : Int) > (4 : Int))) == false) && true) && true)) then
 bif ((!((decide (((((x2.nth x4.i.toNat).fld 1).es).length : Int) > (4 : Int))) == false)) || true) then
 bif ((!((decide (((((x2.nth x4.i.toNat).fld 1).es).length : Int) > (4 : Int))) == false)) || ((decide (((((x2.nth x4.i.toNat).fld 1).es).length : Int) > (4 : Int))) == false)) then
 bif ((!((decide (((((x2.nth x4.i.toNat).fld 1).es).length : Int) > (4 : Int))) == false)) || ((((decide (((((x2.nth x4.i.toNat).fld 1).es).length : Int) > (4 : Int))) == false) && true) && true)) then
 bif ((!((decide (((((x2.nth x4.i.toNat).fld 1).es).length : Int) > (4 : Int))) == false)) || (((decide (((((x2.nth x4.i.toNat).fld 1).es).length : Int) > (4 : Int))) == false) && (((decide (((((x2.nth x4.i.toNat).fld 1).es).length : Int) > (4 : Int))) == false) && (((decide (((((x2.nth x4.i.toNat).fld 1).es).length : Int) > (4 : Int))) == false) && true)))) then
 obind ((bif ((decide (((((x2.nth x4.i.toNat).fld 1).es).length : Int) > (4 : Int))) == false) then C F_impl_rising [((x2.nth x4.i.toNat).fld 2), (T.int (IntKind.wrap .i64 (x4.i + (1 : Int)))), (T.int (IntKind.wrap .i64 ((x1.es.length : Int) - (1 : Int))))] else some [])) fun r1 =>
 bif ((!((decide (((((x2.nth x4.i.toNat).fld 1).es).length : Int) > (4 : Int))) == false)) || ((decide (((((x2.nth x4.i.toNat).fld 1).es).length : Int) > (4 : Int))) == false)) then
 bif (bif (decide (((((x2.nth x4.i.toNat).fld 1).es).length : Int) > (4 : Int))) then true else ((decide (((((x2.nth x4.i.toNat).fld 1).es).length : Int) > (4 : Int))) == false)) then
 bif (bif (decide (((((x2.nth x4.i.toNat).fld 1).es).length : Int) > (4 : Int))) then (T.bool true) else (T.bool (!(rt r1 0).b))).b then
 some [(T.bool false)]
 else
 l_impl_ShelfShape_1 H x1 x4 x2 x3 x4 ((x2.nth x4.i.toNat).fld 1) (T.int ((((x2.nth x4.i.toNat).fld 1).es).length : Int)) (T.int (0 : Int)) x5
 else
 none
 else
 none
 else
 none
 else
 none
 else
 none
 else
 none
 else
 none
 else
 none
 else
 none
 else
 none
 else
 none
 else
 some [(T.bool true)] := by kernel_rfl
theorem q_impl_ShelfShape_0 (H : List Item → CS → R) (C : CallsE) (x1 : T) (x2 : T) (x3 : T) (x4 : T) (x5 : T) : headE fi_impl_ShelfShape env H C (hdAt fi_impl_ShelfShape.body 0) ([(0, .val 29 x1), (3, .sref 54 3 []), (16, .val 29 x2), (17, .val 3 x3), (18, .val 3 x4)], [(3, ⟨54, x5, .dp, false⟩)]) = b_impl_ShelfShape_0 H C x1 x2 x3 x4 x5 := by
 refine (e_impl_ShelfShape_0 H C x1 x2 x3 x4 x5).trans ?_
 unfold b_impl_ShelfShape_0
 all_goals cases hc : ((decide (x4.i < x3.i))) with
 | true =>
  try simp only [bs]
  all_goals cases hc : ((decide (0 ≤ x4.i) && decide (x4.i.toNat < x2.es.length))) with
  | true =>
   try simp only [bs]
   all_goals cases hc : ((decide (((((x2.nth x4.i.toNat).fld 1).es).length : Int) > (4 : Int)))) with
   | true =>
    try simp only [bs]
    all_goals kernel_rfl
   | false =>
    try simp only [bs]
    all_goals refine obind_congr fun r1 => ?_
    all_goals try simp only [bs]
    all_goals cases hc : ((!(rt r1 0).b)) with
    | true =>
     try simp only [bs]
     all_goals kernel_rfl
    | false =>
     try simp only [bs]
     all_goals kernel_rfl
  | false =>
   try simp only [bs]
   all_goals kernel_rfl
 | false =>
  try simp only [bs]
  all_goals kernel_rfl
theorem y_impl_ShelfShape_0 (x1 : T) (x2 : T) (x3 : T) (x4 : T) (x5 : T) {r : List T} (h : Yields (fun k => b_impl_ShelfShape_0 (hl env k fi_impl_ShelfShape) (cl env k) x1 x2 x3 x4 x5) r) : Yields (fun k => l_impl_ShelfShape_0 (hl env k fi_impl_ShelfShape) x1 x2 x3 x4 x5) r := Yields.head (fun H C => q_impl_ShelfShape_0 H C x1 x2 x3 x4 x5) h
noncomputable abbrev b_impl_ShelfShape_1 (H : List Item → CS → R) (C : CallsE) (x1 : T) (x2 : T) (x3 : T) (x4 : T) (x5 : T) (x6 : T) (x7 : T) (x8 : T) (x9 : T) : R :=
 bif (decide (x8.i < x7.i)) then
 bif (decide (0 ≤ x8.i) && decide (x8.i.toNat < x6.es.length)) then
 bif (decide (0 ≤ (0 : Int)) && (decide ((0 : Int) ≤ (IntKind.wrap .i64 (x2.i + (1 : Int)))) && (decide ((IntKind.wrap .i64 (x2.i + (1 : Int))) ≤ (x9.es.length : Int)) && decide ((x9.es.length : Int) ≤ (x9.es.length : Int))))) then
 obind (C F_impl_funcShape [(T.sl ((x9.es.take ((IntKind.wrap .i64 (x2.i + (1 : Int))).toNat)).drop 0)), x2, (x6.nth x8.i.toNat)]) fun r1 =>
 bif (!(rt r1 0).b) then
 some [(T.bool false)]
 else
 l_impl_ShelfShape_1 H x1 x2 x3 x4 x5 x6 x7 (T.int (IntKind.wrap .i64 (x8.i + (1 : Int)))) x9
 else
 none
 else
 none
 else
 l_impl_ShelfShape_0 H x1 x3 x4 (T.int (IntKind.wrap .i64 (x5.i + (1 : Int)))) x9
theorem q_impl_ShelfShape_1 (H : List Item → CS → R) (C : CallsE) (x1 : T) (x2 : T) (x3 : T) (x4 : T) (x5 : T) (x6 : T) (x7 : T) (x8 : T) (x9 : T) : headE fi_impl_ShelfShape env H C (hdAt fi_impl_ShelfShape.body 1) ([(0, .val 29 x1), (3, .sref 54 3 []), (4, .val 3 x2), (16, .val 29 x3), (17, .val 3 x4), (18, .val 3 x5), (39, .val 61 x6), (40, .val 3 x7), (41, .val 3 x8)], [(3, ⟨54, x9, .dp, false⟩)]) = b_impl_ShelfShape_1 H C x1 x2 x3 x4 x5 x6 x7 x8 x9 := by kernel_rfl
theorem y_impl_ShelfShape_1 (x1 : T) (x2 : T) (x3 : T) (x4 : T) (x5 : T) (x6 : T) (x7 : T) (x8 : T) (x9 : T) {r : List T} (h : Yields (fun k => b_impl_ShelfShape_1 (hl env k fi_impl_ShelfShape) (cl env k) x1 x2 x3 x4 x5 x6 x7 x8 x9) r) : Yields (fun k => l_impl_ShelfShape_1 (hl env k fi_impl_ShelfShape) x1 x2 x3 x4 x5 x6 x7 x8 x9) r := Yields.head (fun H C => q_impl_ShelfShape_1 H C x1 x2 x3 x4 x5 x6 x7 x8 x9) h
noncomputable def l_impl_ShelfKinds_0 (H : List Item → CS → R) (x1 : T) (x2 : T) (x3 : T) (x4 : T) : R := H (hdAt fi_impl_ShelfKinds.body 0) ([(3, .sref 54 3 []), (7, .val 29 x1), (8, .val 3 x2), (9, .val 3 x3)], [(3, ⟨54, x4, (.sl .dp), false⟩)])
/- loop.example/heirlooms/impl.ShelfKinds -/
noncomputable abbrev b_impl_ShelfKinds (H : List Item → CS → R) (C : CallsE) (a0 : T) : R :=
 l_impl_ShelfKinds_0 H a0 (T.int (a0.es.length : Int)) (T.int (0 : Int)) (T.sl [])
theorem q_impl_ShelfKinds (H : List Item → CS → R) (C : CallsE) (a0 : T) : enterE fi_impl_ShelfKinds env H C [a0] = b_impl_ShelfKinds H C a0 := by kernel_rfl
theorem y_impl_ShelfKinds (a0 : T) {r : List T} (h : Yields (fun k => b_impl_ShelfKinds (hl env k fi_impl_ShelfKinds) (cl env k) a0) r) : Yields (fun k => cl env k F_impl_ShelfKinds [a0]) r := Yields.call (fi := fi_impl_ShelfKinds) rfl rfl (fun H C => q_impl_ShelfKinds H C a0) h
noncomputable abbrev b_impl_ShelfKinds_0 (H : List Item → CS → R) (C : CallsE) (x1 : T) (x2 : T) (x3 : T) (x4 : T) : R :=
 bif (decide (x3.i < x2.i)) then
 bif (decide (0 ≤ x3.i) && decide (x3.i.toNat < x1.es.length)) then
 obind (C F_impl_copyRecords [((x1.nth x3.i.toNat).fld 0)]) fun r1 =>
 bif (decide (x4.es.length + [(rt r1 0)].length ≤ LIM)) then
 l_impl_ShelfKinds_0 H x1 x2 (T.int (IntKind.wrap .i64 (x3.i + (1 : Int)))) (T.sl (x4.es ++ [(rt r1 0)]))
 else
 none
 else
 none
 else
 obind (C F_slices_Clip_s_impl_Record [x4]) fun r1 =>
 some [(T.sl ((x4.es.take x4.es.length).drop 0))]
theorem e_impl_ShelfKinds_0 (H : List Item → CS → R) (C : CallsE) (x1 : T) (x2 : T) (x3 : T) (x4 : T) : headE fi_impl_ShelfKinds env H C (hdAt fi_impl_ShelfKinds.body 0) ([(3, .sref 54 3 []), (7, .val 29 x1), (8, .val 3 x2), (9, .val 3 x3)], [(3, ⟨54, x4, (.sl .dp), false⟩)]) =
 bif (decide (x3.i < x2.i)) then
 bif (decide (0 ≤ x3.i) && decide (x3.i.toNat < x1.es.length)) then
 obind (C F_impl_copyRecords [((x1.nth x3.i.toNat).fld 0)]) fun r1 =>
 bif (decide (x4.es.length + [(rt r1 0)].length ≤ LIM)) then
 l_impl_ShelfKinds_0 H x1 x2 (T.int (IntKind.wrap .i64 (x3.i + (1 : Int)))) (T.sl (x4.es ++ [(rt r1 0)]))
 else
 none
 else
 none
 else
 obind (C F_slices_Clip_s_impl_Record [x4]) fun r2 =>
 some [(T.sl ((x4.es.take x4.es.length).drop 0))] := by kernel_rfl
theorem q_impl_ShelfKinds_0 (H : List Item → CS → R) (C : CallsE) (x1 : T) (x2 : T) (x3 : T) (x4 : T) : headE fi_impl_ShelfKinds env H C (hdAt fi_impl_ShelfKinds.body 0) ([(3, .sref 54 3 []), (7, .val 29 x1), (8, .val 3 x2), (9, .val 3 x3)], [(3, ⟨54, x4, (.sl .dp), false⟩)]) = b_impl_ShelfKinds_0 H C x1 x2 x3 x4 := by
 refine (e_impl_ShelfKinds_0 H C x1 x2 x3 x4).trans ?_
 unfold b_impl_ShelfKinds_0
 all_goals cases hc : ((decide (x3.i < x2.i))) with
 | true =>
  try simp only [bs]
  all_goals cases hc : ((decide (0 ≤ x3.i) && decide (x3.i.toNat < x1.es.length))) with
  | true =>
   try simp only [bs]
   all_goals refine obind_congr fun r1 => ?_
   all_goals try simp only [bs]
   all_goals cases hc : ((decide (x4.es.length + [(rt r1 0)].length ≤ LIM))) with
   | true =>
    try simp only [bs]
    all_goals kernel_rfl
   | false =>
    try simp only [bs]
    all_goals kernel_rfl
  | false =>
   try simp only [bs]
   all_goals kernel_rfl
 | false =>
  try simp only [bs]
  all_goals refine obind_congr fun r1 => ?_
  all_goals try simp only [bs]
  all_goals kernel_rfl
theorem y_impl_ShelfKinds_0 (x1 : T) (x2 : T) (x3 : T) (x4 : T) {r : List T} (h : Yields (fun k => b_impl_ShelfKinds_0 (hl env k fi_impl_ShelfKinds) (cl env k) x1 x2 x3 x4) r) : Yields (fun k => l_impl_ShelfKinds_0 (hl env k fi_impl_ShelfKinds) x1 x2 x3 x4) r := Yields.head (fun H C => q_impl_ShelfKinds_0 H C x1 x2 x3 x4) h
/- loop.example/heirlooms/impl.ShelfFunc -/
noncomputable abbrev b_impl_ShelfFunc (H : List Item → CS → R) (C : CallsE) (a0 a1 a2 : T) : R :=
 bif (decide (a1.i < (0 : Int))) then
 some [(T.st [(T.int (0 : Int)), (T.sl []), (T.sl []), (T.sl []), (T.sl []), (T.sl [])]), (T.bool false)]
 else
 bif (decide (a1.i ≥ (a0.es.length : Int))) then
 some [(T.st [(T.int (0 : Int)), (T.sl []), (T.sl []), (T.sl []), (T.sl []), (T.sl [])]), (T.bool false)]
 else
 bif (decide (a2.i < (0 : Int))) then
 some [(T.st [(T.int (0 : Int)), (T.sl []), (T.sl []), (T.sl []), (T.sl []), (T.sl [])]), (T.bool false)]
 else
 bif (decide (0 ≤ a1.i) && decide (a1.i.toNat < a0.es.length)) then
 bif (decide (a2.i ≥ ((((a0.nth a1.i.toNat).fld 1).es).length : Int))) then
 some [(T.st [(T.int (0 : Int)), (T.sl []), (T.sl []), (T.sl []), (T.sl []), (T.sl [])]), (T.bool false)]
 else
 bif (decide (0 ≤ a2.i) && decide (a2.i.toNat < (((a0.nth a1.i.toNat).fld 1).es).length)) then
 obind (C F_impl_copyFunc [(((a0.nth a1.i.toNat).fld 1).nth a2.i.toNat)]) fun r1 =>
 some [(T.st [((rt r1 0).fld 0), ((rt r1 0).fld 1), ((rt r1 0).fld 2), ((rt r1 0).fld 3), ((rt r1 0).fld 4), ((rt r1 0).fld 5)]), (T.bool true)]
 else
 none
 else
 none
theorem e_impl_ShelfFunc (H : List Item → CS → R) (C : CallsE) (a0 a1 a2 : T) : enterE fi_impl_ShelfFunc env H C [a0, a1, a2] =
 bif ((!((decide (a1.i < (0 : Int))) == false)) || true) then
 bif ((!((decide (a1.i < (0 : Int))) == false)) || true) then
 bif ((!((decide (a1.i < (0 : Int))) == false)) || ((decide (a1.i < (0 : Int))) == false)) then
 bif ((!((decide (a1.i < (0 : Int))) == false)) || ((((decide (a1.i < (0 : Int))) == false) && ((decide (a1.i < (0 : Int))) == false)) && true)) then
 bif (bif (decide (a1.i < (0 : Int))) then true else ((decide (a1.i < (0 : Int))) == false)) then
 bif ((!((bif (decide (a1.i < (0 : Int))) then (T.bool true) else (T.bool (decide (a1.i ≥ (a0.es.length : Int))))).b == false)) || true) then
 bif ((!((bif (decide (a1.i < (0 : Int))) then (T.bool true) else (T.bool (decide (a1.i ≥ (a0.es.length : Int))))).b == false)) || ((((bif (decide (a1.i < (0 : Int))) then (T.bool true) else (T.bool (decide (a1.i ≥ (a0.es.length : Int))))).b == false) && true) && true)) then
 bif (bif (bif (decide (a1.i < (0 : Int))) then (T.bool true) else (T.bool (decide (a1.i ≥ (a0.es.length : Int))))).b then true else ((bif (decide (a1.i < (0 : Int))) then (T.bool true) else (T.bool (decide (a1.i ≥ (a0.es.length : Int))))).b == false)) then
 bif ((!((bif (bif (decide (a1.i < (0 : Int))) then (T.bool true) else (T.bool (decide (a1.i ≥ (a0.es.length : Int))))).b then (T.bool true) else (T.bool (decide (a2.i < (0 : Int))))).b == false)) || true) then
 bif ((!((bif (bif (decide (a1.i < (0 : Int))) then (T.bool true) else (T.bool (decide (a1.i ≥ (a0.es.length : Int))))).b then (T.bool true) else (T.bool (decide (a2.i < (0 : Int))))).b == false)) || true) then
 bif ((!((bif (bif (decide (a1.i < (0 : Int))) then (T.bool true) else (T.bool (decide (a1.i ≥ (a0.es.length : Int))))).b then (T.bool true) else (T.bool (decide (a2.i < (0 : Int))))).b == false)) || true) then
 bif ((!((bif (bif (decide (a1.i < (0 : Int))) then (T.bool true) else (T.bool (decide (a1.i ≥ (a0.es.length : Int))))).b then (T.bool true) else (T.bool (decide (a2.i < (0 : Int))))).b == false)) || ((((bif (bif (decide (a1.i < (0 : Int))) then (T.bool true) else (T.bool (decide (a1.i ≥ (a0.es.length : Int))))).b then (T.bool true) else (T.bool (decide (a2.i < (0 : Int))))).b == false) && (((bif (bif (decide (a1.i < (0 : Int))) then (T.bool true) else (T.bool (decide (a1.i ≥ (a0.es.length : Int))))).b then (T.bool true) else (T.bool (decide (a2.i < (0 : Int))))).b == false) && true)) && (decide (0 ≤ a1.i) && decide (a1.i.toNat < a0.es.length)))) then
 bif ((!((bif (bif (decide (a1.i < (0 : Int))) then (T.bool true) else (T.bool (decide (a1.i ≥ (a0.es.length : Int))))).b then (T.bool true) else (T.bool (decide (a2.i < (0 : Int))))).b == false)) || ((bif (bif (decide (a1.i < (0 : Int))) then (T.bool true) else (T.bool (decide (a1.i ≥ (a0.es.length : Int))))).b then (T.bool true) else (T.bool (decide (a2.i < (0 : Int))))).b == false)) then
 bif ((!((bif (bif (decide (a1.i < (0 : Int))) then (T.bool true) else (T.bool (decide (a1.i ≥ (a0.es.length : Int))))).b then (T.bool true) else (T.bool (decide (a2.i < (0 : Int))))).b == false)) || ((bif (bif (decide (a1.i < (0 : Int))) then (T.bool true) else (T.bool (decide (a1.i ≥ (a0.es.length : Int))))).b then (T.bool true) else (T.bool (decide (a2.i < (0 : Int))))).b == false)) then
 bif ((!((bif (bif (decide (a1.i < (0 : Int))) then (T.bool true) else (T.bool (decide (a1.i ≥ (a0.es.length : Int))))).b then (T.bool true) else (T.bool (decide (a2.i < (0 : Int))))).b == false)) || ((bif (bif (decide (a1.i < (0 : Int))) then (T.bool true) else (T.bool (decide (a1.i ≥ (a0.es.length : Int))))).b then (T.bool true) else (T.bool (decide (a2.i < (0 : Int))))).b == false)) then
 bif ((!((bif (bif (decide (a1.i < (0 : Int))) then (T.bool true) else (T.bool (decide (a1.i ≥ (a0.es.length : Int))))).b then (T.bool true) else (T.bool (decide (a2.i < (0 : Int))))).b == false)) || ((((bif (bif (decide (a1.i < (0 : Int))) then (T.bool true) else (T.bool (decide (a1.i ≥ (a0.es.length : Int))))).b then (T.bool true) else (T.bool (decide (a2.i < (0 : Int))))).b == false) && ((bif (bif (decide (a1.i < (0 : Int))) then (T.bool true) else (T.bool (decide (a1.i ≥ (a0.es.length : Int))))).b then (T.bool true) else (T.bool (decide (a2.i < (0 : Int))))).b == false)) && true)) then
 bif (bif (bif (bif (decide (a1.i < (0 : Int))) then (T.bool true) else (T.bool (decide (a1.i ≥ (a0.es.length : Int))))).b then (T.bool true) else (T.bool (decide (a2.i < (0 : Int))))).b then true else ((bif (bif (decide (a1.i < (0 : Int))) then (T.bool true) else (T.bool (decide (a1.i ≥ (a0.es.length : Int))))).b then (T.bool true) else (T.bool (decide (a2.i < (0 : Int))))).b == false)) then
 bif (bif (bif (bif (decide (a1.i < (0 : Int))) then (T.bool true) else (T.bool (decide (a1.i ≥ (a0.es.length : Int))))).b then (T.bool true) else (T.bool (decide (a2.i < (0 : Int))))).b then (T.bool true) else (T.bool (decide (a2.i ≥ ((((a0.nth a1.i.toNat).fld 1).es).length : Int))))).b then
 some [(T.st [(T.int (0 : Int)), (T.sl []), (T.sl []), (T.sl []), (T.sl []), (T.sl [])]), (T.bool false)]
 else
 bif (decide (0 ≤ a1.i) && decide (a1.i.toNat < a0.es.length)) then
 bif (decide (0 ≤ a2.i) && decide (a2.i.toNat < (((a0.nth a1.i.toNat).fld 1).es).length)) then
 obind (C F_impl_copyFunc [(((a0.nth a1.i.toNat).fld 1).nth a2.i.toNat)]) fun r1 =>
 some [(T.st [((rt r1 0).fld 0), ((rt r1 0).fld 1), ((rt r1 0).fld 2), ((rt r1 0).fld 3), ((rt r1 0).fld 4), ((rt r1 0).fld 5)]), (T.bool true)]
 else
 none
 else
 none
 else
 none
 else
 none
 else
 none
 else
 none
 else
 none
 else
 none
 else
 none
 else
 none
 else
 none
 else
 none
 else
 none
 else
 none
 else
 none
 else
 none
 else
 none
 else
 none
 else
 none := by kernel_rfl
theorem q_impl_ShelfFunc (H : List Item → CS → R) (C : CallsE) (a0 a1 a2 : T) : enterE fi_impl_ShelfFunc env H C [a0, a1, a2] = b_impl_ShelfFunc H C a0 a1 a2 := by
 refine (e_impl_ShelfFunc H C a0 a1 a2).trans ?_
 unfold b_impl_ShelfFunc
 all_goals cases hc : ((decide (a1.i < (0 : Int)))) with
 | true =>
  try simp only [bs]
  all_goals kernel_rfl
 | false =>
  try simp only [bs]
  all_goals cases hc : ((decide (a1.i ≥ (a0.es.length : Int)))) with
  | true =>
   try simp only [bs]
   all_goals kernel_rfl
  | false =>
   try simp only [bs]
   all_goals cases hc : ((decide (a2.i < (0 : Int)))) with
   | true =>
    try simp only [bs]
    all_goals kernel_rfl
   | false =>
    try simp only [bs]
    all_goals cases hc : ((decide (0 ≤ a1.i) && decide (a1.i.toNat < a0.es.length))) with
    | true =>
     try simp only [bs]
     all_goals cases hc : ((decide (a2.i ≥ ((((a0.nth a1.i.toNat).fld 1).es).length : Int)))) with
     | true =>
      try simp only [bs]
      all_goals kernel_rfl
     | false =>
      try simp only [bs]
      all_goals cases hc : ((decide (0 ≤ a2.i) && decide (a2.i.toNat < (((a0.nth a1.i.toNat).fld 1).es).length))) with
      | true =>
       try simp only [bs]
       all_goals refine obind_congr fun r1 => ?_
       all_goals try simp only [bs]
       all_goals kernel_rfl
      | false =>
       try simp only [bs]
       all_goals kernel_rfl
    | false =>
     try simp only [bs]
     all_goals kernel_rfl
theorem y_impl_ShelfFunc (a0 a1 a2 : T) {r : List T} (h : Yields (fun k => b_impl_ShelfFunc (hl env k fi_impl_ShelfFunc) (cl env k) a0 a1 a2) r) : Yields (fun k => cl env k F_impl_ShelfFunc [a0, a1, a2]) r := Yields.call (fi := fi_impl_ShelfFunc) rfl rfl (fun H C => q_impl_ShelfFunc H C a0 a1 a2) h
noncomputable def l_impl_VaultsOk_0 (H : List Item → CS → R) (x1 : T) (x2 : T) (x3 : T) (x4 : T) (x5 : T) : R := H (hdAt fi_impl_VaultsOk.body 0) ([(0, .val 54 x1), (1, .val 31 x2), (15, .val 31 x3), (16, .val 3 x4), (17, .val 3 x5)], [])
/- loop.example/heirlooms/impl.VaultsOk -/
noncomputable abbrev b_impl_VaultsOk (H : List Item → CS → R) (C : CallsE) (a0 a1 : T) : R :=
 obind (C F_impl_KindsOk [a0]) fun r1 =>
 bif (!(rt r1 0).b) then
 some [(T.bool false)]
 else
 bif (decide ((a1.es.length : Int) > (36 : Int))) then
 some [(T.bool false)]
 else
 l_impl_VaultsOk_0 H a0 a1 a1 (T.int (a1.es.length : Int)) (T.int (0 : Int))
theorem e_impl_VaultsOk (H : List Item → CS → R) (C : CallsE) (a0 a1 : T) : enterE fi_impl_VaultsOk env H C [a0, a1] =
 obind (C F_impl_KindsOk [a0]) fun r1 =>
 bif ((!((!(rt r1 0).b) == false)) || true) then
 bif ((!((!(rt r1 0).b) == false)) || ((!(rt r1 0).b) == false)) then
 bif ((!((!(rt r1 0).b) == false)) || ((((!(rt r1 0).b) == false) && true) && true)) then
 bif (bif (!(rt r1 0).b) then true else ((!(rt r1 0).b) == false)) then
 bif (bif (!(rt r1 0).b) then (T.bool true) else (T.bool (decide ((a1.es.length : Int) > (36 : Int))))).b then
 some [(T.bool false)]
 else
 l_impl_VaultsOk_0 H a0 a1 a1 (T.int (a1.es.length : Int)) (T.int (0 : Int))
 else
 none
 else
 none
 else
 none
 else
 none := by kernel_rfl
theorem q_impl_VaultsOk (H : List Item → CS → R) (C : CallsE) (a0 a1 : T) : enterE fi_impl_VaultsOk env H C [a0, a1] = b_impl_VaultsOk H C a0 a1 := by
 refine (e_impl_VaultsOk H C a0 a1).trans ?_
 unfold b_impl_VaultsOk
 all_goals refine obind_congr fun r1 => ?_
 all_goals try simp only [bs]
 all_goals cases hc : ((!(rt r1 0).b)) with
 | true =>
  try simp only [bs]
  all_goals kernel_rfl
 | false =>
  try simp only [bs]
  all_goals cases hc : ((decide ((a1.es.length : Int) > (36 : Int)))) with
  | true =>
   try simp only [bs]
   all_goals kernel_rfl
  | false =>
   try simp only [bs]
   all_goals kernel_rfl
theorem y_impl_VaultsOk (a0 a1 : T) {r : List T} (h : Yields (fun k => b_impl_VaultsOk (hl env k fi_impl_VaultsOk) (cl env k) a0 a1) r) : Yields (fun k => cl env k F_impl_VaultsOk [a0, a1]) r := Yields.call (fi := fi_impl_VaultsOk) rfl rfl (fun H C => q_impl_VaultsOk H C a0 a1) h
noncomputable abbrev b_impl_VaultsOk_0 (H : List Item → CS → R) (C : CallsE) (x1 : T) (x2 : T) (x3 : T) (x4 : T) (x5 : T) : R :=
 bif (decide (x5.i < x4.i)) then
 bif (decide (0 ≤ x5.i) && decide (x5.i.toNat < x3.es.length)) then
 bif (decide (((x3.nth x5.i.toNat).fld 0).i < (0 : Int))) then
 some [(T.bool false)]
 else
 bif (decide (((x3.nth x5.i.toNat).fld 0).i ≥ (4 : Int))) then
 some [(T.bool false)]
 else
 obind (C F_impl_keepable [x1, ((x3.nth x5.i.toNat).fld 1)]) fun r1 =>
 bif (!(rt r1 0).b) then
 some [(T.bool false)]
 else
 bif (decide (x5.i > (0 : Int))) then
 bif (decide (0 ≤ (IntKind.wrap .i64 (x5.i - (1 : Int)))) && decide ((IntKind.wrap .i64 (x5.i - (1 : Int))).toNat < x2.es.length)) then
 obind (C F_impl_vaultBefore [(x2.nth ((IntKind.wrap .i64 (x5.i - (1 : Int))).toNat)), (x3.nth x5.i.toNat)]) fun r2 =>
 bif (!(rt r2 0).b) then
 some [(T.bool false)]
 else
 l_impl_VaultsOk_0 H x1 x2 x3 x4 (T.int (IntKind.wrap .i64 (x5.i + (1 : Int))))
 else
 none
 else
 l_impl_VaultsOk_0 H x1 x2 x3 x4 (T.int (IntKind.wrap .i64 (x5.i + (1 : Int))))
 else
 none
 else
 some [(T.bool true)]
theorem e_impl_VaultsOk_0 (H : List Item → CS → R) (C : CallsE) (x1 : T) (x2 : T) (x3 : T) (x4 : T) (x5 : T) : headE fi_impl_VaultsOk env H C (hdAt fi_impl_VaultsOk.body 0) ([(0, .val 54 x1), (1, .val 31 x2), (15, .val 31 x3), (16, .val 3 x4), (17, .val 3 x5)], []) =
 bif (decide (x5.i < x4.i)) then
 bif (decide (0 ≤ x5.i) && decide (x5.i.toNat < x3.es.length)) then
 bif ((!((decide (((x3.nth x5.i.toNat).fld 0).i < (0 : Int))) == false)) || true) then
 bif ((!((decide (((x3.nth x5.i.toNat).fld 0).i < (0 : Int))) == false)) || ((decide (((x3.nth x5.i.toNat).fld 0).i < (0 : Int))) == false)) then
 bif ((!((decide (((x3.nth x5.i.toNat).fld 0).i < (0 : Int))) == false)) || ((((decide (((x3.nth x5.i.toNat).fld 0).i < (0 : Int))) == false) && true) && true)) then
 bif (bif (decide (((x3.nth x5.i.toNat).fld 0).i < (0 : Int))) then true else ((decide (((x3.nth x5.i.toNat).fld 0).i < (0 : Int))) == false)) then
 bif ((!((bif (decide (((x3.nth x5.i.toNat).fld 0).i < (0 : Int))) then (T.bool true) else (T.bool (decide (((x3.nth x5.i.toNat).fld 0).i ≥ (4 : Int))))).b == false)) || true) then
 bif ((!((bif (decide (((x3.nth x5.i.toNat).fld 0).i < (0 : Int))) then (T.bool true) else (T.bool (decide (((x3.nth x5.i.toNat).fld 0).i ≥ (4 : Int))))).b == false)) || true) then
 bif ((!((bif (decide (((x3.nth x5.i.toNat).fld 0).i < (0 : Int))) then (T.bool true) else (T.bool (decide (((x3.nth x5.i.toNat).fld 0).i ≥ (4 : Int))))).b == false)) || ((bif (decide (((x3.nth x5.i.toNat).fld 0).i < (0 : Int))) then (T.bool true) else (T.bool (decide (((x3.nth x5.i.toNat).fld 0).i ≥ (4 : Int))))).b == false)) then
 bif ((!((bif (decide (((x3.nth x5.i.toNat).fld 0).i < (0 : Int))) then (T.bool true) else (T.bool (decide (((x3.nth x5.i.toNat).fld 0).i ≥ (4 : Int))))).b == false)) || (((bif (decide (((x3.nth x5.i.toNat).fld 0).i < (0 : Int))) then (T.bool true) else (T.bool (decide (((x3.nth x5.i.toNat).fld 0).i ≥ (4 : Int))))).b == false) && (((bif (decide (((x3.nth x5.i.toNat).fld 0).i < (0 : Int))) then (T.bool true) else (T.bool (decide (((x3.nth x5.i.toNat).fld 0).i ≥ (4 : Int))))).b == false) && true))) then
 obind ((bif ((bif (decide (((x3.nth x5.i.toNat).fld 0).i < (0 : Int))) then (T.bool true) else (T.bool (decide (((x3.nth x5.i.toNat).fld 0).i ≥ (4 : Int))))).b == false) then C F_impl_keepable [x1, ((x3.nth x5.i.toNat).fld 1)] else some [])) fun r1 =>
 bif ((!((bif (decide (((x3.nth x5.i.toNat).fld 0).i < (0 : Int))) then (T.bool true) else (T.bool (decide (((x3.nth x5.i.toNat).fld 0).i ≥ (4 : Int))))).b == false)) || ((bif (decide (((x3.nth x5.i.toNat).fld 0).i < (0 : Int))) then (T.bool true) else (T.bool (decide (((x3.nth x5.i.toNat).fld 0).i ≥ (4 : Int))))).b == false)) then
 bif (bif (bif (decide (((x3.nth x5.i.toNat).fld 0).i < (0 : Int))) then (T.bool true) else (T.bool (decide (((x3.nth x5.i.toNat).fld 0).i ≥ (4 : Int))))).b then true else ((bif (decide (((x3.nth x5.i.toNat).fld 0).i < (0 : Int))) then (T.bool true) else (T.bool (decide (((x3.nth x5.i.toNat).fld 0).i ≥ (4 : Int))))).b == false)) then
 bif (bif (bif (decide (((x3.nth x5.i.toNat).fld 0).i < (0 : Int))) then (T.bool true) else (T.bool (decide (((x3.nth x5.i.toNat).fld 0).i ≥ (4 : Int))))).b then (T.bool true) else (T.bool (!(rt r1 0).b))).b then
 some [(T.bool false)]
 else
 bif ((!((decide (x5.i > (0 : Int))) == true)) || true) then
 bif ((!((decide (x5.i > (0 : Int))) == true)) || true) then
 bif ((!((decide (x5.i > (0 : Int))) == true)) || ((((decide (x5.i > (0 : Int))) == true) && true) && true)) then
 bif ((!((decide (x5.i > (0 : Int))) == true)) || ((((decide (x5.i > (0 : Int))) == true) && (((decide (x5.i > (0 : Int))) == true) && true)) && (decide (0 ≤ (IntKind.wrap .i64 (x5.i - (1 : Int)))) && decide ((IntKind.wrap .i64 (x5.i - (1 : Int))).toNat < x2.es.length)))) then
 bif ((!((decide (x5.i > (0 : Int))) == true)) || ((decide (x5.i > (0 : Int))) == true)) then
 bif ((!((decide (x5.i > (0 : Int))) == true)) || true) then
 bif ((!((decide (x5.i > (0 : Int))) == true)) || (((decide (x5.i > (0 : Int))) == true) && (((decide (x5.i > (0 : Int))) == true) && true))) then
 obind ((bif ((decide (x5.i > (0 : Int))) == true) then C F_impl_vaultBefore [(x2.nth ((IntKind.wrap .i64 (x5.i - (1 : Int))).toNat)), (x3.nth x5.i.toNat)] else some [])) fun r2 =>
 bif ((!((decide (x5.i > (0 : Int))) == true)) || ((decide (x5.i > (0 : Int))) == true)) then
 bif (bif (decide (x5.i > (0 : Int))) then ((decide (x5.i > (0 : Int))) == true) else true) then
 bif (bif (decide (x5.i > (0 : Int))) then (T.bool (!(rt r2 0).b)) else (T.bool false)).b then
 some [(T.bool false)]
 else
 l_impl_VaultsOk_0 H x1 x2 x3 x4 (T.int (IntKind.wrap .i64 (x5.i + (1 : Int))))
 else
 none
 else
 none
 else
 none
 else
 none
 else
 none
 else
 none
 else
 none
 else
 none
 else
 none
 else
 none
 else
 none
 else
 none
 else
 none
 else
 none
 else
 none
 else
 none
 else
 none
 else
 none
 else
 none
 else
 none
 else
 some [(T.bool true)] := by kernel_rfl
theorem q_impl_VaultsOk_0 (H : List Item → CS → R) (C : CallsE) (x1 : T) (x2 : T) (x3 : T) (x4 : T) (x5 : T) : headE fi_impl_VaultsOk env H C (hdAt fi_impl_VaultsOk.body 0) ([(0, .val 54 x1), (1, .val 31 x2), (15, .val 31 x3), (16, .val 3 x4), (17, .val 3 x5)], []) = b_impl_VaultsOk_0 H C x1 x2 x3 x4 x5 := by
 refine (e_impl_VaultsOk_0 H C x1 x2 x3 x4 x5).trans ?_
 unfold b_impl_VaultsOk_0
 all_goals cases hc : ((decide (x5.i < x4.i))) with
 | true =>
  try simp only [bs]
  all_goals cases hc : ((decide (0 ≤ x5.i) && decide (x5.i.toNat < x3.es.length))) with
  | true =>
   try simp only [bs]
   all_goals cases hc : ((decide (((x3.nth x5.i.toNat).fld 0).i < (0 : Int)))) with
   | true =>
    try simp only [bs]
    all_goals kernel_rfl
   | false =>
    try simp only [bs]
    all_goals cases hc : ((decide (((x3.nth x5.i.toNat).fld 0).i ≥ (4 : Int)))) with
    | true =>
     try simp only [bs]
     all_goals kernel_rfl
    | false =>
     try simp only [bs]
     all_goals refine obind_congr fun r1 => ?_
     all_goals try simp only [bs]
     all_goals cases hc : ((!(rt r1 0).b)) with
     | true =>
      try simp only [bs]
      all_goals kernel_rfl
     | false =>
      try simp only [bs]
      all_goals cases hc : ((decide (x5.i > (0 : Int)))) with
      | true =>
       try simp only [bs]
       all_goals cases hc : ((decide (0 ≤ (IntKind.wrap .i64 (x5.i - (1 : Int)))) && decide ((IntKind.wrap .i64 (x5.i - (1 : Int))).toNat < x2.es.length))) with
       | true =>
        try simp only [bs]
        all_goals refine obind_congr fun r2 => ?_
        all_goals try simp only [bs]
        all_goals cases hc : ((!(rt r2 0).b)) with
        | true =>
         try simp only [bs]
         all_goals kernel_rfl
        | false =>
         try simp only [bs]
         all_goals kernel_rfl
       | false =>
        try simp only [bs]
        all_goals kernel_rfl
      | false =>
       try simp only [bs]
       all_goals kernel_rfl
  | false =>
   try simp only [bs]
   all_goals kernel_rfl
 | false =>
  try simp only [bs]
  all_goals kernel_rfl
theorem y_impl_VaultsOk_0 (x1 : T) (x2 : T) (x3 : T) (x4 : T) (x5 : T) {r : List T} (h : Yields (fun k => b_impl_VaultsOk_0 (hl env k fi_impl_VaultsOk) (cl env k) x1 x2 x3 x4 x5) r) : Yields (fun k => l_impl_VaultsOk_0 (hl env k fi_impl_VaultsOk) x1 x2 x3 x4 x5) r := Yields.head (fun H C => q_impl_VaultsOk_0 H C x1 x2 x3 x4 x5) h
/- slices.ContainsFunc[[]string,string] -/
noncomputable abbrev b_slices_ContainsFunc_string (H : List Item → CS → R) (C : CallsE) (a0 a1 : T) : R :=
 obind (C F_slices_IndexFunc_string [a0, a1]) fun r1 =>
 some [(T.bool (decide ((rt r1 0).i ≥ (0 : Int))))]
theorem q_slices_ContainsFunc_string (H : List Item → CS → R) (C : CallsE) (a0 a1 : T) : enterE fi_slices_ContainsFunc_string env H C [a0, a1] = b_slices_ContainsFunc_string H C a0 a1 := by kernel_rfl
theorem y_slices_ContainsFunc_string (a0 a1 : T) {r : List T} (h : Yields (fun k => b_slices_ContainsFunc_string (hl env k fi_slices_ContainsFunc_string) (cl env k) a0 a1) r) : Yields (fun k => cl env k F_slices_ContainsFunc_string [a0, a1]) r := Yields.call (fi := fi_slices_ContainsFunc_string) rfl rfl (fun H C => q_slices_ContainsFunc_string H C a0 a1) h
/- loop.example/heirlooms/impl.isRef -/
noncomputable abbrev b_impl_isRef (H : List Item → CS → R) (C : CallsE) (a0 : T) : R :=
 obind (C F_impl_signOf [a0]) fun r1 =>
 some [(T.bool (!(((rt r1 0).s).toList == (⟨#[]⟩ : ByteArray).toList)))]
theorem q_impl_isRef (H : List Item → CS → R) (C : CallsE) (a0 : T) : enterE fi_impl_isRef env H C [a0] = b_impl_isRef H C a0 := by kernel_rfl
theorem y_impl_isRef (a0 : T) {r : List T} (h : Yields (fun k => b_impl_isRef (hl env k fi_impl_isRef) (cl env k) a0) r) : Yields (fun k => cl env k F_impl_isRef [a0]) r := Yields.call (fi := fi_impl_isRef) rfl rfl (fun H C => q_impl_isRef H C a0) h
noncomputable def l_impl_valueFits_0 (H : List Item → CS → R) (x1 : T) (x2 : T) (x3 : T) (x4 : T) (x5 : T) : R := H (hdAt fi_impl_valueFits.body 0) ([(0, .val 54 x1), (5, .val 56 x2), (86, .val 33 x3), (87, .val 3 x4), (88, .val 3 x5)], [])
/- loop.example/heirlooms/impl.valueFits -/
noncomputable abbrev b_impl_valueFits (H : List Item → CS → R) (C : CallsE) (a0 a1 : T) : R :=
 bif (decide ((((a1.fld 3).es).length : Int) > (0 : Int))) then
 some [(T.bool false)]
 else
 obind (C F_impl_plainOk [a0, (a1.fld 0)]) fun r1 =>
 bif (!(rt r1 0).b) then
 some [(T.bool false)]
 else
 bif (((a1.fld 0).s).toList == (⟨#[110]⟩ : ByteArray).toList) then
 bif (decide ((a1.fld 1).i ≥ (0 : Int))) then
 bif (decide ((a1.fld 1).i ≤ (1000000 : Int))) then
 some [(T.bool ((((a1.fld 2).es).length : Int) == (0 : Int)))]
 else
 some [(T.bool false)]
 else
 some [(T.bool false)]
 else
 bif (((a1.fld 0).s).toList == (⟨#[98]⟩ : ByteArray).toList) then
 bif ((a1.fld 1).i == (0 : Int)) then
 some [(T.bool ((((a1.fld 2).es).length : Int) == (0 : Int)))]
 else
 bif ((a1.fld 1).i == (1 : Int)) then
 some [(T.bool ((((a1.fld 2).es).length : Int) == (0 : Int)))]
 else
 some [(T.bool false)]
 else
 bif (((a1.fld 0).s).toList == (⟨#[111]⟩ : ByteArray).toList) then
 bif (decide ((a1.fld 1).i ≥ (0 : Int))) then
 bif (decide ((a1.fld 1).i < (4 : Int))) then
 some [(T.bool ((((a1.fld 2).es).length : Int) == (0 : Int)))]
 else
 some [(T.bool false)]
 else
 some [(T.bool false)]
 else
 obind (C F_impl_recordOf [a0, (a1.fld 0)]) fun r2 =>
 bif ((a1.fld 1).i != (0 : Int)) then
 some [(T.bool false)]
 else
 bif ((((a1.fld 2).es).length : Int) != ((((rt r2 0).fld 1).es).length : Int)) then
 some [(T.bool false)]
 else
 l_impl_valueFits_0 H a0 ((rt r2 0).fld 1) (a1.fld 2) (T.int (((a1.fld 2).es).length : Int)) (T.int (0 : Int))
theorem e_impl_valueFits (H : List Item → CS → R) (C : CallsE) (a0 a1 : T) : enterE fi_impl_valueFits env H C [a0, a1] =
 bif ((!((decide ((((a1.fld 3).es).length : Int) > (0 : Int))) == false)) || true) then
 bif ((!((decide ((((a1.fld 3).es).length : Int) > (0 : Int))) == false)) || true) then
 bif ((!((decide ((((a1.fld 3).es).length : Int) > (0 : Int))) == false)) || ((decide ((((a1.fld 3).es).length : Int) > (0 : Int))) == false)) then
 bif ((!((decide ((((a1.fld 3).es).length : Int) > (0 : Int))) == false)) || (((decide ((((a1.fld 3).es).length : Int) > (0 : Int))) == false) && (((decide ((((a1.fld 3).es).length : Int) > (0 : Int))) == false) && true))) then
 obind ((bif ((decide ((((a1.fld 3).es).length : Int) > (0 : Int))) == false) then C F_impl_plainOk [a0, (a1.fld 0)] else some [])) fun r1 =>
 bif ((!((decide ((((a1.fld 3).es).length : Int) > (0 : Int))) == false)) || ((decide ((((a1.fld 3).es).length : Int) > (0 : Int))) == false)) then
 bif (bif (decide ((((a1.fld 3).es).length : Int) > (0 : Int))) then true else ((decide ((((a1.fld 3).es).length : Int) > (0 : Int))) == false)) then
 bif (bif (decide ((((a1.fld 3).es).length : Int) > (0 : Int))) then (T.bool true) else (T.bool (!(rt r1 0).b))).b then
 some [(T.bool false)]
 else
 bif (((a1.fld 0).s).toList == (⟨#[110]⟩ : ByteArray).toList) then
 bif ((!((decide ((a1.fld 1).i ≥ (0 : Int))) == true)) || true) then
 bif ((!((decide ((a1.fld 1).i ≥ (0 : Int))) == true)) || ((decide ((a1.fld 1).i ≥ (0 : Int))) == true)) then
 bif ((!((decide ((a1.fld 1).i ≥ (0 : Int))) == true)) || ((((decide ((a1.fld 1).i ≥ (0 : Int))) == true) && true) && true)) then
 bif (bif (decide ((a1.fld 1).i ≥ (0 : Int))) then ((decide ((a1.fld 1).i ≥ (0 : Int))) == true) else true) then
 bif ((!((bif (decide ((a1.fld 1).i ≥ (0 : Int))) then (T.bool (decide ((a1.fld 1).i ≤ (1000000 : Int)))) else (T.bool false)).b == true)) || true) then
 bif ((!((bif (decide ((a1.fld 1).i ≥ (0 : Int))) then (T.bool (decide ((a1.fld 1).i ≤ (1000000 : Int)))) else (T.bool false)).b == true)) || ((bif (decide ((a1.fld 1).i ≥ (0 : Int))) then (T.bool (decide ((a1.fld 1).i ≤ (1000000 : Int)))) else (T.bool false)).b == true)) then
 bif ((!((bif (decide ((a1.fld 1).i ≥ (0 : Int))) then (T.bool (decide ((a1.fld 1).i ≤ (1000000 : Int)))) else (T.bool false)).b == true)) || ((bif (decide ((a1.fld 1).i ≥ (0 : Int))) then (T.bool (decide ((a1.fld 1).i ≤ (1000000 : Int)))) else (T.bool false)).b == true)) then
 bif ((!((bif (decide ((a1.fld 1).i ≥ (0 : Int))) then (T.bool (decide ((a1.fld 1).i ≤ (1000000 : Int)))) else (T.bool false)).b == true)) || ((((bif (decide ((a1.fld 1).i ≥ (0 : Int))) then (T.bool (decide ((a1.fld 1).i ≤ (1000000 : Int)))) else (T.bool false)).b == true) && true) && true)) then
 bif (bif (bif (decide ((a1.fld 1).i ≥ (0 : Int))) then (T.bool (decide ((a1.fld 1).i ≤ (1000000 : Int)))) else (T.bool false)).b then ((bif (decide ((a1.fld 1).i ≥ (0 : Int))) then (T.bool (decide ((a1.fld 1).i ≤ (1000000 : Int)))) else (T.bool false)).b == true) else true) then
 some [(bif (bif (decide ((a1.fld 1).i ≥ (0 : Int))) then (T.bool (decide ((a1.fld 1).i ≤ (1000000 : Int)))) else (T.bool false)).b then (T.bool ((((a1.fld 2).es).length : Int) == (0 : Int))) else (T.bool false))]
 else
 none
 else
 none
 else
 none
 else
 none
 else
 none
 else
 none
 else
 none
 else
 none
 else
 none
 else
 bif (((a1.fld 0).s).toList == (⟨#[98]⟩ : ByteArray).toList) then
 bif ((!(((a1.fld 1).i == (0 : Int)) == false)) || true) then
 bif ((!(((a1.fld 1).i == (0 : Int)) == false)) || (((a1.fld 1).i == (0 : Int)) == false)) then
 bif ((!(((a1.fld 1).i == (0 : Int)) == false)) || (((((a1.fld 1).i == (0 : Int)) == false) && true) && true)) then
 bif (bif ((a1.fld 1).i == (0 : Int)) then true else (((a1.fld 1).i == (0 : Int)) == false)) then
 bif ((!((bif ((a1.fld 1).i == (0 : Int)) then (T.bool true) else (T.bool ((a1.fld 1).i == (1 : Int)))).b == true)) || true) then
 bif ((!((bif ((a1.fld 1).i == (0 : Int)) then (T.bool true) else (T.bool ((a1.fld 1).i == (1 : Int)))).b == true)) || ((bif ((a1.fld 1).i == (0 : Int)) then (T.bool true) else (T.bool ((a1.fld 1).i == (1 : Int)))).b == true)) then
 bif ((!((bif ((a1.fld 1).i == (0 : Int)) then (T.bool true) else (T.bool ((a1.fld 1).i == (1 : Int)))).b == true)) || ((bif ((a1.fld 1).i == (0 : Int)) then (T.bool true) else (T.bool ((a1.fld 1).i == (1 : Int)))).b == true)) then
 bif ((!((bif ((a1.fld 1).i == (0 : Int)) then (T.bool true) else (T.bool ((a1.fld 1).i == (1 : Int)))).b == true)) || ((((bif ((a1.fld 1).i == (0 : Int)) then (T.bool true) else (T.bool ((a1.fld 1).i == (1 : Int)))).b == true) && true) && true)) then
 bif (bif (bif ((a1.fld 1).i == (0 : Int)) then (T.bool true) else (T.bool ((a1.fld 1).i == (1 : Int)))).b then ((bif ((a1.fld 1).i == (0 : Int)) then (T.bool true) else (T.bool ((a1.fld 1).i == (1 : Int)))).b == true) else true) then
 some [(bif (bif ((a1.fld 1).i == (0 : Int)) then (T.bool true) else (T.bool ((a1.fld 1).i == (1 : Int)))).b then (T.bool ((((a1.fld 2).es).length : Int) == (0 : Int))) else (T.bool false))]
 else
 none
 else
 none
 else
 none
 else
 none
 else
 none
 else
 none
 else
 none
 else
 none
 else
 none
 else
 bif (((a1.fld 0).s).toList == (⟨#[111]⟩ : ByteArray).toList) then
 bif ((!((decide ((a1.fld 1).i ≥ (0 : Int))) == true)) || true) then
 bif ((!((decide ((a1.fld 1).i ≥ (0 : Int))) == true)) || ((decide ((a1.fld 1).i ≥ (0 : Int))) == true)) then
 bif ((!((decide ((a1.fld 1).i ≥ (0 : Int))) == true)) || ((((decide ((a1.fld 1).i ≥ (0 : Int))) == true) && true) && true)) then
 bif (bif (decide ((a1.fld 1).i ≥ (0 : Int))) then ((decide ((a1.fld 1).i ≥ (0 : Int))) == true) else true) then
 bif ((!((bif (decide ((a1.fld 1).i ≥ (0 : Int))) then (T.bool (decide ((a1.fld 1).i < (4 : Int)))) else (T.bool false)).b == true)) || true) then
 bif ((!((bif (decide ((a1.fld 1).i ≥ (0 : Int))) then (T.bool (decide ((a1.fld 1).i < (4 : Int)))) else (T.bool false)).b == true)) || ((bif (decide ((a1.fld 1).i ≥ (0 : Int))) then (T.bool (decide ((a1.fld 1).i < (4 : Int)))) else (T.bool false)).b == true)) then
 bif ((!((bif (decide ((a1.fld 1).i ≥ (0 : Int))) then (T.bool (decide ((a1.fld 1).i < (4 : Int)))) else (T.bool false)).b == true)) || ((bif (decide ((a1.fld 1).i ≥ (0 : Int))) then (T.bool (decide ((a1.fld 1).i < (4 : Int)))) else (T.bool false)).b == true)) then
 bif ((!((bif (decide ((a1.fld 1).i ≥ (0 : Int))) then (T.bool (decide ((a1.fld 1).i < (4 : Int)))) else (T.bool false)).b == true)) || ((((bif (decide ((a1.fld 1).i ≥ (0 : Int))) then (T.bool (decide ((a1.fld 1).i < (4 : Int)))) else (T.bool false)).b == true) && true) && true)) then
 bif (bif (bif (decide ((a1.fld 1).i ≥ (0 : Int))) then (T.bool (decide ((a1.fld 1).i < (4 : Int)))) else (T.bool false)).b then ((bif (decide ((a1.fld 1).i ≥ (0 : Int))) then (T.bool (decide ((a1.fld 1).i < (4 : Int)))) else (T.bool false)).b == true) else true) then
 some [(bif (bif (decide ((a1.fld 1).i ≥ (0 : Int))) then (T.bool (decide ((a1.fld 1).i < (4 : Int)))) else (T.bool false)).b then (T.bool ((((a1.fld 2).es).length : Int) == (0 : Int))) else (T.bool false))]
 else
 none
 else
 none
 else
 none
 else
 none
 else
 none
 else
 none
 else
 none
 else
 none
 else
 none
 else
 obind (C F_impl_recordOf [a0, (a1.fld 0)]) fun r2 =>
 bif ((!(((a1.fld 1).i != (0 : Int)) == false)) || true) then
 bif ((!(((a1.fld 1).i != (0 : Int)) == false)) || (((a1.fld 1).i != (0 : Int)) == false)) then
 bif ((!(((a1.fld 1).i != (0 : Int)) == false)) || (((a1.fld 1).i != (0 : Int)) == false)) then
 bif ((!(((a1.fld 1).i != (0 : Int)) == false)) || true) then
 bif ((!(((a1.fld 1).i != (0 : Int)) == false)) || (((a1.fld 1).i != (0 : Int)) == false)) then
 bif ((!(((a1.fld 1).i != (0 : Int)) == false)) || (((((a1.fld 1).i != (0 : Int)) == false) && (((a1.fld 1).i != (0 : Int)) == false)) && true)) then
 bif (bif ((a1.fld 1).i != (0 : Int)) then true else (((a1.fld 1).i != (0 : Int)) == false)) then
 bif (bif ((a1.fld 1).i != (0 : Int)) then (T.bool true) else (T.bool ((((a1.fld 2).es).length : Int) != ((((rt r2 0).fld 1).es).length : Int)))).b then
 some [(T.bool false)]
 else
 l_impl_valueFits_0 H a0 ((rt r2 0).fld 1) (a1.fld 2) (T.int (((a1.fld 2).es).length : Int)) (T.int (0 : Int))
 else
 none
 else
 none
 else
 none
 else
 none
 else
 none
 else
 none
 else
 none
 else
 none
 else
 none
 else
 none
 else
 none
 else
 none
 else
 none := by kernel_rfl
theorem q_impl_valueFits (H : List Item → CS → R) (C : CallsE) (a0 a1 : T) : enterE fi_impl_valueFits env H C [a0, a1] = b_impl_valueFits H C a0 a1 := by
 refine (e_impl_valueFits H C a0 a1).trans ?_
 unfold b_impl_valueFits
 all_goals cases hc : ((decide ((((a1.fld 3).es).length : Int) > (0 : Int)))) with
 | true =>
  try simp only [bs]
  all_goals kernel_rfl
 | false =>
  try simp only [bs]
  all_goals refine obind_congr fun r1 => ?_
  all_goals try simp only [bs]
  all_goals cases hc : ((!(rt r1 0).b)) with
  | true =>
   try simp only [bs]
   all_goals kernel_rfl
  | false =>
   try simp only [bs]
   all_goals cases hc : ((((a1.fld 0).s).toList == (⟨#[110]⟩ : ByteArray).toList)) with
   | true =>
    try simp only [bs]
    all_goals cases hc : ((decide ((a1.fld 1).i ≥ (0 : Int)))) with
    | true =>
     try simp only [bs]
     all_goals cases hc : ((decide ((a1.fld 1).i ≤ (1000000 : Int)))) with
     | true =>
      try simp only [bs]
      all_goals kernel_rfl
     | false =>
      try simp only [bs]
      all_goals kernel_rfl
    | false =>
     try simp only [bs]
     all_goals kernel_rfl
   | false =>
    try simp only [bs]
    all_goals cases hc : ((((a1.fld 0).s).toList == (⟨#[98]⟩ : ByteArray).toList)) with
    | true =>
     try simp only [bs]
     all_goals cases hc : (((a1.fld 1).i == (0 : Int))) with
     | true =>
      try simp only [bs]
      all_goals kernel_rfl
     | false =>
      try simp only [bs]
      all_goals cases hc : (((a1.fld 1).i == (1 : Int))) with
      | true =>
       try simp only [bs]
       all_goals kernel_rfl
      | false =>
       try simp only [bs]
       all_goals kernel_rfl
    | false =>
     try simp only [bs]
     all_goals cases hc : ((((a1.fld 0).s).toList == (⟨#[111]⟩ : ByteArray).toList)) with
     | true =>
      try simp only [bs]
      all_goals cases hc : ((decide ((a1.fld 1).i ≥ (0 : Int)))) with
      | true =>
       try simp only [bs]
       all_goals cases hc : ((decide ((a1.fld 1).i < (4 : Int)))) with
       | true =>
        try simp only [bs]
        all_goals kernel_rfl
       | false =>
        try simp only [bs]
        all_goals kernel_rfl
      | false =>
       try simp only [bs]
       all_goals kernel_rfl
     | false =>
      try simp only [bs]
      all_goals refine obind_congr fun r2 => ?_
      all_goals try simp only [bs]
      all_goals cases hc : (((a1.fld 1).i != (0 : Int))) with
      | true =>
       try simp only [bs]
       all_goals kernel_rfl
      | false =>
       try simp only [bs]
       all_goals cases hc : (((((a1.fld 2).es).length : Int) != ((((rt r2 0).fld 1).es).length : Int))) with
       | true =>
        try simp only [bs]
        all_goals kernel_rfl
       | false =>
        try simp only [bs]
        all_goals kernel_rfl
theorem y_impl_valueFits (a0 a1 : T) {r : List T} (h : Yields (fun k => b_impl_valueFits (hl env k fi_impl_valueFits) (cl env k) a0 a1) r) : Yields (fun k => cl env k F_impl_valueFits [a0, a1]) r := Yields.call (fi := fi_impl_valueFits) rfl rfl (fun H C => q_impl_valueFits H C a0 a1) h
noncomputable abbrev b_impl_valueFits_0 (H : List Item → CS → R) (C : CallsE) (x1 : T) (x2 : T) (x3 : T) (x4 : T) (x5 : T) : R :=
 bif (decide (x5.i < x4.i)) then
 bif (decide (0 ≤ x5.i) && decide (x5.i.toNat < x3.es.length)) then
 bif (decide (0 ≤ x5.i) && decide (x5.i.toNat < x2.es.length)) then
 bif (!((((x3.nth x5.i.toNat).fld 0).s).toList == ((x2.nth x5.i.toNat).s).toList)) then
 some [(T.bool false)]
 else
 obind (C F_impl_valueFits [x1, (x3.nth x5.i.toNat)]) fun r1 =>
 bif (!(rt r1 0).b) then
 some [(T.bool false)]
 else
 l_impl_valueFits_0 H x1 x2 x3 x4 (T.int (IntKind.wrap .i64 (x5.i + (1 : Int))))
 else
 none
 else
 none
 else
 some [(T.bool true)]
theorem e_impl_valueFits_0 (H : List Item → CS → R) (C : CallsE) (x1 : T) (x2 : T) (x3 : T) (x4 : T) (x5 : T) : headE fi_impl_valueFits env H C (hdAt fi_impl_valueFits.body 0) ([(0, .val 54 x1), (5, .val 56 x2), (86, .val 33 x3), (87, .val 3 x4), (88, .val 3 x5)], []) =
 bif (decide (x5.i < x4.i)) then
 bif (decide (0 ≤ x5.i) && decide (x5.i.toNat < x3.es.length)) then
 bif (decide (0 ≤ x5.i) && decide (x5.i.toNat < x2.es.length)) then
 bif ((!((!((((x3.nth x5.i.toNat).fld 0).s).toList == ((x2.nth x5.i.toNat).s).toList)) == false)) || true) then
 bif ((!((!((((x3.nth x5.i.toNat).fld 0).s).toList == ((x2.nth x5.i.toNat).s).toList)) == false)) || true) then
 bif ((!((!((((x3.nth x5.i.toNat).fld 0).s).toList == ((x2.nth x5.i.toNat).s).toList)) == false)) || (((!((((x3.nth x5.i.toNat).fld 0).s).toList == ((x2.nth x5.i.toNat).s).toList)) == false) && (((!((((x3.nth x5.i.toNat).fld 0).s).toList == ((x2.nth x5.i.toNat).s).toList)) == false) && true))) then
 obind ((bif ((!((((x3.nth x5.i.toNat).fld 0).s).toList == ((x2.nth x5.i.toNat).s).toList)) == false) then C F_impl_valueFits [x1, (x3.nth x5.i.toNat)] else some [])) fun r1 =>
 bif ((!((!((((x3.nth x5.i.toNat).fld 0).s).toList == ((x2.nth x5.i.toNat).s).toList)) == false)) || ((!((((x3.nth x5.i.toNat).fld 0).s).toList == ((x2.nth x5.i.toNat).s).toList)) == false)) then
 bif (bif (!((((x3.nth x5.i.toNat).fld 0).s).toList == ((x2.nth x5.i.toNat).s).toList)) then true else ((!((((x3.nth x5.i.toNat).fld 0).s).toList == ((x2.nth x5.i.toNat).s).toList)) == false)) then
 bif (bif (!((((x3.nth x5.i.toNat).fld 0).s).toList == ((x2.nth x5.i.toNat).s).toList)) then (T.bool true) else (T.bool (!(rt r1 0).b))).b then
 some [(T.bool false)]
 else
 l_impl_valueFits_0 H x1 x2 x3 x4 (T.int (IntKind.wrap .i64 (x5.i + (1 : Int))))
 else
 none
 else
 none
 else
 none
 else
 none
 else
 none
 else
 none
 else
 none
 else
 some [(T.bool true)] := by kernel_rfl
theorem q_impl_valueFits_0 (H : List Item → CS → R) (C : CallsE) (x1 : T) (x2 : T) (x3 : T) (x4 : T) (x5 : T) : headE fi_impl_valueFits env H C (hdAt fi_impl_valueFits.body 0) ([(0, .val 54 x1), (5, .val 56 x2), (86, .val 33 x3), (87, .val 3 x4), (88, .val 3 x5)], []) = b_impl_valueFits_0 H C x1 x2 x3 x4 x5 := by
 refine (e_impl_valueFits_0 H C x1 x2 x3 x4 x5).trans ?_
 unfold b_impl_valueFits_0
 all_goals cases hc : ((decide (x5.i < x4.i))) with
 | true =>
  try simp only [bs]
  all_goals cases hc : ((decide (0 ≤ x5.i) && decide (x5.i.toNat < x3.es.length))) with
  | true =>
   try simp only [bs]
   all_goals cases hc : ((decide (0 ≤ x5.i) && decide (x5.i.toNat < x2.es.length))) with
   | true =>
    try simp only [bs]
    all_goals cases hc : ((!((((x3.nth x5.i.toNat).fld 0).s).toList == ((x2.nth x5.i.toNat).s).toList))) with
    | true =>
     try simp only [bs]
     all_goals kernel_rfl
    | false =>
     try simp only [bs]
     all_goals refine obind_congr fun r1 => ?_
     all_goals try simp only [bs]
     all_goals cases hc : ((!(rt r1 0).b)) with
     | true =>
      try simp only [bs]
      all_goals kernel_rfl
     | false =>
      try simp only [bs]
      all_goals kernel_rfl
   | false =>
    try simp only [bs]
    all_goals kernel_rfl
  | false =>
   try simp only [bs]
   all_goals kernel_rfl
 | false =>
  try simp only [bs]
  all_goals kernel_rfl
theorem y_impl_valueFits_0 (x1 : T) (x2 : T) (x3 : T) (x4 : T) (x5 : T) {r : List T} (h : Yields (fun k => b_impl_valueFits_0 (hl env k fi_impl_valueFits) (cl env k) x1 x2 x3 x4 x5) r) : Yields (fun k => l_impl_valueFits_0 (hl env k fi_impl_valueFits) x1 x2 x3 x4 x5) r := Yields.head (fun H C => q_impl_valueFits_0 H C x1 x2 x3 x4 x5) h
/- loop.example/heirlooms/laws.eqModule -/
noncomputable abbrev b_laws_eqModule (H : List Item → CS → R) (C : CallsE) (a0 a1 : T) : R :=
 obind (C F_laws_eqRecordS [(a0.fld 0), (a1.fld 0)]) fun r1 =>
 bif (!(rt r1 0).b) then
 some [(T.bool false)]
 else
 obind (C F_laws_eqFuncS [(a0.fld 1), (a1.fld 1)]) fun r2 =>
 bif (!(rt r2 0).b) then
 some [(T.bool false)]
 else
 obind (C F_laws_eqIntS [(a0.fld 2), (a1.fld 2)]) fun r3 =>
 bif (!(rt r3 0).b) then
 some [(T.bool false)]
 else
 some [(T.bool true)]
theorem q_laws_eqModule (H : List Item → CS → R) (C : CallsE) (a0 a1 : T) : enterE fi_laws_eqModule env H C [a0, a1] = b_laws_eqModule H C a0 a1 := by kernel_rfl
theorem y_laws_eqModule (a0 a1 : T) {r : List T} (h : Yields (fun k => b_laws_eqModule (hl env k fi_laws_eqModule) (cl env k) a0 a1) r) : Yields (fun k => cl env k F_laws_eqModule [a0, a1]) r := Yields.call (fi := fi_laws_eqModule) rfl rfl (fun H C => q_laws_eqModule H C a0 a1) h
/- loop.example/heirlooms/laws.eqKept -/
noncomputable abbrev b_laws_eqKept (H : List Item → CS → R) (C : CallsE) (a0 a1 : T) : R :=
 bif ((a0.fld 0).i != (a1.fld 0).i) then
 some [(T.bool false)]
 else
 obind (C F_laws_eqValue [(a0.fld 1), (a1.fld 1)]) fun r1 =>
 bif (!(rt r1 0).b) then
 some [(T.bool false)]
 else
 some [(T.bool true)]
theorem q_laws_eqKept (H : List Item → CS → R) (C : CallsE) (a0 a1 : T) : enterE fi_laws_eqKept env H C [a0, a1] = b_laws_eqKept H C a0 a1 := by kernel_rfl
theorem y_laws_eqKept (a0 a1 : T) {r : List T} (h : Yields (fun k => b_laws_eqKept (hl env k fi_laws_eqKept) (cl env k) a0 a1) r) : Yields (fun k => cl env k F_laws_eqKept [a0, a1]) r := Yields.call (fi := fi_laws_eqKept) rfl rfl (fun H C => q_laws_eqKept H C a0 a1) h
/- loop.example/heirlooms/laws.eqValue -/
noncomputable abbrev b_laws_eqValue (H : List Item → CS → R) (C : CallsE) (a0 a1 : T) : R :=
 bif (!(((a0.fld 0).s).toList == ((a1.fld 0).s).toList)) then
 some [(T.bool false)]
 else
 bif ((a0.fld 1).i != (a1.fld 1).i) then
 some [(T.bool false)]
 else
 obind (C F_laws_eqValueS [(a0.fld 2), (a1.fld 2)]) fun r1 =>
 bif (!(rt r1 0).b) then
 some [(T.bool false)]
 else
 obind (C F_laws_eqIntS [(a0.fld 3), (a1.fld 3)]) fun r2 =>
 bif (!(rt r2 0).b) then
 some [(T.bool false)]
 else
 some [(T.bool true)]
theorem q_laws_eqValue (H : List Item → CS → R) (C : CallsE) (a0 a1 : T) : enterE fi_laws_eqValue env H C [a0, a1] = b_laws_eqValue H C a0 a1 := by kernel_rfl
theorem y_laws_eqValue (a0 a1 : T) {r : List T} (h : Yields (fun k => b_laws_eqValue (hl env k fi_laws_eqValue) (cl env k) a0 a1) r) : Yields (fun k => cl env k F_laws_eqValue [a0, a1]) r := Yields.call (fi := fi_laws_eqValue) rfl rfl (fun H C => q_laws_eqValue H C a0 a1) h
noncomputable def l_laws_szRecordS_0 (H : List Item → CS → R) (x1 : T) (x2 : T) (x3 : T) : R := H (hdAt fi_laws_szRecordS.body 0) ([(0, .val 40 x1), (1, .val 3 x2), (5, .val 3 x3)], [])
/- loop.example/heirlooms/laws.szRecordS -/
noncomputable abbrev b_laws_szRecordS (H : List Item → CS → R) (C : CallsE) (a0 a1 : T) : R :=
 bif (decide ((IntKind.wrap .i64 (a1.i - (a0.es.length : Int))) < (0 : Int))) then
 some [(T.int (-1 : Int))]
 else
 l_laws_szRecordS_0 H a0 (T.int (IntKind.wrap .i64 (a1.i - (a0.es.length : Int)))) (T.int (0 : Int))
theorem q_laws_szRecordS (H : List Item → CS → R) (C : CallsE) (a0 a1 : T) : enterE fi_laws_szRecordS env H C [a0, a1] = b_laws_szRecordS H C a0 a1 := by kernel_rfl
theorem y_laws_szRecordS (a0 a1 : T) {r : List T} (h : Yields (fun k => b_laws_szRecordS (hl env k fi_laws_szRecordS) (cl env k) a0 a1) r) : Yields (fun k => cl env k F_laws_szRecordS [a0, a1]) r := Yields.call (fi := fi_laws_szRecordS) rfl rfl (fun H C => q_laws_szRecordS H C a0 a1) h
noncomputable abbrev b_laws_szRecordS_0 (H : List Item → CS → R) (C : CallsE) (x1 : T) (x2 : T) (x3 : T) : R :=
 bif (decide (x3.i < (x1.es.length : Int))) then
 bif (decide (0 ≤ x3.i) && decide (x3.i.toNat < x1.es.length)) then
 obind (C F_laws_szRecord [(x1.nth x3.i.toNat), x2]) fun r1 =>
 bif (decide ((rt r1 0).i < (0 : Int))) then
 some [(T.int (-1 : Int))]
 else
 l_laws_szRecordS_0 H x1 (rt r1 0) (T.int (IntKind.wrap .i64 (x3.i + (1 : Int))))
 else
 none
 else
 some [x2]
theorem q_laws_szRecordS_0 (H : List Item → CS → R) (C : CallsE) (x1 : T) (x2 : T) (x3 : T) : headE fi_laws_szRecordS env H C (hdAt fi_laws_szRecordS.body 0) ([(0, .val 40 x1), (1, .val 3 x2), (5, .val 3 x3)], []) = b_laws_szRecordS_0 H C x1 x2 x3 := by kernel_rfl
theorem y_laws_szRecordS_0 (x1 : T) (x2 : T) (x3 : T) {r : List T} (h : Yields (fun k => b_laws_szRecordS_0 (hl env k fi_laws_szRecordS) (cl env k) x1 x2 x3) r) : Yields (fun k => l_laws_szRecordS_0 (hl env k fi_laws_szRecordS) x1 x2 x3) r := Yields.head (fun H C => q_laws_szRecordS_0 H C x1 x2 x3) h
noncomputable def l_laws_szFuncS_0 (H : List Item → CS → R) (x1 : T) (x2 : T) (x3 : T) : R := H (hdAt fi_laws_szFuncS.body 0) ([(0, .val 41 x1), (1, .val 3 x2), (5, .val 3 x3)], [])
/- loop.example/heirlooms/laws.szFuncS -/
noncomputable abbrev b_laws_szFuncS (H : List Item → CS → R) (C : CallsE) (a0 a1 : T) : R :=
 bif (decide ((IntKind.wrap .i64 (a1.i - (a0.es.length : Int))) < (0 : Int))) then
 some [(T.int (-1 : Int))]
 else
 l_laws_szFuncS_0 H a0 (T.int (IntKind.wrap .i64 (a1.i - (a0.es.length : Int)))) (T.int (0 : Int))
theorem q_laws_szFuncS (H : List Item → CS → R) (C : CallsE) (a0 a1 : T) : enterE fi_laws_szFuncS env H C [a0, a1] = b_laws_szFuncS H C a0 a1 := by kernel_rfl
theorem y_laws_szFuncS (a0 a1 : T) {r : List T} (h : Yields (fun k => b_laws_szFuncS (hl env k fi_laws_szFuncS) (cl env k) a0 a1) r) : Yields (fun k => cl env k F_laws_szFuncS [a0, a1]) r := Yields.call (fi := fi_laws_szFuncS) rfl rfl (fun H C => q_laws_szFuncS H C a0 a1) h
noncomputable abbrev b_laws_szFuncS_0 (H : List Item → CS → R) (C : CallsE) (x1 : T) (x2 : T) (x3 : T) : R :=
 bif (decide (x3.i < (x1.es.length : Int))) then
 bif (decide (0 ≤ x3.i) && decide (x3.i.toNat < x1.es.length)) then
 obind (C F_laws_szFunc [(x1.nth x3.i.toNat), x2]) fun r1 =>
 bif (decide ((rt r1 0).i < (0 : Int))) then
 some [(T.int (-1 : Int))]
 else
 l_laws_szFuncS_0 H x1 (rt r1 0) (T.int (IntKind.wrap .i64 (x3.i + (1 : Int))))
 else
 none
 else
 some [x2]
theorem q_laws_szFuncS_0 (H : List Item → CS → R) (C : CallsE) (x1 : T) (x2 : T) (x3 : T) : headE fi_laws_szFuncS env H C (hdAt fi_laws_szFuncS.body 0) ([(0, .val 41 x1), (1, .val 3 x2), (5, .val 3 x3)], []) = b_laws_szFuncS_0 H C x1 x2 x3 := by kernel_rfl
theorem y_laws_szFuncS_0 (x1 : T) (x2 : T) (x3 : T) {r : List T} (h : Yields (fun k => b_laws_szFuncS_0 (hl env k fi_laws_szFuncS) (cl env k) x1 x2 x3) r) : Yields (fun k => l_laws_szFuncS_0 (hl env k fi_laws_szFuncS) x1 x2 x3) r := Yields.head (fun H C => q_laws_szFuncS_0 H C x1 x2 x3) h
/- loop.example/heirlooms/laws.szIntS -/
noncomputable abbrev b_laws_szIntS (H : List Item → CS → R) (C : CallsE) (a0 a1 : T) : R :=
 bif (decide ((IntKind.wrap .i64 (a1.i - (a0.es.length : Int))) < (0 : Int))) then
 some [(T.int (-1 : Int))]
 else
 some [(T.int (IntKind.wrap .i64 (a1.i - (a0.es.length : Int))))]
theorem q_laws_szIntS (H : List Item → CS → R) (C : CallsE) (a0 a1 : T) : enterE fi_laws_szIntS env H C [a0, a1] = b_laws_szIntS H C a0 a1 := by kernel_rfl
theorem y_laws_szIntS (a0 a1 : T) {r : List T} (h : Yields (fun k => b_laws_szIntS (hl env k fi_laws_szIntS) (cl env k) a0 a1) r) : Yields (fun k => cl env k F_laws_szIntS [a0, a1]) r := Yields.call (fi := fi_laws_szIntS) rfl rfl (fun H C => q_laws_szIntS H C a0 a1) h
/- loop.example/heirlooms/spec.KindsOk -/
noncomputable abbrev b_spec_KindsOk (H : List Item → CS → R) (C : CallsE) (a0 : T) : R :=
 obind (C F_spec_KindsBad [a0]) fun r1 =>
 some [(T.bool (decide ((rt r1 0).i < (0 : Int))))]
theorem q_spec_KindsOk (H : List Item → CS → R) (C : CallsE) (a0 : T) : enterE fi_spec_KindsOk env H C [a0] = b_spec_KindsOk H C a0 := by kernel_rfl
theorem y_spec_KindsOk (a0 : T) {r : List T} (h : Yields (fun k => b_spec_KindsOk (hl env k fi_spec_KindsOk) (cl env k) a0) r) : Yields (fun k => cl env k F_spec_KindsOk [a0]) r := Yields.call (fi := fi_spec_KindsOk) rfl rfl (fun H C => q_spec_KindsOk H C a0) h
noncomputable def l_spec_l4Rises_0 (H : List Item → CS → R) (x1 : T) (x2 : T) (x3 : T) (x4 : T) : R := H (hdAt fi_spec_l4Rises.body 0) ([(0, .val 42 x1), (1, .val 3 x2), (2, .val 3 x3), (7, .val 3 x4)], [])
/- loop.example/heirlooms/spec.l4Rises -/
noncomputable abbrev b_spec_l4Rises (H : List Item → CS → R) (C : CallsE) (a0 a1 a2 : T) : R :=
 l_spec_l4Rises_0 H a0 a1 a2 (T.int (0 : Int))
theorem q_spec_l4Rises (H : List Item → CS → R) (C : CallsE) (a0 a1 a2 : T) : enterE fi_spec_l4Rises env H C [a0, a1, a2] = b_spec_l4Rises H C a0 a1 a2 := by kernel_rfl
theorem y_spec_l4Rises (a0 a1 a2 : T) {r : List T} (h : Yields (fun k => b_spec_l4Rises (hl env k fi_spec_l4Rises) (cl env k) a0 a1 a2) r) : Yields (fun k => cl env k F_spec_l4Rises [a0, a1, a2]) r := Yields.call (fi := fi_spec_l4Rises) rfl rfl (fun H C => q_spec_l4Rises H C a0 a1 a2) h
noncomputable abbrev b_spec_l4Rises_0 (H : List Item → CS → R) (C : CallsE) (x1 : T) (x2 : T) (x3 : T) (x4 : T) : R :=
 bif (decide (x4.i < (x1.es.length : Int))) then
 bif (decide (0 ≤ x4.i) && decide (x4.i.toNat < x1.es.length)) then
 obind (C F_spec_l6In [(x1.nth x4.i.toNat), x2, x3]) fun r1 =>
 bif (!(rt r1 0).b) then
 some [(T.bool false)]
 else
 bif (decide (x4.i > (0 : Int))) then
 bif (decide (0 ≤ (IntKind.wrap .i64 (x4.i - (1 : Int)))) && decide ((IntKind.wrap .i64 (x4.i - (1 : Int))).toNat < x1.es.length)) then
 bif (decide ((x1.nth ((IntKind.wrap .i64 (x4.i - (1 : Int))).toNat)).i ≥ (x1.nth x4.i.toNat).i)) then
 some [(T.bool false)]
 else
 l_spec_l4Rises_0 H x1 x2 x3 (T.int (IntKind.wrap .i64 (x4.i + (1 : Int))))
 else
 none
 else
 l_spec_l4Rises_0 H x1 x2 x3 (T.int (IntKind.wrap .i64 (x4.i + (1 : Int))))
 else
 none
 else
 some [(T.bool true)]
theorem e_spec_l4Rises_0 (H : List Item → CS → R) (C : CallsE) (x1 : T) (x2 : T) (x3 : T) (x4 : T) : headE fi_spec_l4Rises env H C (hdAt fi_spec_l4Rises.body 0) ([(0, .val 42 x1), (1, .val 3 x2), (2, .val 3 x3), (7, .val 3 x4)], []) =
 bif (decide (x4.i < (x1.es.length : Int))) then
 bif (decide (0 ≤ x4.i) && decide (x4.i.toNat < x1.es.length)) then
 obind (C F_spec_l6In [(x1.nth x4.i.toNat), x2, x3]) fun r1 =>
 bif ((!((!(rt r1 0).b) == false)) || true) then
 bif ((!((!(rt r1 0).b) == false)) || ((((!(rt r1 0).b) == false) && true) && true)) then
 bif ((!((!(rt r1 0).b) == false)) || ((!(rt r1 0).b) == false)) then
 bif ((!(((!(rt r1 0).b) == false) && ((decide (x4.i > (0 : Int))) == true))) || true) then
 bif ((!(((!(rt r1 0).b) == false) && ((decide (x4.i > (0 : Int))) == true))) || true) then
 bif ((!(((!(rt r1 0).b) == false) && ((decide (x4.i > (0 : Int))) == true))) || (((((!(rt r1 0).b) == false) && ((decide (x4.i > (0 : Int))) == true)) && true) && true)) then
 bif ((!(((!(rt r1 0).b) == false) && ((decide (x4.i > (0 : Int))) == true))) || (((((!(rt r1 0).b) == false) && ((decide (x4.i > (0 : Int))) == true)) && ((((!(rt r1 0).b) == false) && ((decide (x4.i > (0 : Int))) == true)) && true)) && (decide (0 ≤ (IntKind.wrap .i64 (x4.i - (1 : Int)))) && decide ((IntKind.wrap .i64 (x4.i - (1 : Int))).toNat < x1.es.length)))) then
 bif ((!(((!(rt r1 0).b) == false) && ((decide (x4.i > (0 : Int))) == true))) || (((!(rt r1 0).b) == false) && ((decide (x4.i > (0 : Int))) == true))) then
 bif ((!(((!(rt r1 0).b) == false) && ((decide (x4.i > (0 : Int))) == true))) || true) then
 bif ((!(((!(rt r1 0).b) == false) && ((decide (x4.i > (0 : Int))) == true))) || true) then
 bif ((!(((!(rt r1 0).b) == false) && ((decide (x4.i > (0 : Int))) == true))) || (((((!(rt r1 0).b) == false) && ((decide (x4.i > (0 : Int))) == true)) && ((((!(rt r1 0).b) == false) && ((decide (x4.i > (0 : Int))) == true)) && true)) && (decide (0 ≤ x4.i) && decide (x4.i.toNat < x1.es.length)))) then
 bif ((!(((!(rt r1 0).b) == false) && ((decide (x4.i > (0 : Int))) == true))) || (((!(rt r1 0).b) == false) && ((decide (x4.i > (0 : Int))) == true))) then
 bif ((!(((!(rt r1 0).b) == false) && ((decide (x4.i > (0 : Int))) == true))) || (((((!(rt r1 0).b) == false) && ((decide (x4.i > (0 : Int))) == true)) && (((!(rt r1 0).b) == false) && ((decide (x4.i > (0 : Int))) == true))) && true)) then
 bif ((!((!(rt r1 0).b) == false)) || (((!(rt r1 0).b) == false) && (bif (decide (x4.i > (0 : Int))) then (((!(rt r1 0).b) == false) && ((decide (x4.i > (0 : Int))) == true)) else true))) then
 bif (bif (!(rt r1 0).b) then true else ((!(rt r1 0).b) == false)) then
 bif (bif (!(rt r1 0).b) then (T.bool true) else (bif (decide (x4.i > (0 : Int))) then (T.bool (decide ((x1.nth ((IntKind.wrap .i64 (x4.i - (1 : Int))).toNat)).i ≥ (x1.nth x4.i.toNat).i))) else (T.bool false))).b then
 some [(T.bool false)]
 else
 l_spec_l4Rises_0 H x1 x2 x3 (T.int (IntKind.wrap .i64 (x4.i + (1 : Int))))
 else
 none
 else
 none
 else
 none
 else
 none
 else
 none
 else
 none
 else
 none
 else
 none
 else
 none
 else
 none
 else
 none
 else
 none
 else
 none
 else
 none
 else
 none
 else
 none
 else
 some [(T.bool true)] := by kernel_rfl
theorem q_spec_l4Rises_0 (H : List Item → CS → R) (C : CallsE) (x1 : T) (x2 : T) (x3 : T) (x4 : T) : headE fi_spec_l4Rises env H C (hdAt fi_spec_l4Rises.body 0) ([(0, .val 42 x1), (1, .val 3 x2), (2, .val 3 x3), (7, .val 3 x4)], []) = b_spec_l4Rises_0 H C x1 x2 x3 x4 := by
 refine (e_spec_l4Rises_0 H C x1 x2 x3 x4).trans ?_
 unfold b_spec_l4Rises_0
 all_goals cases hc : ((decide (x4.i < (x1.es.length : Int)))) with
 | true =>
  try simp only [bs]
  all_goals cases hc : ((decide (0 ≤ x4.i) && decide (x4.i.toNat < x1.es.length))) with
  | true =>
   try simp only [bs]
   all_goals refine obind_congr fun r1 => ?_
   all_goals try simp only [bs]
   all_goals cases hc : ((!(rt r1 0).b)) with
   | true =>
    try simp only [bs]
    all_goals cases hc : ((decide (x4.i > (0 : Int)))) with
    | true =>
     try simp only [bs]
     all_goals kernel_rfl
    | false =>
     try simp only [bs]
     all_goals kernel_rfl
   | false =>
    try simp only [bs]
    all_goals cases hc : ((decide (x4.i > (0 : Int)))) with
    | true =>
     try simp only [bs]
     all_goals cases hc : ((decide (0 ≤ (IntKind.wrap .i64 (x4.i - (1 : Int)))) && decide ((IntKind.wrap .i64 (x4.i - (1 : Int))).toNat < x1.es.length))) with
     | true =>
      try simp only [bs]
      all_goals cases hc : ((decide ((x1.nth ((IntKind.wrap .i64 (x4.i - (1 : Int))).toNat)).i ≥ (x1.nth x4.i.toNat).i))) with
      | true =>
       try simp only [bs]
       all_goals kernel_rfl
      | false =>
       try simp only [bs]
       all_goals kernel_rfl
     | false =>
      try simp only [bs]
      all_goals kernel_rfl
    | false =>
     try simp only [bs]
     all_goals kernel_rfl
  | false =>
   try simp only [bs]
   all_goals kernel_rfl
 | false =>
  try simp only [bs]
  all_goals kernel_rfl
theorem y_spec_l4Rises_0 (x1 : T) (x2 : T) (x3 : T) (x4 : T) {r : List T} (h : Yields (fun k => b_spec_l4Rises_0 (hl env k fi_spec_l4Rises) (cl env k) x1 x2 x3 x4) r) : Yields (fun k => l_spec_l4Rises_0 (hl env k fi_spec_l4Rises) x1 x2 x3 x4) r := Yields.head (fun H C => q_spec_l4Rises_0 H C x1 x2 x3 x4) h
/- loop.example/heirlooms/spec.l4Func -/
noncomputable abbrev b_spec_l4Func (H : List Item → CS → R) (C : CallsE) (a0 a1 a2 : T) : R :=
 obind (C F_spec_l6In [(a2.fld 0), (T.int (0 : Int)), (T.int (2 : Int))]) fun r1 =>
 bif (!(rt r1 0).b) then
 some [(T.bool false)]
 else
 bif (decide ((((a2.fld 1).es).length : Int) > (3 : Int))) then
 some [(T.bool false)]
 else
 bif (decide ((((a2.fld 2).es).length : Int) > (3 : Int))) then
 some [(T.bool false)]
 else
 bif (decide ((IntKind.wrap .i64 ((((a2.fld 1).es).length : Int) + (((a2.fld 3).es).length : Int))) > (6 : Int))) then
 some [(T.bool false)]
 else
 bif (decide (0 ≤ (0 : Int)) && (decide ((0 : Int) ≤ (IntKind.wrap .i64 (a1.i + (1 : Int)))) && (decide ((IntKind.wrap .i64 (a1.i + (1 : Int))) ≤ (a0.es.length : Int)) && decide ((a0.es.length : Int) ≤ (a0.es.length : Int))))) then
 obind (C F_spec_l4Types [(T.sl ((a0.es.take ((IntKind.wrap .i64 (a1.i + (1 : Int))).toNat)).drop 0)), (a2.fld 1)]) fun r2 =>
 bif (rt r2 0).b then
 obind (C F_spec_l4Types [(T.sl ((a0.es.take ((IntKind.wrap .i64 (a1.i + (1 : Int))).toNat)).drop 0)), (a2.fld 2)]) fun r3 =>
 bif (rt r3 0).b then
 obind (C F_spec_l4Types [(T.sl ((a0.es.take ((IntKind.wrap .i64 (a1.i + (1 : Int))).toNat)).drop 0)), (a2.fld 3)]) fun r4 =>
 bif (rt r4 0).b then
 bif (decide (0 ≤ a1.i) && decide (a1.i.toNat < a0.es.length)) then
 obind (C F_spec_l4Rises [(a2.fld 4), (T.int (0 : Int)), (T.int (IntKind.wrap .i64 ((((a0.nth a1.i.toNat).es).length : Int) - (1 : Int))))]) fun r5 =>
 bif (rt r5 0).b then
 obind (C F_spec_l4Code [a1, (a2.fld 5)]) fun r6 =>
 some [(rt r6 0)]
 else
 some [(T.bool false)]
 else
 none
 else
 some [(T.bool false)]
 else
 some [(T.bool false)]
 else
 some [(T.bool false)]
 else
 none
theorem e_spec_l4Func (H : List Item → CS → R) (C : CallsE) (a0 a1 a2 : T) : enterE fi_spec_l4Func env H C [a0, a1, a2] =
 obind (C F_spec_l6In [(a2.fld 0), (T.int (0 : Int)), (T.int (2 : Int))]) fun r1 =>
 bif ((!((!(rt r1 0).b) == false)) || true) then
 bif ((!((!(rt r1 0).b) == false)) || ((!(rt r1 0).b) == false)) then
 bif ((!((!(rt r1 0).b) == false)) || ((!(rt r1 0).b) == false)) then
 bif ((!((!(rt r1 0).b) == false)) || ((((!(rt r1 0).b) == false) && true) && true)) then
 bif (bif (!(rt r1 0).b) then true else ((!(rt r1 0).b) == false)) then
 bif ((!((bif (!(rt r1 0).b) then (T.bool true) else (T.bool (decide ((((a2.fld 1).es).length : Int) > (3 : Int))))).b == false)) || true) then
 bif ((!((bif (!(rt r1 0).b) then (T.bool true) else (T.bool (decide ((((a2.fld 1).es).length : Int) > (3 : Int))))).b == false)) || ((bif (!(rt r1 0).b) then (T.bool true) else (T.bool (decide ((((a2.fld 1).es).length : Int) > (3 : Int))))).b == false)) then
 bif ((!((bif (!(rt r1 0).b) then (T.bool true) else (T.bool (decide ((((a2.fld 1).es).length : Int) > (3 : Int))))).b == false)) || ((bif (!(rt r1 0).b) then (T.bool true) else (T.bool (decide ((((a2.fld 1).es).length : Int) > (3 : Int))))).b == false)) then
 bif ((!((bif (!(rt r1 0).b) then (T.bool true) else (T.bool (decide ((((a2.fld 1).es).length : Int) > (3 : Int))))).b == false)) || ((((bif (!(rt r1 0).b) then (T.bool true) else (T.bool (decide ((((a2.fld 1).es).length : Int) > (3 : Int))))).b == false) && true) && true)) then
 bif (bif (bif (!(rt r1 0).b) then (T.bool true) else (T.bool (decide ((((a2.fld 1).es).length : Int) > (3 : Int))))).b then true else ((bif (!(rt r1 0).b) then (T.bool true) else (T.bool (decide ((((a2.fld 1).es).length : Int) > (3 : Int))))).b == false)) then
 bif ((!((bif (bif (!(rt r1 0).b) then (T.bool true) else (T.bool (decide ((((a2.fld 1).es).length : Int) > (3 : Int))))).b then (T.bool true) else (T.bool (decide ((((a2.fld 2).es).length : Int) > (3 : Int))))).b == false)) || true) then
 bif ((!((bif (bif (!(rt r1 0).b) then (T.bool true) else (T.bool (decide ((((a2.fld 1).es).length : Int) > (3 : Int))))).b then (T.bool true) else (T.bool (decide ((((a2.fld 2).es).length : Int) > (3 : Int))))).b == false)) || ((bif (bif (!(rt r1 0).b) then (T.bool true) else (T.bool (decide ((((a2.fld 1).es).length : Int) > (3 : Int))))).b then (T.bool true) else (T.bool (decide ((((a2.fld 2).es).length : Int) > (3 : Int))))).b == false)) then
 bif ((!((bif (bif (!(rt r1 0).b) then (T.bool true) else (T.bool (decide ((((a2.fld 1).es).length : Int) > (3 : Int))))).b then (T.bool true) else (T.bool (decide ((((a2.fld 2).es).length : Int) > (3 : Int))))).b == false)) || ((bif (bif (!(rt r1 0).b) then (T.bool true) else (T.bool (decide ((((a2.fld 1).es).length : Int) > (3 : Int))))).b then (T.bool true) else (T.bool (decide ((((a2.fld 2).es).length : Int) > (3 : Int))))).b == false)) then
 bif ((!((bif (bif (!(rt r1 0).b) then (T.bool true) else (T.bool (decide ((((a2.fld 1).es).length : Int) > (3 : Int))))).b then (T.bool true) else (T.bool (decide ((((a2.fld 2).es).length : Int) > (3 : Int))))).b == false)) || true) then
 bif ((!((bif (bif (!(rt r1 0).b) then (T.bool true) else (T.bool (decide ((((a2.fld 1).es).length : Int) > (3 : Int))))).b then (T.bool true) else (T.bool (decide ((((a2.fld 2).es).length : Int) > (3 : Int))))).b == false)) || ((bif (bif (!(rt r1 0).b) then (T.bool true) else (T.bool (decide ((((a2.fld 1).es).length : Int) > (3 : Int))))).b then (T.bool true) else (T.bool (decide ((((a2.fld 2).es).length : Int) > (3 : Int))))).b == false)) then
 bif ((!((bif (bif (!(rt r1 0).b) then (T.bool true) else (T.bool (decide ((((a2.fld 1).es).length : Int) > (3 : Int))))).b then (T.bool true) else (T.bool (decide ((((a2.fld 2).es).length : Int) > (3 : Int))))).b == false)) || ((bif (bif (!(rt r1 0).b) then (T.bool true) else (T.bool (decide ((((a2.fld 1).es).length : Int) > (3 : Int))))).b then (T.bool true) else (T.bool (decide ((((a2.fld 2).es).length : Int) > (3 : Int))))).b == false)) then
 bif ((!((bif (bif (!(rt r1 0).b) then (T.bool true) else (T.bool (decide ((((a2.fld 1).es).length : Int) > (3 : Int))))).b then (T.bool true) else (T.bool (decide ((((a2.fld 2).es).length : Int) > (3 : Int))))).b == false)) || ((((bif (bif (!(rt r1 0).b) then (T.bool true) else (T.bool (decide ((((a2.fld 1).es).length : Int) > (3 : Int))))).b then (T.bool true) else (T.bool (decide ((((a2.fld 2).es).length : Int) > (3 : Int))))).b == false) && ((bif (bif (!(rt r1 0).b) then (T.bool true) else (T.bool (decide ((((a2.fld 1).es).length : Int) > (3 : Int))))).b then (T.bool true) else (T.bool (decide ((((a2.fld 2).es).length : Int) > (3 : Int))))).b == false)) && true)) then
 bif ((!((bif (bif (!(rt r1 0).b) then (T.bool true) else (T.bool (decide ((((a2.fld 1).es).length : Int) > (3 : Int))))).b then (T.bool true) else (T.bool (decide ((((a2.fld 2).es).length : Int) > (3 : Int))))).b == false)) || ((((bif (bif (!(rt r1 0).b) then (T.bool true) else (T.bool (decide ((((a2.fld 1).es).length : Int) > (3 : Int))))).b then (T.bool true) else (T.bool (decide ((((a2.fld 2).es).length : Int) > (3 : Int))))).b == false) && true) && true)) then
 bif (bif (bif (bif (!(rt r1 0).b) then (T.bool true) else (T.bool (decide ((((a2.fld 1).es).length : Int) > (3 : Int))))).b then (T.bool true) else (T.bool (decide ((((a2.fld 2).es).length : Int) > (3 : Int))))).b then true else ((bif (bif (!(rt r1 0).b) then (T.bool true) else (T.bool (decide ((((a2.fld 1).es).length : Int) > (3 : Int))))).b then (T.bool true) else (T.bool (decide ((((a2.fld 2).es).length : Int) > (3 : Int))))).b == false)) then
 bif (bif (bif (bif (!(rt r1 0).b) then (T.bool true) else (T.bool (decide ((((a2.fld 1).es).length : Int) > (3 : Int))))).b then (T.bool true) else (T.bool (decide ((((a2.fld 2).es).length : Int) > (3 : Int))))).b then (T.bool true) else (T.bool (decide ((IntKind.wrap .i64 ((((a2.fld 1).es).length : Int) + (((a2.fld 3).es).length : Int))) > (6 : Int))))).b then
 some [(T.bool false)]
 else
 bif (decide (0 ≤ (0 : Int)) && (decide ((0 : Int) ≤ (IntKind.wrap .i64 (a1.i + (1 : Int)))) && (decide ((IntKind.wrap .i64 (a1.i + (1 : Int))) ≤ (a0.es.length : Int)) && decide ((a0.es.length : Int) ≤ (a0.es.length : Int))))) then
 obind (C F_spec_l4Types [(T.sl ((a0.es.take ((IntKind.wrap .i64 (a1.i + (1 : Int))).toNat)).drop 0)), (a2.fld 1)]) fun r2 =>
 bif ((!((rt r2 0).b == true)) || true) then
 bif ((!((rt r2 0).b == true)) || true) then
 bif ((!((rt r2 0).b == true)) || ((rt r2 0).b == true)) then
 bif ((!((rt r2 0).b == true)) || (((rt r2 0).b == true) && (((rt r2 0).b == true) && true))) then
 obind ((bif ((rt r2 0).b == true) then C F_spec_l4Types [(T.sl ((a0.es.take ((IntKind.wrap .i64 (a1.i + (1 : Int))).toNat)).drop 0)), (a2.fld 2)] else some [])) fun r3 =>
 bif (bif (rt r2 0).b then ((rt r2 0).b == true) else true) then
 bif ((!((bif (rt r2 0).b then (rt r3 0) else (T.bool false)).b == true)) || true) then
 bif ((!((bif (rt r2 0).b then (rt r3 0) else (T.bool false)).b == true)) || true) then
 bif ((!((bif (rt r2 0).b then (rt r3 0) else (T.bool false)).b == true)) || ((bif (rt r2 0).b then (rt r3 0) else (T.bool false)).b == true)) then
 bif ((!((bif (rt r2 0).b then (rt r3 0) else (T.bool false)).b == true)) || (((bif (rt r2 0).b then (rt r3 0) else (T.bool false)).b == true) && (((bif (rt r2 0).b then (rt r3 0) else (T.bool false)).b == true) && true))) then
 obind ((bif ((bif (rt r2 0).b then (rt r3 0) else (T.bool false)).b == true) then C F_spec_l4Types [(T.sl ((a0.es.take ((IntKind.wrap .i64 (a1.i + (1 : Int))).toNat)).drop 0)), (a2.fld 3)] else some [])) fun r4 =>
 bif (bif (bif (rt r2 0).b then (rt r3 0) else (T.bool false)).b then ((bif (rt r2 0).b then (rt r3 0) else (T.bool false)).b == true) else true) then
 bif ((!((bif (bif (rt r2 0).b then (rt r3 0) else (T.bool false)).b then (rt r4 0) else (T.bool false)).b == true)) || true) then
 bif ((!((bif (bif (rt r2 0).b then (rt r3 0) else (T.bool false)).b then (rt r4 0) else (T.bool false)).b == true)) || ((bif (bif (rt r2 0).b then (rt r3 0) else (T.bool false)).b then (rt r4 0) else (T.bool false)).b == true)) then
 bif ((!((bif (bif (rt r2 0).b then (rt r3 0) else (T.bool false)).b then (rt r4 0) else (T.bool false)).b == true)) || true) then
 bif ((!((bif (bif (rt r2 0).b then (rt r3 0) else (T.bool false)).b then (rt r4 0) else (T.bool false)).b == true)) || true) then
 bif ((!((bif (bif (rt r2 0).b then (rt r3 0) else (T.bool false)).b then (rt r4 0) else (T.bool false)).b == true)) || ((((bif (bif (rt r2 0).b then (rt r3 0) else (T.bool false)).b then (rt r4 0) else (T.bool false)).b == true) && (((bif (bif (rt r2 0).b then (rt r3 0) else (T.bool false)).b then (rt r4 0) else (T.bool false)).b == true) && true)) && (decide (0 ≤ a1.i) && decide (a1.i.toNat < a0.es.length)))) then
 bif ((!((bif (bif (rt r2 0).b then (rt r3 0) else (T.bool false)).b then (rt r4 0) else (T.bool false)).b == true)) || ((bif (bif (rt r2 0).b then (rt r3 0) else (T.bool false)).b then (rt r4 0) else (T.bool false)).b == true)) then
 bif ((!((bif (bif (rt r2 0).b then (rt r3 0) else (T.bool false)).b then (rt r4 0) else (T.bool false)).b == true)) || ((bif (bif (rt r2 0).b then (rt r3 0) else (T.bool false)).b then (rt r4 0) else (T.bool false)).b == true)) then
 bif ((!((bif (bif (rt r2 0).b then (rt r3 0) else (T.bool false)).b then (rt r4 0) else (T.bool false)).b == true)) || ((((bif (bif (rt r2 0).b then (rt r3 0) else (T.bool false)).b then (rt r4 0) else (T.bool false)).b == true) && true) && true)) then
 bif ((!((bif (bif (rt r2 0).b then (rt r3 0) else (T.bool false)).b then (rt r4 0) else (T.bool false)).b == true)) || (((bif (bif (rt r2 0).b then (rt r3 0) else (T.bool false)).b then (rt r4 0) else (T.bool false)).b == true) && (((bif (bif (rt r2 0).b then (rt r3 0) else (T.bool false)).b then (rt r4 0) else (T.bool false)).b == true) && true))) then
 obind ((bif ((bif (bif (rt r2 0).b then (rt r3 0) else (T.bool false)).b then (rt r4 0) else (T.bool false)).b == true) then C F_spec_l4Rises [(a2.fld 4), (T.int (0 : Int)), (T.int (IntKind.wrap .i64 ((((a0.nth a1.i.toNat).es).length : Int) - (1 : Int))))] else some [])) fun r5 =>
 bif (bif (bif (bif (rt r2 0).b then (rt r3 0) else (T.bool false)).b then (rt r4 0) else (T.bool false)).b then ((bif (bif (rt r2 0).b then (rt r3 0) else (T.bool false)).b then (rt r4 0) else (T.bool false)).b == true) else true) then
 bif ((!((bif (bif (bif (rt r2 0).b then (rt r3 0) else (T.bool false)).b then (rt r4 0) else (T.bool false)).b then (rt r5 0) else (T.bool false)).b == true)) || true) then
 bif ((!((bif (bif (bif (rt r2 0).b then (rt r3 0) else (T.bool false)).b then (rt r4 0) else (T.bool false)).b then (rt r5 0) else (T.bool false)).b == true)) || true) then
 bif ((!((bif (bif (bif (rt r2 0).b then (rt r3 0) else (T.bool false)).b then (rt r4 0) else (T.bool false)).b then (rt r5 0) else (T.bool false)).b == true)) || ((bif (bif (bif (rt r2 0).b then (rt r3 0) else (T.bool false)).b then (rt r4 0) else (T.bool false)).b then (rt r5 0) else (T.bool false)).b == true)) then
 bif ((!((bif (bif (bif (rt r2 0).b then (rt r3 0) else (T.bool false)).b then (rt r4 0) else (T.bool false)).b then (rt r5 0) else (T.bool false)).b == true)) || (((bif (bif (bif (rt r2 0).b then (rt r3 0) else (T.bool false)).b then (rt r4 0) else (T.bool false)).b then (rt r5 0) else (T.bool false)).b == true) && (((bif (bif (bif (rt r2 0).b then (rt r3 0) else (T.bool false)).b then (rt r4 0) else (T.bool false)).b then (rt r5 0) else (T.bool false)).b == true) && true))) then
 obind ((bif ((bif (bif (bif (rt r2 0).b then (rt r3 0) else (T.bool false)).b then (rt r4 0) else (T.bool false)).b then (rt r5 0) else (T.bool false)).b == true) then C F_spec_l4Code [a1, (a2.fld 5)] else some [])) fun r6 =>
 bif (bif (bif (bif (bif (rt r2 0).b then (rt r3 0) else (T.bool false)).b then (rt r4 0) else (T.bool false)).b then (rt r5 0) else (T.bool false)).b then ((bif (bif (bif (rt r2 0).b then (rt r3 0) else (T.bool false)).b then (rt r4 0) else (T.bool false)).b then (rt r5 0) else (T.bool false)).b == true) else true) then
 some [(bif (bif (bif (bif (rt r2 0).b then (rt r3 0) else (T.bool false)).b then (rt r4 0) else (T.bool false)).b then (rt r5 0) else (T.bool false)).b then (rt r6 0) else (T.bool false))]
 else
 none
 else
 none
 else
 none
 else
 none
 else
 none
 else
 none
 else
 none
 else
 none
 else
 none
 else
 none
 else
 none
 else
 none
 else
 none
 else
 none
 else
 none
 else
 none
 else
 none
 else
 none
 else
 none
 else
 none
 else
 none
 else
 none
 else
 none
 else
 none
 else
 none
 else
 none
 else
 none
 else
 none
 else
 none
 else
 none
 else
 none
 else
 none
 else
 none
 else
 none
 else
 none
 else
 none
 else
 none
 else
 none
 else
 none
 else
 none
 else
 none
 else
 none
 else
 none
 else
 none
 else
 none := by kernel_rfl
theorem q_spec_l4Func (H : List Item → CS → R) (C : CallsE) (a0 a1 a2 : T) : enterE fi_spec_l4Func env H C [a0, a1, a2] = b_spec_l4Func H C a0 a1 a2 := by
 refine (e_spec_l4Func H C a0 a1 a2).trans ?_
 unfold b_spec_l4Func
 all_goals refine obind_congr fun r1 => ?_
 all_goals try simp only [bs]
 all_goals cases hc : ((!(rt r1 0).b)) with
 | true =>
  try simp only [bs]
  all_goals kernel_rfl
 | false =>
  try simp only [bs]
  all_goals cases hc : ((decide ((((a2.fld 1).es).length : Int) > (3 : Int)))) with
  | true =>
   try simp only [bs]
   all_goals kernel_rfl
  | false =>
   try simp only [bs]
   all_goals cases hc : ((decide ((((a2.fld 2).es).length : Int) > (3 : Int)))) with
   | true =>
    try simp only [bs]
    all_goals kernel_rfl
   | false =>
    try simp only [bs]
    all_goals cases hc : ((decide ((IntKind.wrap .i64 ((((a2.fld 1).es).length : Int) + (((a2.fld 3).es).length : Int))) > (6 : Int)))) with
    | true =>
     try simp only [bs]
     all_goals kernel_rfl
    | false =>
     try simp only [bs]
     all_goals cases hc : ((decide (0 ≤ (0 : Int)) && (decide ((0 : Int) ≤ (IntKind.wrap .i64 (a1.i + (1 : Int)))) && (decide ((IntKind.wrap .i64 (a1.i + (1 : Int))) ≤ (a0.es.length : Int)) && decide ((a0.es.length : Int) ≤ (a0.es.length : Int)))))) with
     | true =>
      try simp only [bs]
      all_goals refine obind_congr fun r2 => ?_
      all_goals try simp only [bs]
      all_goals cases hc : ((rt r2 0).b) with
      | true =>
       try simp only [bs]
       all_goals refine obind_congr fun r3 => ?_
       all_goals try simp only [bs]
       all_goals cases hc : ((rt r3 0).b) with
       | true =>
        try simp only [bs]
        all_goals refine obind_congr fun r4 => ?_
        all_goals try simp only [bs]
        all_goals cases hc : ((rt r4 0).b) with
        | true =>
         try simp only [bs]
         all_goals cases hc : ((decide (0 ≤ a1.i) && decide (a1.i.toNat < a0.es.length))) with
         | true =>
          try simp only [bs]
          all_goals refine obind_congr fun r5 => ?_
          all_goals try simp only [bs]
          all_goals cases hc : ((rt r5 0).b) with
          | true =>
           try simp only [bs]
           all_goals refine obind_congr fun r6 => ?_
           all_goals try simp only [bs]
           all_goals kernel_rfl
          | false =>
           try simp only [bs]
           all_goals kernel_rfl
         | false =>
          try simp only [bs]
          all_goals kernel_rfl
        | false =>
         try simp only [bs]
         all_goals kernel_rfl
       | false =>
        try simp only [bs]
        all_goals kernel_rfl
      | false =>
       try simp only [bs]
       all_goals kernel_rfl
     | false =>
      try simp only [bs]
      all_goals kernel_rfl
theorem y_spec_l4Func (a0 a1 a2 : T) {r : List T} (h : Yields (fun k => b_spec_l4Func (hl env k fi_spec_l4Func) (cl env k) a0 a1 a2) r) : Yields (fun k => cl env k F_spec_l4Func [a0, a1, a2]) r := Yields.call (fi := fi_spec_l4Func) rfl rfl (fun H C => q_spec_l4Func H C a0 a1 a2) h
/- loop.example/heirlooms/spec.l9Kind -/
noncomputable abbrev b_spec_l9Kind (H : List Item → CS → R) (C : CallsE) (a0 a1 : T) : R :=
 obind (C F_spec_l1Kind [(a1.fld 0)]) fun r1 =>
 bif (rt r1 2).b then
 obind (C F_spec_l2Ok [a0, a1]) fun r2 =>
 bif (rt r2 0).b then
 obind (C F_spec_l1Able [a0, (a1.fld 0)]) fun r3 =>
 obind (C F_spec_l1Can [(rt r3 0), (T.int (8 : Int))]) fun r4 =>
 some [(rt r4 0)]
 else
 some [(T.bool false)]
 else
 some [(T.bool false)]
theorem e_spec_l9Kind (H : List Item → CS → R) (C : CallsE) (a0 a1 : T) : enterE fi_spec_l9Kind env H C [a0, a1] =
 obind (C F_spec_l1Kind [(a1.fld 0)]) fun r1 =>
 bif ((!((rt r1 2).b == true)) || true) then
 bif ((!((rt r1 2).b == true)) || true) then
 bif ((!((rt r1 2).b == true)) || (((rt r1 2).b == true) && (((rt r1 2).b == true) && true))) then
 obind ((bif ((rt r1 2).b == true) then C F_spec_l2Ok [a0, a1] else some [])) fun r2 =>
 bif (bif (rt r1 2).b then ((rt r1 2).b == true) else true) then
 bif ((!((bif (rt r1 2).b then (rt r2 0) else (T.bool false)).b == true)) || true) then
 bif ((!((bif (rt r1 2).b then (rt r2 0) else (T.bool false)).b == true)) || true) then
 bif ((!((bif (rt r1 2).b then (rt r2 0) else (T.bool false)).b == true)) || ((bif (rt r1 2).b then (rt r2 0) else (T.bool false)).b == true)) then
 bif ((!((bif (rt r1 2).b then (rt r2 0) else (T.bool false)).b == true)) || (((bif (rt r1 2).b then (rt r2 0) else (T.bool false)).b == true) && (((bif (rt r1 2).b then (rt r2 0) else (T.bool false)).b == true) && true))) then
 obind ((bif ((bif (rt r1 2).b then (rt r2 0) else (T.bool false)).b == true) then C F_spec_l1Able [a0, (a1.fld 0)] else some [])) fun r3 =>
 bif ((!((bif (rt r1 2).b then (rt r2 0) else (T.bool false)).b == true)) || (((bif (rt r1 2).b then (rt r2 0) else (T.bool false)).b == true) && true)) then
 obind ((bif ((bif (rt r1 2).b then (rt r2 0) else (T.bool false)).b == true) then C F_spec_l1Can [(rt r3 0), (T.int (8 : Int))] else some [])) fun r4 =>
 bif (bif (bif (rt r1 2).b then (rt r2 0) else (T.bool false)).b then ((bif (rt r1 2).b then (rt r2 0) else (T.bool false)).b == true) else true) then
 some [(bif (bif (rt r1 2).b then (rt r2 0) else (T.bool false)).b then (rt r4 0) else (T.bool false))]
 else
 none
 else
 none
 else
 none
 else
 none
 else
 none
 else
 none
 else
 none
 else
 none
 else
 none
 else
 none := by kernel_rfl
theorem q_spec_l9Kind (H : List Item → CS → R) (C : CallsE) (a0 a1 : T) : enterE fi_spec_l9Kind env H C [a0, a1] = b_spec_l9Kind H C a0 a1 := by
 refine (e_spec_l9Kind H C a0 a1).trans ?_
 unfold b_spec_l9Kind
 all_goals refine obind_congr fun r1 => ?_
 all_goals try simp only [bs]
 all_goals cases hc : ((rt r1 2).b) with
 | true =>
  try simp only [bs]
  all_goals refine obind_congr fun r2 => ?_
  all_goals try simp only [bs]
  all_goals cases hc : ((rt r2 0).b) with
  | true =>
   try simp only [bs]
   all_goals refine obind_congr fun r3 => ?_
   all_goals try simp only [bs]
   all_goals refine obind_congr fun r4 => ?_
   all_goals try simp only [bs]
   all_goals kernel_rfl
  | false =>
   try simp only [bs]
   all_goals kernel_rfl
 | false =>
  try simp only [bs]
  all_goals kernel_rfl
theorem y_spec_l9Kind (a0 a1 : T) {r : List T} (h : Yields (fun k => b_spec_l9Kind (hl env k fi_spec_l9Kind) (cl env k) a0 a1) r) : Yields (fun k => cl env k F_spec_l9Kind [a0, a1]) r := Yields.call (fi := fi_spec_l9Kind) rfl rfl (fun H C => q_spec_l9Kind H C a0 a1) h
/- loop.example/heirlooms/spec.l1Ref -/
noncomputable abbrev b_spec_l1Ref (H : List Item → CS → R) (C : CallsE) (a0 : T) : R :=
 bif (decide ((a0.s.size : Int) > (0 : Int))) then
 bif (decide (0 ≤ (0 : Int)) && decide (0 < a0.s.size)) then
 bif ((a0.s.data.getD 0 0).toNat == (38 : Int)) then
 some [(T.bool true)]
 else
 some [(T.bool ((a0.s.data.getD 0 0).toNat == (33 : Int)))]
 else
 none
 else
 some [(T.bool false)]
theorem e_spec_l1Ref (H : List Item → CS → R) (C : CallsE) (a0 : T) : enterE fi_spec_l1Ref env H C [a0] =
 bif ((!((decide ((a0.s.size : Int) > (0 : Int))) == true)) || true) then
 bif ((!((decide ((a0.s.size : Int) > (0 : Int))) == true)) || ((((decide ((a0.s.size : Int) > (0 : Int))) == true) && true) && (decide (0 ≤ (0 : Int)) && decide (0 < a0.s.size)))) then
 bif ((!((decide ((a0.s.size : Int) > (0 : Int))) == true)) || ((((decide ((a0.s.size : Int) > (0 : Int))) == true) && true) && true)) then
 bif ((!((decide ((a0.s.size : Int) > (0 : Int))) == true)) || ((decide ((a0.s.size : Int) > (0 : Int))) == true)) then
 bif ((!(((decide ((a0.s.size : Int) > (0 : Int))) == true) && (((a0.s.data.getD 0 0).toNat == (38 : Int)) == false))) || true) then
 bif ((!(((decide ((a0.s.size : Int) > (0 : Int))) == true) && (((a0.s.data.getD 0 0).toNat == (38 : Int)) == false))) || (((((decide ((a0.s.size : Int) > (0 : Int))) == true) && (((a0.s.data.getD 0 0).toNat == (38 : Int)) == false)) && true) && (decide (0 ≤ (0 : Int)) && decide (0 < a0.s.size)))) then
 bif ((!(((decide ((a0.s.size : Int) > (0 : Int))) == true) && (((a0.s.data.getD 0 0).toNat == (38 : Int)) == false))) || (((((decide ((a0.s.size : Int) > (0 : Int))) == true) && (((a0.s.data.getD 0 0).toNat == (38 : Int)) == false)) && true) && true)) then
 bif ((!((decide ((a0.s.size : Int) > (0 : Int))) == true)) || (((decide ((a0.s.size : Int) > (0 : Int))) == true) && (bif ((a0.s.data.getD 0 0).toNat == (38 : Int)) then true else (((decide ((a0.s.size : Int) > (0 : Int))) == true) && (((a0.s.data.getD 0 0).toNat == (38 : Int)) == false))))) then
 bif (bif (decide ((a0.s.size : Int) > (0 : Int))) then ((decide ((a0.s.size : Int) > (0 : Int))) == true) else true) then
 some [(bif (decide ((a0.s.size : Int) > (0 : Int))) then (bif ((a0.s.data.getD 0 0).toNat == (38 : Int)) then (T.bool true) else (T.bool ((a0.s.data.getD 0 0).toNat == (33 : Int)))) else (T.bool false))]
 else
 none
 else
 none
 else
 none
 else
 none
 else
 none
 else
 none
 else
 none
 else
 none
 else
 none := by kernel_rfl
theorem q_spec_l1Ref (H : List Item → CS → R) (C : CallsE) (a0 : T) : enterE fi_spec_l1Ref env H C [a0] = b_spec_l1Ref H C a0 := by
 refine (e_spec_l1Ref H C a0).trans ?_
 unfold b_spec_l1Ref
 all_goals cases hc : ((decide ((a0.s.size : Int) > (0 : Int)))) with
 | true =>
  try simp only [bs]
  all_goals cases hc : ((decide (0 ≤ (0 : Int)) && decide (0 < a0.s.size))) with
  | true =>
   try simp only [bs]
   all_goals cases hc : (((a0.s.data.getD 0 0).toNat == (38 : Int))) with
   | true =>
    try simp only [bs]
    all_goals kernel_rfl
   | false =>
    try simp only [bs]
    all_goals kernel_rfl
  | false =>
   try simp only [bs]
   all_goals kernel_rfl
 | false =>
  try simp only [bs]
  all_goals cases hc : (((a0.s.data.getD 0 0).toNat == (38 : Int))) with
  | true =>
   try simp only [bs]
   all_goals kernel_rfl
  | false =>
   try simp only [bs]
   all_goals kernel_rfl
theorem y_spec_l1Ref (a0 : T) {r : List T} (h : Yields (fun k => b_spec_l1Ref (hl env k fi_spec_l1Ref) (cl env k) a0) r) : Yields (fun k => cl env k F_spec_l1Ref [a0]) r := Yields.call (fi := fi_spec_l1Ref) rfl rfl (fun H C => q_spec_l1Ref H C a0) h
/- loop.example/heirlooms/spec.l2Plain -/
noncomputable abbrev b_spec_l2Plain (H : List Item → CS → R) (C : CallsE) (a0 : T) : R :=
 bif ((((a0.fld 2).es).length : Int) == (0 : Int)) then
 some [(T.bool ((((a0.fld 3).es).length : Int) == (0 : Int)))]
 else
 some [(T.bool false)]
theorem e_spec_l2Plain (H : List Item → CS → R) (C : CallsE) (a0 : T) : enterE fi_spec_l2Plain env H C [a0] =
 bif ((!(((((a0.fld 2).es).length : Int) == (0 : Int)) == true)) || true) then
 bif ((!(((((a0.fld 2).es).length : Int) == (0 : Int)) == true)) || (((((a0.fld 2).es).length : Int) == (0 : Int)) == true)) then
 bif ((!(((((a0.fld 2).es).length : Int) == (0 : Int)) == true)) || (((((a0.fld 2).es).length : Int) == (0 : Int)) == true)) then
 bif ((!(((((a0.fld 2).es).length : Int) == (0 : Int)) == true)) || (((((((a0.fld 2).es).length : Int) == (0 : Int)) == true) && true) && true)) then
 bif (bif ((((a0.fld 2).es).length : Int) == (0 : Int)) then (((((a0.fld 2).es).length : Int) == (0 : Int)) == true) else true) then
 some [(bif ((((a0.fld 2).es).length : Int) == (0 : Int)) then (T.bool ((((a0.fld 3).es).length : Int) == (0 : Int))) else (T.bool false))]
 else
 none
 else
 none
 else
 none
 else
 none
 else
 none := by kernel_rfl
theorem q_spec_l2Plain (H : List Item → CS → R) (C : CallsE) (a0 : T) : enterE fi_spec_l2Plain env H C [a0] = b_spec_l2Plain H C a0 := by
 refine (e_spec_l2Plain H C a0).trans ?_
 unfold b_spec_l2Plain
 all_goals cases hc : (((((a0.fld 2).es).length : Int) == (0 : Int))) with
 | true =>
  try simp only [bs]
  all_goals kernel_rfl
 | false =>
  try simp only [bs]
  all_goals kernel_rfl
theorem y_spec_l2Plain (a0 : T) {r : List T} (h : Yields (fun k => b_spec_l2Plain (hl env k fi_spec_l2Plain) (cl env k) a0) r) : Yields (fun k => cl env k F_spec_l2Plain [a0]) r := Yields.call (fi := fi_spec_l2Plain) rfl rfl (fun H C => q_spec_l2Plain H C a0) h
/- loop.example/heirlooms/spec.l1Kind -/
noncomputable abbrev b_spec_l1Kind (H : List Item → CS → R) (C : CallsE) (a0 : T) : R :=
 bif ((a0.s.size : Int) != (3 : Int)) then
 some [(T.int (0 : Int)), (T.int (0 : Int)), (T.bool false)]
 else
 bif (decide (0 ≤ (0 : Int)) && decide (0 < a0.s.size)) then
 bif ((a0.s.data.getD 0 0).toNat != (83 : Int)) then
 some [(T.int (0 : Int)), (T.int (0 : Int)), (T.bool false)]
 else
 bif (decide (0 ≤ (1 : Int)) && decide (1 < a0.s.size)) then
 bif (decide ((a0.s.data.getD 1 0).toNat < (48 : Int))) then
 some [(T.int (0 : Int)), (T.int (0 : Int)), (T.bool false)]
 else
 bif (decide ((a0.s.data.getD 1 0).toNat > (57 : Int))) then
 some [(T.int (0 : Int)), (T.int (0 : Int)), (T.bool false)]
 else
 bif (decide (0 ≤ (2 : Int)) && decide (2 < a0.s.size)) then
 bif (decide ((a0.s.data.getD 2 0).toNat < (48 : Int))) then
 some [(T.int (0 : Int)), (T.int (0 : Int)), (T.bool false)]
 else
 bif (decide ((a0.s.data.getD 2 0).toNat > (57 : Int))) then
 some [(T.int (0 : Int)), (T.int (0 : Int)), (T.bool false)]
 else
 some [(T.int (IntKind.wrap .i64 (IntKind.wrap .u8 ((a0.s.data.getD 1 0).toNat - (48 : Int))))), (T.int (IntKind.wrap .i64 (IntKind.wrap .u8 ((a0.s.data.getD 2 0).toNat - (48 : Int))))), (T.bool true)]
 else
 none
 else
 none
 else
 none
theorem e_spec_l1Kind (H : List Item → CS → R) (C : CallsE) (a0 : T) : enterE fi_spec_l1Kind env H C [a0] =
 bif ((!(((a0.s.size : Int) != (3 : Int)) == false)) || true) then
 bif ((!(((a0.s.size : Int) != (3 : Int)) == false)) || (((((a0.s.size : Int) != (3 : Int)) == false) && true) && (decide (0 ≤ (0 : Int)) && decide (0 < a0.s.size)))) then
 bif ((!(((a0.s.size : Int) != (3 : Int)) == false)) || (((((a0.s.size : Int) != (3 : Int)) == false) && true) && true)) then
 bif (bif ((a0.s.size : Int) != (3 : Int)) then true else (((a0.s.size : Int) != (3 : Int)) == false)) then
 bif ((!((bif ((a0.s.size : Int) != (3 : Int)) then (T.bool true) else (T.bool ((a0.s.data.getD 0 0).toNat != (83 : Int)))).b == false)) || true) then
 bif ((!((bif ((a0.s.size : Int) != (3 : Int)) then (T.bool true) else (T.bool ((a0.s.data.getD 0 0).toNat != (83 : Int)))).b == false)) || ((((bif ((a0.s.size : Int) != (3 : Int)) then (T.bool true) else (T.bool ((a0.s.data.getD 0 0).toNat != (83 : Int)))).b == false) && true) && (decide (0 ≤ (1 : Int)) && decide (1 < a0.s.size)))) then
 bif ((!((bif ((a0.s.size : Int) != (3 : Int)) then (T.bool true) else (T.bool ((a0.s.data.getD 0 0).toNat != (83 : Int)))).b == false)) || ((((bif ((a0.s.size : Int) != (3 : Int)) then (T.bool true) else (T.bool ((a0.s.data.getD 0 0).toNat != (83 : Int)))).b == false) && true) && true)) then
 bif (bif (bif ((a0.s.size : Int) != (3 : Int)) then (T.bool true) else (T.bool ((a0.s.data.getD 0 0).toNat != (83 : Int)))).b then true else ((bif ((a0.s.size : Int) != (3 : Int)) then (T.bool true) else (T.bool ((a0.s.data.getD 0 0).toNat != (83 : Int)))).b == false)) then
 bif ((!((bif (bif ((a0.s.size : Int) != (3 : Int)) then (T.bool true) else (T.bool ((a0.s.data.getD 0 0).toNat != (83 : Int)))).b then (T.bool true) else (T.bool (decide ((a0.s.data.getD 1 0).toNat < (48 : Int))))).b == false)) || true) then
 bif ((!((bif (bif ((a0.s.size : Int) != (3 : Int)) then (T.bool true) else (T.bool ((a0.s.data.getD 0 0).toNat != (83 : Int)))).b then (T.bool true) else (T.bool (decide ((a0.s.data.getD 1 0).toNat < (48 : Int))))).b == false)) || ((((bif (bif ((a0.s.size : Int) != (3 : Int)) then (T.bool true) else (T.bool ((a0.s.data.getD 0 0).toNat != (83 : Int)))).b then (T.bool true) else (T.bool (decide ((a0.s.data.getD 1 0).toNat < (48 : Int))))).b == false) && true) && (decide (0 ≤ (1 : Int)) && decide (1 < a0.s.size)))) then
 bif ((!((bif (bif ((a0.s.size : Int) != (3 : Int)) then (T.bool true) else (T.bool ((a0.s.data.getD 0 0).toNat != (83 : Int)))).b then (T.bool true) else (T.bool (decide ((a0.s.data.getD 1 0).toNat < (48 : Int))))).b == false)) || ((((bif (bif ((a0.s.size : Int) != (3 : Int)) then (T.bool true) else (T.bool ((a0.s.data.getD 0 0).toNat != (83 : Int)))).b then (T.bool true) else (T.bool (decide ((a0.s.data.getD 1 0).toNat < (48 : Int))))).b == false) && true) && true)) then
 bif (bif (bif (bif ((a0.s.size : Int) != (3 : Int)) then (T.bool true) else (T.bool ((a0.s.data.getD 0 0).toNat != (83 : Int)))).b then (T.bool true) else (T.bool (decide ((a0.s.data.getD 1 0).toNat < (48 : Int))))).b then true else ((bif (bif ((a0.s.size : Int) != (3 : Int)) then (T.bool true) else (T.bool ((a0.s.data.getD 0 0).toNat != (83 : Int)))).b then (T.bool true) else (T.bool (decide ((a0.s.data.getD 1 0).toNat < (48 : Int))))).b == false)) then
 bif ((!((bif (bif (bif ((a0.s.size : Int) != (3 : Int)) then (T.bool true) else (T.bool ((a0.s.data.getD 0 0).toNat != (83 : Int)))).b then (T.bool true) else (T.bool (decide ((a0.s.data.getD 1 0).toNat < (48 : Int))))).b then (T.bool true) else (T.bool (decide ((a0.s.data.getD 1 0).toNat > (57 : Int))))).b == false)) || true) then
 bif ((!((bif (bif (bif ((a0.s.size : Int) != (3 : Int)) then (T.bool true) else (T.bool ((a0.s.data.getD 0 0).toNat != (83 : Int)))).b then (T.bool true) else (T.bool (decide ((a0.s.data.getD 1 0).toNat < (48 : Int))))).b then (T.bool true) else (T.bool (decide ((a0.s.data.getD 1 0).toNat > (57 : Int))))).b == false)) || ((((bif (bif (bif ((a0.s.size : Int) != (3 : Int)) then (T.bool true) else (T.bool ((a0.s.data.getD 0 0).toNat != (83 : Int)))).b then (T.bool true) else (T.bool (decide ((a0.s.data.getD 1 0).toNat < (48 : Int))))).b then (T.bool true) else (T.bool (decide ((a0.s.data.getD 1 0).toNat > (57 : Int))))).b == false) && true) && (decide (0 ≤ (2 : Int)) && decide (2 < a0.s.size)))) then
 bif ((!((bif (bif (bif ((a0.s.size : Int) != (3 : Int)) then (T.bool true) else (T.bool ((a0.s.data.getD 0 0).toNat != (83 : Int)))).b then (T.bool true) else (T.bool (decide ((a0.s.data.getD 1 0).toNat < (48 : Int))))).b then (T.bool true) else (T.bool (decide ((a0.s.data.getD 1 0).toNat > (57 : Int))))).b == false)) || ((((bif (bif (bif ((a0.s.size : Int) != (3 : Int)) then (T.bool true) else (T.bool ((a0.s.data.getD 0 0).toNat != (83 : Int)))).b then (T.bool true) else (T.bool (decide ((a0.s.data.getD 1 0).toNat < (48 : Int))))).b then (T.bool true) else (T.bool (decide ((a0.s.data.getD 1 0).toNat > (57 : Int))))).b == false) && true) && true)) then
 bif (bif (bif (bif (bif ((a0.s.size : Int) != (3 : Int)) then (T.bool true) else (T.bool ((a0.s.data.getD 0 0).toNat != (83 : Int)))).b then (T.bool true) else (T.bool (decide ((a0.s.data.getD 1 0).toNat < (48 : Int))))).b then (T.bool true) else (T.bool (decide ((a0.s.data.getD 1 0).toNat > (57 : Int))))).b then true else ((bif (bif (bif ((a0.s.size : Int) != (3 : Int)) then (T.bool true) else (T.bool ((a0.s.data.getD 0 0).toNat != (83 : Int)))).b then (T.bool true) else (T.bool (decide ((a0.s.data.getD 1 0).toNat < (48 : Int))))).b then (T.bool true) else (T.bool (decide ((a0.s.data.getD 1 0).toNat > (57 : Int))))).b == false)) then
 bif ((!((bif (bif (bif (bif ((a0.s.size : Int) != (3 : Int)) then (T.bool true) else (T.bool ((a0.s.data.getD 0 0).toNat != (83 : Int)))).b then (T.bool true) else (T.bool (decide ((a0.s.data.getD 1 0).toNat < (48 : Int))))).b then (T.bool true) else (T.bool (decide ((a0.s.data.getD 1 0).toNat > (57 : Int))))).b then (T.bool true) else (T.bool (decide ((a0.s.data.getD 2 0).toNat < (48 : Int))))).b == false)) || true) then
 bif ((!((bif (bif (bif (bif ((a0.s.size : Int) != (3 : Int)) then (T.bool true) else (T.bool ((a0.s.data.getD 0 0).toNat != (83 : Int)))).b then (T.bool true) else (T.bool (decide ((a0.s.data.getD 1 0).toNat < (48 : Int))))).b then (T.bool true) else (T.bool (decide ((a0.s.data.getD 1 0).toNat > (57 : Int))))).b then (T.bool true) else (T.bool (decide ((a0.s.data.getD 2 0).toNat < (48 : Int))))).b == false)) || ((((bif (bif (bif (bif ((a0.s.size : Int) != (3 : Int)) then (T.bool true) else (T.bool ((a0.s.data.getD 0 0).toNat != (83 : Int)))).b then (T.bool true) else (T.bool (decide ((a0.s.data.getD 1 0).toNat < (48 : Int))))).b then (T.bool true) else (T.bool (decide ((a0.s.data.getD 1 0).toNat > (57 : Int))))).b then (T.bool true) else (T.bool (decide ((a0.s.data.getD 2 0).toNat < (48 : Int))))).b == false) && true) && (decide (0 ≤ (2 : Int)) && decide (2 < a0.s.size)))) then
 bif ((!((bif (bif (bif (bif ((a0.s.size : Int) != (3 : Int)) then (T.bool true) else (T.bool ((a0.s.data.getD 0 0).toNat != (83 : Int)))).b then (T.bool true) else (T.bool (decide ((a0.s.data.getD 1 0).toNat < (48 : Int))))).b then (T.bool true) else (T.bool (decide ((a0.s.data.getD 1 0).toNat > (57 : Int))))).b then (T.bool true) else (T.bool (decide ((a0.s.data.getD 2 0).toNat < (48 : Int))))).b == false)) || ((((bif (bif (bif (bif ((a0.s.size : Int) != (3 : Int)) then (T.bool true) else (T.bool ((a0.s.data.getD 0 0).toNat != (83 : Int)))).b then (T.bool true) else (T.bool (decide ((a0.s.data.getD 1 0).toNat < (48 : Int))))).b then (T.bool true) else (T.bool (decide ((a0.s.data.getD 1 0).toNat > (57 : Int))))).b then (T.bool true) else (T.bool (decide ((a0.s.data.getD 2 0).toNat < (48 : Int))))).b == false) && true) && true)) then
 bif (bif (bif (bif (bif (bif ((a0.s.size : Int) != (3 : Int)) then (T.bool true) else (T.bool ((a0.s.data.getD 0 0).toNat != (83 : Int)))).b then (T.bool true) else (T.bool (decide ((a0.s.data.getD 1 0).toNat < (48 : Int))))).b then (T.bool true) else (T.bool (decide ((a0.s.data.getD 1 0).toNat > (57 : Int))))).b then (T.bool true) else (T.bool (decide ((a0.s.data.getD 2 0).toNat < (48 : Int))))).b then true else ((bif (bif (bif (bif ((a0.s.size : Int) != (3 : Int)) then (T.bool true) else (T.bool ((a0.s.data.getD 0 0).toNat != (83 : Int)))).b then (T.bool true) else (T.bool (decide ((a0.s.data.getD 1 0).toNat < (48 : Int))))).b then (T.bool true) else (T.bool (decide ((a0.s.data.getD 1 0).toNat > (57 : Int))))).b then (T.bool true) else (T.bool (decide ((a0.s.data.getD 2 0).toNat < (48 : Int))))).b == false)) then
 bif (bif (bif (bif (bif (bif ((a0.s.size : Int) != (3 : Int)) then (T.bool true) else (T.bool ((a0.s.data.getD 0 0).toNat != (83 : Int)))).b then (T.bool true) else (T.bool (decide ((a0.s.data.getD 1 0).toNat < (48 : Int))))).b then (T.bool true) else (T.bool (decide ((a0.s.data.getD 1 0).toNat > (57 : Int))))).b then (T.bool true) else (T.bool (decide ((a0.s.data.getD 2 0).toNat < (48 : Int))))).b then (T.bool true) else (T.bool (decide ((a0.s.data.getD 2 0).toNat > (57 : Int))))).b then
 some [(T.int (0 : Int)), (T.int (0 : Int)), (T.bool false)]
 else
 bif (decide (0 ≤ (1 : Int)) && decide (1 < a0.s.size)) then
 bif (decide (0 ≤ (2 : Int)) && decide (2 < a0.s.size)) then
 some [(T.int (IntKind.wrap .i64 (IntKind.wrap .u8 ((a0.s.data.getD 1 0).toNat - (48 : Int))))), (T.int (IntKind.wrap .i64 (IntKind.wrap .u8 ((a0.s.data.getD 2 0).toNat - (48 : Int))))), (T.bool true)]
 else
 none
 else
 none
 else
 none
 else
 none
 else
 none
 else
 none
 else
 none
 else
 none
 else
 none
 else
 none
 else
 none
 else
 none
 else
 none
 else
 none
 else
 none
 else
 none
 else
 none
 else
 none
 else
 none
 else
 none
 else
 none
 else
 none := by kernel_rfl
theorem q_spec_l1Kind (H : List Item → CS → R) (C : CallsE) (a0 : T) : enterE fi_spec_l1Kind env H C [a0] = b_spec_l1Kind H C a0 := by
 refine (e_spec_l1Kind H C a0).trans ?_
 unfold b_spec_l1Kind
 all_goals cases hc : (((a0.s.size : Int) != (3 : Int))) with
 | true =>
  try simp only [bs]
  all_goals kernel_rfl
 | false =>
  try simp only [bs]
  all_goals cases hc : ((decide (0 ≤ (0 : Int)) && decide (0 < a0.s.size))) with
  | true =>
   try simp only [bs]
   all_goals cases hc : (((a0.s.data.getD 0 0).toNat != (83 : Int))) with
   | true =>
    try simp only [bs]
    all_goals kernel_rfl
   | false =>
    try simp only [bs]
    all_goals cases hc : ((decide (0 ≤ (1 : Int)) && decide (1 < a0.s.size))) with
    | true =>
     try simp only [bs]
     all_goals cases hc : ((decide ((a0.s.data.getD 1 0).toNat < (48 : Int)))) with
     | true =>
      try simp only [bs]
      all_goals kernel_rfl
     | false =>
      try simp only [bs]
      all_goals cases hc : ((decide ((a0.s.data.getD 1 0).toNat > (57 : Int)))) with
      | true =>
       try simp only [bs]
       all_goals kernel_rfl
      | false =>
       try simp only [bs]
       all_goals cases hc : ((decide (0 ≤ (2 : Int)) && decide (2 < a0.s.size))) with
       | true =>
        try simp only [bs]
        all_goals cases hc : ((decide ((a0.s.data.getD 2 0).toNat < (48 : Int)))) with
        | true =>
         try simp only [bs]
         all_goals kernel_rfl
        | false =>
         try simp only [bs]
         all_goals cases hc : ((decide ((a0.s.data.getD 2 0).toNat > (57 : Int)))) with
         | true =>
          try simp only [bs]
          all_goals kernel_rfl
         | false =>
          try simp only [bs]
          all_goals kernel_rfl
       | false =>
        try simp only [bs]
        all_goals kernel_rfl
    | false =>
     try simp only [bs]
     all_goals kernel_rfl
  | false =>
   try simp only [bs]
   all_goals kernel_rfl
theorem y_spec_l1Kind (a0 : T) {r : List T} (h : Yields (fun k => b_spec_l1Kind (hl env k fi_spec_l1Kind) (cl env k) a0) r) : Yields (fun k => cl env k F_spec_l1Kind [a0]) r := Yields.call (fi := fi_spec_l1Kind) rfl rfl (fun H C => q_spec_l1Kind H C a0) h
/- loop.example/heirlooms/spec.l1Has -/
noncomputable abbrev b_spec_l1Has (H : List Item → CS → R) (C : CallsE) (a0 a1 a2 : T) : R :=
 bif (decide (a1.i < (a0.es.length : Int))) then
 bif (decide (0 ≤ a1.i) && decide (a1.i.toNat < a0.es.length)) then
 some [(T.bool (decide (a2.i < (((a0.nth a1.i.toNat).es).length : Int))))]
 else
 none
 else
 some [(T.bool false)]
theorem e_spec_l1Has (H : List Item → CS → R) (C : CallsE) (a0 a1 a2 : T) : enterE fi_spec_l1Has env H C [a0, a1, a2] =
 bif ((!((decide (a1.i < (a0.es.length : Int))) == true)) || true) then
 bif ((!((decide (a1.i < (a0.es.length : Int))) == true)) || true) then
 bif ((!((decide (a1.i < (a0.es.length : Int))) == true)) || true) then
 bif ((!((decide (a1.i < (a0.es.length : Int))) == true)) || ((((decide (a1.i < (a0.es.length : Int))) == true) && (((decide (a1.i < (a0.es.length : Int))) == true) && true)) && (decide (0 ≤ a1.i) && decide (a1.i.toNat < a0.es.length)))) then
 bif ((!((decide (a1.i < (a0.es.length : Int))) == true)) || ((decide (a1.i < (a0.es.length : Int))) == true)) then
 bif ((!((decide (a1.i < (a0.es.length : Int))) == true)) || ((decide (a1.i < (a0.es.length : Int))) == true)) then
 bif ((!((decide (a1.i < (a0.es.length : Int))) == true)) || ((((decide (a1.i < (a0.es.length : Int))) == true) && ((decide (a1.i < (a0.es.length : Int))) == true)) && true)) then
 bif (bif (decide (a1.i < (a0.es.length : Int))) then ((decide (a1.i < (a0.es.length : Int))) == true) else true) then
 some [(bif (decide (a1.i < (a0.es.length : Int))) then (T.bool (decide (a2.i < (((a0.nth a1.i.toNat).es).length : Int)))) else (T.bool false))]
 else
 none
 else
 none
 else
 none
 else
 none
 else
 none
 else
 none
 else
 none
 else
 none := by kernel_rfl
theorem q_spec_l1Has (H : List Item → CS → R) (C : CallsE) (a0 a1 a2 : T) : enterE fi_spec_l1Has env H C [a0, a1, a2] = b_spec_l1Has H C a0 a1 a2 := by
 refine (e_spec_l1Has H C a0 a1 a2).trans ?_
 unfold b_spec_l1Has
 all_goals cases hc : ((decide (a1.i < (a0.es.length : Int)))) with
 | true =>
  try simp only [bs]
  all_goals cases hc : ((decide (0 ≤ a1.i) && decide (a1.i.toNat < a0.es.length))) with
  | true =>
   try simp only [bs]
   all_goals kernel_rfl
  | false =>
   try simp only [bs]
   all_goals kernel_rfl
 | false =>
  try simp only [bs]
  all_goals kernel_rfl
theorem y_spec_l1Has (a0 a1 a2 : T) {r : List T} (h : Yields (fun k => b_spec_l1Has (hl env k fi_spec_l1Has) (cl env k) a0 a1 a2) r) : Yields (fun k => cl env k F_spec_l1Has [a0, a1, a2]) r := Yields.call (fi := fi_spec_l1Has) rfl rfl (fun H C => q_spec_l1Has H C a0 a1 a2) h
noncomputable def l_laws_toRecordS_0 (H : List Item → CS → R) (x1 : T) (x2 : T) (x3 : T) : R := H (hdAt fi_laws_toRecordS.body 0) ([(0, .val 40 x1), (3, .sref 60 3 []), (4, .val 3 x2)], [(3, ⟨60, x3, .dp, false⟩)])
/- loop.example/heirlooms/laws.toRecordS -/
noncomputable abbrev b_laws_toRecordS (H : List Item → CS → R) (C : CallsE) (a0 : T) : R :=
 bif (decide (0 ≤ (a0.es.length : Int)) && (decide ((a0.es.length : Int) ≤ (a0.es.length : Int)) && decide (a0.es.length ≤ LIM))) then
 l_laws_toRecordS_0 H a0 (T.int (0 : Int)) (T.sl (List.replicate a0.es.length (T.st [(T.int (0 : Int)), (T.sl [])])))
 else
 none
theorem q_laws_toRecordS (H : List Item → CS → R) (C : CallsE) (a0 : T) : enterE fi_laws_toRecordS env H C [a0] = b_laws_toRecordS H C a0 := by kernel_rfl
theorem y_laws_toRecordS (a0 : T) {r : List T} (h : Yields (fun k => b_laws_toRecordS (hl env k fi_laws_toRecordS) (cl env k) a0) r) : Yields (fun k => cl env k F_laws_toRecordS [a0]) r := Yields.call (fi := fi_laws_toRecordS) rfl rfl (fun H C => q_laws_toRecordS H C a0) h
noncomputable abbrev b_laws_toRecordS_0 (H : List Item → CS → R) (C : CallsE) (x1 : T) (x2 : T) (x3 : T) : R :=
 bif (decide (x2.i < (x1.es.length : Int))) then
 bif (decide (0 ≤ x2.i) && decide (x2.i.toNat < x1.es.length)) then
 obind (C F_laws_toRecord [(x1.nth x2.i.toNat)]) fun r1 =>
 bif (decide (0 ≤ x2.i) && decide (x2.i.toNat < x3.es.length)) then
 l_laws_toRecordS_0 H x1 (T.int (IntKind.wrap .i64 (x2.i + (1 : Int)))) (T.sl (x3.es.set x2.i.toNat (T.st [((rt r1 0).fld 0), ((rt r1 0).fld 1)])))
 else
 none
 else
 none
 else
 some [x3]
theorem q_laws_toRecordS_0 (H : List Item → CS → R) (C : CallsE) (x1 : T) (x2 : T) (x3 : T) : headE fi_laws_toRecordS env H C (hdAt fi_laws_toRecordS.body 0) ([(0, .val 40 x1), (3, .sref 60 3 []), (4, .val 3 x2)], [(3, ⟨60, x3, .dp, false⟩)]) = b_laws_toRecordS_0 H C x1 x2 x3 := by kernel_rfl
theorem y_laws_toRecordS_0 (x1 : T) (x2 : T) (x3 : T) {r : List T} (h : Yields (fun k => b_laws_toRecordS_0 (hl env k fi_laws_toRecordS) (cl env k) x1 x2 x3) r) : Yields (fun k => l_laws_toRecordS_0 (hl env k fi_laws_toRecordS) x1 x2 x3) r := Yields.head (fun H C => q_laws_toRecordS_0 H C x1 x2 x3) h
noncomputable def l_laws_toFuncS_0 (H : List Item → CS → R) (x1 : T) (x2 : T) (x3 : T) : R := H (hdAt fi_laws_toFuncS.body 0) ([(0, .val 41 x1), (3, .sref 61 3 []), (4, .val 3 x2)], [(3, ⟨61, x3, .dp, false⟩)])
/- loop.example/heirlooms/laws.toFuncS -/
noncomputable abbrev b_laws_toFuncS (H : List Item → CS → R) (C : CallsE) (a0 : T) : R :=
 bif (decide (0 ≤ (a0.es.length : Int)) && (decide ((a0.es.length : Int) ≤ (a0.es.length : Int)) && decide (a0.es.length ≤ LIM))) then
 l_laws_toFuncS_0 H a0 (T.int (0 : Int)) (T.sl (List.replicate a0.es.length (T.st [(T.int (0 : Int)), (T.sl []), (T.sl []), (T.sl []), (T.sl []), (T.sl [])])))
 else
 none
theorem q_laws_toFuncS (H : List Item → CS → R) (C : CallsE) (a0 : T) : enterE fi_laws_toFuncS env H C [a0] = b_laws_toFuncS H C a0 := by kernel_rfl
theorem y_laws_toFuncS (a0 : T) {r : List T} (h : Yields (fun k => b_laws_toFuncS (hl env k fi_laws_toFuncS) (cl env k) a0) r) : Yields (fun k => cl env k F_laws_toFuncS [a0]) r := Yields.call (fi := fi_laws_toFuncS) rfl rfl (fun H C => q_laws_toFuncS H C a0) h
noncomputable abbrev b_laws_toFuncS_0 (H : List Item → CS → R) (C : CallsE) (x1 : T) (x2 : T) (x3 : T) : R :=
 bif (decide (x2.i < (x1.es.length : Int))) then
 bif (decide (0 ≤ x2.i) && decide (x2.i.toNat < x1.es.length)) then
 obind (C F_laws_toFunc [(x1.nth x2.i.toNat)]) fun r1 =>
 bif (decide (0 ≤ x2.i) && decide (x2.i.toNat < x3.es.length)) then
 l_laws_toFuncS_0 H x1 (T.int (IntKind.wrap .i64 (x2.i + (1 : Int)))) (T.sl (x3.es.set x2.i.toNat (T.st [((rt r1 0).fld 0), ((rt r1 0).fld 1), ((rt r1 0).fld 2), ((rt r1 0).fld 3), ((rt r1 0).fld 4), ((rt r1 0).fld 5)])))
 else
 none
 else
 none
 else
 some [x3]
theorem q_laws_toFuncS_0 (H : List Item → CS → R) (C : CallsE) (x1 : T) (x2 : T) (x3 : T) : headE fi_laws_toFuncS env H C (hdAt fi_laws_toFuncS.body 0) ([(0, .val 41 x1), (3, .sref 61 3 []), (4, .val 3 x2)], [(3, ⟨61, x3, .dp, false⟩)]) = b_laws_toFuncS_0 H C x1 x2 x3 := by kernel_rfl
theorem y_laws_toFuncS_0 (x1 : T) (x2 : T) (x3 : T) {r : List T} (h : Yields (fun k => b_laws_toFuncS_0 (hl env k fi_laws_toFuncS) (cl env k) x1 x2 x3) r) : Yields (fun k => l_laws_toFuncS_0 (hl env k fi_laws_toFuncS) x1 x2 x3) r := Yields.head (fun H C => q_laws_toFuncS_0 H C x1 x2 x3) h
noncomputable def l_laws_toIntS_0 (H : List Item → CS → R) (x1 : T) (x2 : T) (x3 : T) : R := H (hdAt fi_laws_toIntS.body 0) ([(0, .val 42 x1), (3, .sref 42 3 []), (4, .val 3 x2)], [(3, ⟨42, x3, .dp, false⟩)])
/- loop.example/heirlooms/laws.toIntS -/
noncomputable abbrev b_laws_toIntS (H : List Item → CS → R) (C : CallsE) (a0 : T) : R :=
 bif (decide (0 ≤ (a0.es.length : Int)) && (decide ((a0.es.length : Int) ≤ (a0.es.length : Int)) && decide (a0.es.length ≤ LIM))) then
 l_laws_toIntS_0 H a0 (T.int (0 : Int)) (T.sl (List.replicate a0.es.length (T.int (0 : Int))))
 else
 none
theorem q_laws_toIntS (H : List Item → CS → R) (C : CallsE) (a0 : T) : enterE fi_laws_toIntS env H C [a0] = b_laws_toIntS H C a0 := by kernel_rfl
theorem y_laws_toIntS (a0 : T) {r : List T} (h : Yields (fun k => b_laws_toIntS (hl env k fi_laws_toIntS) (cl env k) a0) r) : Yields (fun k => cl env k F_laws_toIntS [a0]) r := Yields.call (fi := fi_laws_toIntS) rfl rfl (fun H C => q_laws_toIntS H C a0) h
noncomputable abbrev b_laws_toIntS_0 (H : List Item → CS → R) (C : CallsE) (x1 : T) (x2 : T) (x3 : T) : R :=
 bif (decide (x2.i < (x1.es.length : Int))) then
 bif (decide (0 ≤ x2.i) && decide (x2.i.toNat < x1.es.length)) then
 bif (decide (0 ≤ x2.i) && decide (x2.i.toNat < x3.es.length)) then
 l_laws_toIntS_0 H x1 (T.int (IntKind.wrap .i64 (x2.i + (1 : Int)))) (T.sl (x3.es.set x2.i.toNat (x1.nth x2.i.toNat)))
 else
 none
 else
 none
 else
 some [x3]
theorem q_laws_toIntS_0 (H : List Item → CS → R) (C : CallsE) (x1 : T) (x2 : T) (x3 : T) : headE fi_laws_toIntS env H C (hdAt fi_laws_toIntS.body 0) ([(0, .val 42 x1), (3, .sref 42 3 []), (4, .val 3 x2)], [(3, ⟨42, x3, .dp, false⟩)]) = b_laws_toIntS_0 H C x1 x2 x3 := by kernel_rfl
theorem y_laws_toIntS_0 (x1 : T) (x2 : T) (x3 : T) {r : List T} (h : Yields (fun k => b_laws_toIntS_0 (hl env k fi_laws_toIntS) (cl env k) x1 x2 x3) r) : Yields (fun k => l_laws_toIntS_0 (hl env k fi_laws_toIntS) x1 x2 x3) r := Yields.head (fun H C => q_laws_toIntS_0 H C x1 x2 x3) h
/- loop.example/heirlooms/impl.KindsOk -/
noncomputable abbrev b_impl_KindsOk (H : List Item → CS → R) (C : CallsE) (a0 : T) : R :=
 obind (C F_impl_KindsBad [a0]) fun r1 =>
 some [(T.bool ((rt r1 0).i == (-1 : Int)))]
theorem q_impl_KindsOk (H : List Item → CS → R) (C : CallsE) (a0 : T) : enterE fi_impl_KindsOk env H C [a0] = b_impl_KindsOk H C a0 := by kernel_rfl
theorem y_impl_KindsOk (a0 : T) {r : List T} (h : Yields (fun k => b_impl_KindsOk (hl env k fi_impl_KindsOk) (cl env k) a0) r) : Yields (fun k => cl env k F_impl_KindsOk [a0]) r := Yields.call (fi := fi_impl_KindsOk) rfl rfl (fun H C => q_impl_KindsOk H C a0) h
noncomputable def l_impl_rising_0 (H : List Item → CS → R) (x1 : T) (x2 : T) (x3 : T) (x4 : T) (x5 : T) (x6 : T) : R := H (hdAt fi_impl_rising.body 0) ([(0, .val 42 x1), (1, .val 3 x2), (2, .val 3 x3), (9, .val 42 x4), (10, .val 3 x5), (11, .val 3 x6)], [])
/- loop.example/heirlooms/impl.rising -/
noncomputable abbrev b_impl_rising (H : List Item → CS → R) (C : CallsE) (a0 a1 a2 : T) : R :=
 l_impl_rising_0 H a0 a1 a2 a0 (T.int (a0.es.length : Int)) (T.int (0 : Int))
theorem q_impl_rising (H : List Item → CS → R) (C : CallsE) (a0 a1 a2 : T) : enterE fi_impl_rising env H C [a0, a1, a2] = b_impl_rising H C a0 a1 a2 := by kernel_rfl
theorem y_impl_rising (a0 a1 a2 : T) {r : List T} (h : Yields (fun k => b_impl_rising (hl env k fi_impl_rising) (cl env k) a0 a1 a2) r) : Yields (fun k => cl env k F_impl_rising [a0, a1, a2]) r := Yields.call (fi := fi_impl_rising) rfl rfl (fun H C => q_impl_rising H C a0 a1 a2) h
noncomputable abbrev b_impl_rising_0 (H : List Item → CS → R) (C : CallsE) (x1 : T) (x2 : T) (x3 : T) (x4 : T) (x5 : T) (x6 : T) : R :=
 bif (decide (x6.i < x5.i)) then
 bif (decide (0 ≤ x6.i) && decide (x6.i.toNat < x4.es.length)) then
 bif (decide ((x4.nth x6.i.toNat).i < x2.i)) then
 some [(T.bool false)]
 else
 bif (decide ((x4.nth x6.i.toNat).i > x3.i)) then
 some [(T.bool false)]
 else
 bif (decide (x6.i > (0 : Int))) then
 bif (decide (0 ≤ (IntKind.wrap .i64 (x6.i - (1 : Int)))) && decide ((IntKind.wrap .i64 (x6.i - (1 : Int))).toNat < x1.es.length)) then
 bif (decide ((x4.nth x6.i.toNat).i ≤ (x1.nth ((IntKind.wrap .i64 (x6.i - (1 : Int))).toNat)).i)) then
 some [(T.bool false)]
 else
 l_impl_rising_0 H x1 x2 x3 x4 x5 (T.int (IntKind.wrap .i64 (x6.i + (1 : Int))))
 else
 none
 else
 l_impl_rising_0 H x1 x2 x3 x4 x5 (T.int (IntKind.wrap .i64 (x6.i + (1 : Int))))
 else
 none
 else
 some [(T.bool true)]
end Go.Proofs.YtfelodpbejdhlaaGreatDoor.Ra
