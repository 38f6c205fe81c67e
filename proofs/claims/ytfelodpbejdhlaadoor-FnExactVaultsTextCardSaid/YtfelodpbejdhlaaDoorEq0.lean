/- Each function as a readable term. Written by gen.py. -/
import Derived.Test.YtfelodpbejdhlaaDoorTab
set_option linter.unusedSimpArgs false
set_option linter.unusedVariables false
namespace Go.Proofs.YtfelodpbejdhlaaDoor.Ra
open Go
abbrev F_laws_FnExactVaultsText : Nat := 3
abbrev F_laws_szRecordSS : Nat := 4
abbrev F_laws_szKeptS : Nat := 5
abbrev F_spec_VaultsText : Nat := 6
abbrev F_laws_toRecordSS : Nat := 7
abbrev F_laws_toKeptS : Nat := 8
abbrev F_impl_VaultsText : Nat := 9
abbrev F_laws_eqRecordSS : Nat := 10
abbrev F_laws_eqKeptS : Nat := 11
abbrev F_laws_szRecordS : Nat := 12
abbrev F_laws_szKept : Nat := 13
abbrev F_spec_VaultsOk : Nat := 14
abbrev F_spec_l6Dec : Nat := 15
abbrev F_spec_l2Text : Nat := 16
abbrev F_laws_toRecordS : Nat := 17
abbrev F_laws_toKept : Nat := 18
abbrev F_impl_VaultsOk : Nat := 19
abbrev F_strconv_Itoa : Nat := 20
abbrev F_impl_valueText : Nat := 21
abbrev F_laws_eqRecordS : Nat := 22
abbrev F_laws_eqKept : Nat := 23
abbrev F_laws_szRecord : Nat := 24
abbrev F_laws_szValue : Nat := 25
abbrev F_spec_KindsOk : Nat := 26
abbrev F_spec_l9Ok : Nat := 27
abbrev F_laws_toRecord : Nat := 28
abbrev F_laws_toValue : Nat := 29
abbrev F_impl_KindsOk : Nat := 30
abbrev F_impl_keepable : Nat := 31
abbrev F_impl_vaultBefore : Nat := 32
abbrev F_strings_Join : Nat := 34
abbrev F_laws_eqRecord : Nat := 35
abbrev F_laws_eqValue : Nat := 36
abbrev F_laws_szStringS : Nat := 37
abbrev F_laws_szValueS : Nat := 38
abbrev F_laws_szIntS : Nat := 39
abbrev F_spec_KindsBad : Nat := 40
abbrev F_spec_l6In : Nat := 41
abbrev F_spec_l9Kind : Nat := 42
abbrev F_laws_toStringS : Nat := 43
abbrev F_laws_toValueS : Nat := 44
abbrev F_laws_toIntS : Nat := 45
abbrev F_impl_KindsBad : Nat := 46
abbrev F_impl_kindIn : Nat := 47
abbrev F_impl_recordOf : Nat := 48
abbrev F_impl_valueFits : Nat := 49
abbrev F_laws_eqStringS : Nat := 54
abbrev F_laws_eqValueS : Nat := 55
abbrev F_laws_eqIntS : Nat := 56
abbrev F_spec_l1Record : Nat := 57
abbrev F_spec_l1Kind : Nat := 58
abbrev F_spec_l2Ok : Nat := 59
abbrev F_spec_l1Can : Nat := 60
abbrev F_spec_l1Able : Nat := 61
abbrev F_impl_recordOk : Nat := 62
abbrev F_impl_kindAt : Nat := 63
abbrev F_impl_plainOk : Nat := 64
abbrev F_spec_l1Field : Nat := 71
abbrev F_spec_l2Plain : Nat := 72
abbrev F_spec_l1Has : Nat := 73
abbrev F_spec_l1Ref : Nat := 74
abbrev F_impl_ableOf : Nat := 75
abbrev F_spec_l1Base : Nat := 83
abbrev F_impl_signOf : Nat := 84
/- loop.example/heirlooms/laws.FnExactVaultsText -/
noncomputable abbrev b_laws_FnExactVaultsText (H : List Item → CS → R) (C : CallsE) (a0 a1 : T) : R :=
 obind (C F_laws_szRecordSS [a0, (T.int (1048576 : Int))]) fun r1 =>
 bif (decide ((rt r1 0).i < (0 : Int))) then
 some [(T.bool true)]
 else
 obind (C F_laws_szKeptS [a1, (rt r1 0)]) fun r2 =>
 bif (decide ((rt r2 0).i < (0 : Int))) then
 some [(T.bool true)]
 else
 obind (C F_laws_toRecordSS [a0]) fun r3 =>
 obind (C F_laws_toKeptS [a1]) fun r4 =>
 obind (C F_spec_VaultsText [(rt r3 0), (rt r4 0)]) fun r5 =>
 obind (C F_laws_toRecordSS [a0]) fun r6 =>
 obind (C F_laws_toKeptS [a1]) fun r7 =>
 obind (C F_impl_VaultsText [(rt r6 0), (rt r7 0)]) fun r8 =>
 bif (!(((rt r8 0).s).toList == ((rt r5 0).s).toList)) then
 some [(T.bool false)]
 else
 obind (C F_laws_toRecordSS [a0]) fun r9 =>
 obind (C F_laws_eqRecordSS [(rt r6 0), (rt r9 0)]) fun r10 =>
 bif (!(rt r10 0).b) then
 some [(T.bool false)]
 else
 obind (C F_laws_toKeptS [a1]) fun r11 =>
 obind (C F_laws_eqKeptS [(rt r7 0), (rt r11 0)]) fun r12 =>
 bif (!(rt r12 0).b) then
 some [(T.bool false)]
 else
 some [(T.bool true)]
theorem q_laws_FnExactVaultsText (H : List Item → CS → R) (C : CallsE) (a0 a1 : T) : enterE fi_laws_FnExactVaultsText env H C [a0, a1] = b_laws_FnExactVaultsText H C a0 a1 := by kernel_rfl
theorem y_laws_FnExactVaultsText (a0 a1 : T) {r : List T} (h : Yields (fun k => b_laws_FnExactVaultsText (hl env k fi_laws_FnExactVaultsText) (cl env k) a0 a1) r) : Yields (fun k => cl env k F_laws_FnExactVaultsText [a0, a1]) r := Yields.call (fi := fi_laws_FnExactVaultsText) rfl rfl (fun H C => q_laws_FnExactVaultsText H C a0 a1) h
noncomputable def l_laws_szRecordSS_0 (H : List Item → CS → R) (x1 : T) (x2 : T) (x3 : T) : R := H (hdAt fi_laws_szRecordSS.body 0) ([(0, .val 22 x1), (1, .val 3 x2), (5, .val 3 x3)], [])
/- loop.example/heirlooms/laws.szRecordSS -/
noncomputable abbrev b_laws_szRecordSS (H : List Item → CS → R) (C : CallsE) (a0 a1 : T) : R :=
 bif (decide ((IntKind.wrap .i64 (a1.i - (a0.es.length : Int))) < (0 : Int))) then
 some [(T.int (-1 : Int))]
 else
 l_laws_szRecordSS_0 H a0 (T.int (IntKind.wrap .i64 (a1.i - (a0.es.length : Int)))) (T.int (0 : Int))
theorem q_laws_szRecordSS (H : List Item → CS → R) (C : CallsE) (a0 a1 : T) : enterE fi_laws_szRecordSS env H C [a0, a1] = b_laws_szRecordSS H C a0 a1 := by kernel_rfl
theorem y_laws_szRecordSS (a0 a1 : T) {r : List T} (h : Yields (fun k => b_laws_szRecordSS (hl env k fi_laws_szRecordSS) (cl env k) a0 a1) r) : Yields (fun k => cl env k F_laws_szRecordSS [a0, a1]) r := Yields.call (fi := fi_laws_szRecordSS) rfl rfl (fun H C => q_laws_szRecordSS H C a0 a1) h
noncomputable abbrev b_laws_szRecordSS_0 (H : List Item → CS → R) (C : CallsE) (x1 : T) (x2 : T) (x3 : T) : R :=
 bif (decide (x3.i < (x1.es.length : Int))) then
 bif (decide (0 ≤ x3.i) && decide (x3.i.toNat < x1.es.length)) then
 obind (C F_laws_szRecordS [(x1.nth x3.i.toNat), x2]) fun r1 =>
 bif (decide ((rt r1 0).i < (0 : Int))) then
 some [(T.int (-1 : Int))]
 else
 l_laws_szRecordSS_0 H x1 (rt r1 0) (T.int (IntKind.wrap .i64 (x3.i + (1 : Int))))
 else
 none
 else
 some [x2]
theorem q_laws_szRecordSS_0 (H : List Item → CS → R) (C : CallsE) (x1 : T) (x2 : T) (x3 : T) : headE fi_laws_szRecordSS env H C (hdAt fi_laws_szRecordSS.body 0) ([(0, .val 22 x1), (1, .val 3 x2), (5, .val 3 x3)], []) = b_laws_szRecordSS_0 H C x1 x2 x3 := by kernel_rfl
theorem y_laws_szRecordSS_0 (x1 : T) (x2 : T) (x3 : T) {r : List T} (h : Yields (fun k => b_laws_szRecordSS_0 (hl env k fi_laws_szRecordSS) (cl env k) x1 x2 x3) r) : Yields (fun k => l_laws_szRecordSS_0 (hl env k fi_laws_szRecordSS) x1 x2 x3) r := Yields.head (fun H C => q_laws_szRecordSS_0 H C x1 x2 x3) h
noncomputable def l_laws_szKeptS_0 (H : List Item → CS → R) (x1 : T) (x2 : T) (x3 : T) : R := H (hdAt fi_laws_szKeptS.body 0) ([(0, .val 23 x1), (1, .val 3 x2), (5, .val 3 x3)], [])
/- loop.example/heirlooms/laws.szKeptS -/
noncomputable abbrev b_laws_szKeptS (H : List Item → CS → R) (C : CallsE) (a0 a1 : T) : R :=
 bif (decide ((IntKind.wrap .i64 (a1.i - (a0.es.length : Int))) < (0 : Int))) then
 some [(T.int (-1 : Int))]
 else
 l_laws_szKeptS_0 H a0 (T.int (IntKind.wrap .i64 (a1.i - (a0.es.length : Int)))) (T.int (0 : Int))
theorem q_laws_szKeptS (H : List Item → CS → R) (C : CallsE) (a0 a1 : T) : enterE fi_laws_szKeptS env H C [a0, a1] = b_laws_szKeptS H C a0 a1 := by kernel_rfl
theorem y_laws_szKeptS (a0 a1 : T) {r : List T} (h : Yields (fun k => b_laws_szKeptS (hl env k fi_laws_szKeptS) (cl env k) a0 a1) r) : Yields (fun k => cl env k F_laws_szKeptS [a0, a1]) r := Yields.call (fi := fi_laws_szKeptS) rfl rfl (fun H C => q_laws_szKeptS H C a0 a1) h
noncomputable abbrev b_laws_szKeptS_0 (H : List Item → CS → R) (C : CallsE) (x1 : T) (x2 : T) (x3 : T) : R :=
 bif (decide (x3.i < (x1.es.length : Int))) then
 bif (decide (0 ≤ x3.i) && decide (x3.i.toNat < x1.es.length)) then
 obind (C F_laws_szKept [(x1.nth x3.i.toNat), x2]) fun r1 =>
 bif (decide ((rt r1 0).i < (0 : Int))) then
 some [(T.int (-1 : Int))]
 else
 l_laws_szKeptS_0 H x1 (rt r1 0) (T.int (IntKind.wrap .i64 (x3.i + (1 : Int))))
 else
 none
 else
 some [x2]
theorem q_laws_szKeptS_0 (H : List Item → CS → R) (C : CallsE) (x1 : T) (x2 : T) (x3 : T) : headE fi_laws_szKeptS env H C (hdAt fi_laws_szKeptS.body 0) ([(0, .val 23 x1), (1, .val 3 x2), (5, .val 3 x3)], []) = b_laws_szKeptS_0 H C x1 x2 x3 := by kernel_rfl
theorem y_laws_szKeptS_0 (x1 : T) (x2 : T) (x3 : T) {r : List T} (h : Yields (fun k => b_laws_szKeptS_0 (hl env k fi_laws_szKeptS) (cl env k) x1 x2 x3) r) : Yields (fun k => l_laws_szKeptS_0 (hl env k fi_laws_szKeptS) x1 x2 x3) r := Yields.head (fun H C => q_laws_szKeptS_0 H C x1 x2 x3) h
noncomputable def l_spec_VaultsText_0 (H : List Item → CS → R) (x1 : T) (x2 : T) (x3 : T) (x4 : T) : R := H (hdAt fi_spec_VaultsText.body 0) ([(0, .val 27 x1), (1, .val 29 x2), (5, .val 9 x3), (6, .val 3 x4)], [])
/- loop.example/heirlooms/spec.VaultsText -/
noncomputable abbrev b_spec_VaultsText (H : List Item → CS → R) (C : CallsE) (a0 a1 : T) : R :=
 l_spec_VaultsText_0 H a0 a1 (T.str (⟨#[]⟩ : ByteArray)) (T.int (0 : Int))
theorem q_spec_VaultsText (H : List Item → CS → R) (C : CallsE) (a0 a1 : T) : enterE fi_spec_VaultsText env H C [a0, a1] = b_spec_VaultsText H C a0 a1 := by kernel_rfl
theorem y_spec_VaultsText (a0 a1 : T) {r : List T} (h : Yields (fun k => b_spec_VaultsText (hl env k fi_spec_VaultsText) (cl env k) a0 a1) r) : Yields (fun k => cl env k F_spec_VaultsText [a0, a1]) r := Yields.call (fi := fi_spec_VaultsText) rfl rfl (fun H C => q_spec_VaultsText H C a0 a1) h
noncomputable abbrev b_spec_VaultsText_0 (H : List Item → CS → R) (C : CallsE) (x1 : T) (x2 : T) (x3 : T) (x4 : T) : R :=
 bif (decide (x4.i < (x2.es.length : Int))) then
 obind (C F_spec_VaultsOk [x1, x2]) fun r1 =>
 bif (rt r1 0).b then
 bif (decide (x3.s.size + (⟨#[64]⟩ : ByteArray).size ≤ LIM)) then
 bif (decide (0 ≤ x4.i) && decide (x4.i.toNat < x2.es.length)) then
 obind (C F_spec_l6Dec [((x2.nth x4.i.toNat).fld 0)]) fun r2 =>
 bif (decide ((x3.s ++ (⟨#[64]⟩ : ByteArray)).size + ((rt r2 0).s).size ≤ LIM)) then
 bif (decide (((x3.s ++ (⟨#[64]⟩ : ByteArray)) ++ ((rt r2 0).s)).size + (⟨#[32]⟩ : ByteArray).size ≤ LIM)) then
 obind (C F_spec_l2Text [((x2.nth x4.i.toNat).fld 1)]) fun r3 =>
 bif (decide ((((x3.s ++ (⟨#[64]⟩ : ByteArray)) ++ ((rt r2 0).s)) ++ (⟨#[32]⟩ : ByteArray)).size + ((rt r3 0).s).size ≤ LIM)) then
 bif (decide (((((x3.s ++ (⟨#[64]⟩ : ByteArray)) ++ ((rt r2 0).s)) ++ (⟨#[32]⟩ : ByteArray)) ++ ((rt r3 0).s)).size + (⟨#[10]⟩ : ByteArray).size ≤ LIM)) then
 l_spec_VaultsText_0 H x1 x2 (T.str (((((x3.s ++ (⟨#[64]⟩ : ByteArray)) ++ ((rt r2 0).s)) ++ (⟨#[32]⟩ : ByteArray)) ++ ((rt r3 0).s)) ++ (⟨#[10]⟩ : ByteArray))) (T.int (IntKind.wrap .i64 (x4.i + (1 : Int))))
 else
 none
 else
 none
 else
 none
 else
 none
 else
 none
 else
 none
 else
 some [x3]
 else
 some [x3]
theorem e_spec_VaultsText_0 (H : List Item → CS → R) (C : CallsE) (x1 : T) (x2 : T) (x3 : T) (x4 : T) : headE fi_spec_VaultsText env H C (hdAt fi_spec_VaultsText.body 0) ([(0, .val 27 x1), (1, .val 29 x2), (5, .val 9 x3), (6, .val 3 x4)], []) =
 bif ((!((decide (x4.i < (x2.es.length : Int))) == true)) || true) then
 bif ((!((decide (x4.i < (x2.es.length : Int))) == true)) || true) then
 bif ((!((decide (x4.i < (x2.es.length : Int))) == true)) || (((decide (x4.i < (x2.es.length : Int))) == true) && (((decide (x4.i < (x2.es.length : Int))) == true) && true))) then
 obind ((bif ((decide (x4.i < (x2.es.length : Int))) == true) then C F_spec_VaultsOk [x1, x2] else some [])) fun r1 =>
 bif (bif (decide (x4.i < (x2.es.length : Int))) then ((decide (x4.i < (x2.es.length : Int))) == true) else true) then
 bif (bif (decide (x4.i < (x2.es.length : Int))) then (rt r1 0) else (T.bool false)).b then
 bif (decide (x3.s.size + (⟨#[64]⟩ : ByteArray).size ≤ LIM)) then
 bif (decide (0 ≤ x4.i) && decide (x4.i.toNat < x2.es.length)) then
 obind (C F_spec_l6Dec [((x2.nth x4.i.toNat).fld 0)]) fun r2 =>
 bif (decide ((x3.s ++ (⟨#[64]⟩ : ByteArray)).size + ((rt r2 0).s).size ≤ LIM)) then
 bif (decide (((x3.s ++ (⟨#[64]⟩ : ByteArray)) ++ ((rt r2 0).s)).size + (⟨#[32]⟩ : ByteArray).size ≤ LIM)) then
 bif (decide (0 ≤ x4.i) && decide (x4.i.toNat < x2.es.length)) then
 obind (C F_spec_l2Text [((x2.nth x4.i.toNat).fld 1)]) fun r3 =>
 bif (decide ((((x3.s ++ (⟨#[64]⟩ : ByteArray)) ++ ((rt r2 0).s)) ++ (⟨#[32]⟩ : ByteArray)).size + ((rt r3 0).s).size ≤ LIM)) then
 bif (decide (((((x3.s ++ (⟨#[64]⟩ : ByteArray)) ++ ((rt r2 0).s)) ++ (⟨#[32]⟩ : ByteArray)) ++ ((rt r3 0).s)).size + (⟨#[10]⟩ : ByteArray).size ≤ LIM)) then
 l_spec_VaultsText_0 H x1 x2 (T.str (((((x3.s ++ (⟨#[64]⟩ : ByteArray)) ++ ((rt r2 0).s)) ++ (⟨#[32]⟩ : ByteArray)) ++ ((rt r3 0).s)) ++ (⟨#[10]⟩ : ByteArray))) (T.int (IntKind.wrap .i64 (x4.i + (1 : Int))))
 else
 none
 else
 none
 else
 none
 else
 none
 else
 none
 else
 none
 else
 none
 else
 some [x3]
 else
 none
 else
 none
 else
 none
 else
 none := by kernel_rfl
theorem q_spec_VaultsText_0 (H : List Item → CS → R) (C : CallsE) (x1 : T) (x2 : T) (x3 : T) (x4 : T) : headE fi_spec_VaultsText env H C (hdAt fi_spec_VaultsText.body 0) ([(0, .val 27 x1), (1, .val 29 x2), (5, .val 9 x3), (6, .val 3 x4)], []) = b_spec_VaultsText_0 H C x1 x2 x3 x4 := by
 refine (e_spec_VaultsText_0 H C x1 x2 x3 x4).trans ?_
 unfold b_spec_VaultsText_0
 all_goals cases hc : ((decide (x4.i < (x2.es.length : Int)))) with
 | true =>
  try simp only [bs]
  all_goals refine obind_congr fun r1 => ?_
  all_goals try simp only [bs]
  all_goals cases hc : ((rt r1 0).b) with
  | true =>
   try simp only [bs]
   all_goals cases hc : ((decide (x3.s.size + (⟨#[64]⟩ : ByteArray).size ≤ LIM))) with
   | true =>
    try simp only [bs]
    all_goals cases hc : ((decide (0 ≤ x4.i) && decide (x4.i.toNat < x2.es.length))) with
    | true =>
     try simp only [bs]
     all_goals refine obind_congr fun r2 => ?_
     all_goals try simp only [bs]
     all_goals cases hc : ((decide ((x3.s ++ (⟨#[64]⟩ : ByteArray)).size + ((rt r2 0).s).size ≤ LIM))) with
     | true =>
      try simp only [bs]
      all_goals cases hc : ((decide (((x3.s ++ (⟨#[64]⟩ : ByteArray)) ++ ((rt r2 0).s)).size + (⟨#[32]⟩ : ByteArray).size ≤ LIM))) with
      | true =>
       try simp only [bs]
       all_goals refine obind_congr fun r3 => ?_
       all_goals try simp only [bs]
       all_goals cases hc : ((decide ((((x3.s ++ (⟨#[64]⟩ : ByteArray)) ++ ((rt r2 0).s)) ++ (⟨#[32]⟩ : ByteArray)).size + ((rt r3 0).s).size ≤ LIM))) with
       | true =>
        try simp only [bs]
        all_goals cases hc : ((decide (((((x3.s ++ (⟨#[64]⟩ : ByteArray)) ++ ((rt r2 0).s)) ++ (⟨#[32]⟩ : ByteArray)) ++ ((rt r3 0).s)).size + (⟨#[10]⟩ : ByteArray).size ≤ LIM))) with
        | true =>
         try simp only [bs]
         all_goals kernel_rfl
        | false =>
         try simp only [bs]
         all_goals kernel_rfl
       | false =>
        try simp only [bs]
        all_goals kernel_rfl
      | false =>
       try simp only [bs]
       all_goals kernel_rfl
     | false =>
      try simp only [bs]
      all_goals kernel_rfl
    | false =>
     try simp only [bs]
     all_goals kernel_rfl
   | false =>
    try simp only [bs]
    all_goals kernel_rfl
  | false =>
   try simp only [bs]
   all_goals kernel_rfl
 | false =>
  try simp only [bs]
  all_goals kernel_rfl
theorem y_spec_VaultsText_0 (x1 : T) (x2 : T) (x3 : T) (x4 : T) {r : List T} (h : Yields (fun k => b_spec_VaultsText_0 (hl env k fi_spec_VaultsText) (cl env k) x1 x2 x3 x4) r) : Yields (fun k => l_spec_VaultsText_0 (hl env k fi_spec_VaultsText) x1 x2 x3 x4) r := Yields.head (fun H C => q_spec_VaultsText_0 H C x1 x2 x3 x4) h
noncomputable def l_laws_toRecordSS_0 (H : List Item → CS → R) (x1 : T) (x2 : T) (x3 : T) : R := H (hdAt fi_laws_toRecordSS.body 0) ([(0, .val 22 x1), (3, .sref 27 3 []), (4, .val 3 x2)], [(3, ⟨27, x3, .dp, false⟩)])
/- loop.example/heirlooms/laws.toRecordSS -/
noncomputable abbrev b_laws_toRecordSS (H : List Item → CS → R) (C : CallsE) (a0 : T) : R :=
 bif (decide (0 ≤ (a0.es.length : Int)) && (decide ((a0.es.length : Int) ≤ (a0.es.length : Int)) && decide (a0.es.length ≤ LIM))) then
 l_laws_toRecordSS_0 H a0 (T.int (0 : Int)) (T.sl (List.replicate a0.es.length (T.sl [])))
 else
 none
theorem q_laws_toRecordSS (H : List Item → CS → R) (C : CallsE) (a0 : T) : enterE fi_laws_toRecordSS env H C [a0] = b_laws_toRecordSS H C a0 := by kernel_rfl
theorem y_laws_toRecordSS (a0 : T) {r : List T} (h : Yields (fun k => b_laws_toRecordSS (hl env k fi_laws_toRecordSS) (cl env k) a0) r) : Yields (fun k => cl env k F_laws_toRecordSS [a0]) r := Yields.call (fi := fi_laws_toRecordSS) rfl rfl (fun H C => q_laws_toRecordSS H C a0) h
noncomputable abbrev b_laws_toRecordSS_0 (H : List Item → CS → R) (C : CallsE) (x1 : T) (x2 : T) (x3 : T) : R :=
 bif (decide (x2.i < (x1.es.length : Int))) then
 bif (decide (0 ≤ x2.i) && decide (x2.i.toNat < x1.es.length)) then
 obind (C F_laws_toRecordS [(x1.nth x2.i.toNat)]) fun r1 =>
 bif (decide (0 ≤ x2.i) && decide (x2.i.toNat < x3.es.length)) then
 l_laws_toRecordSS_0 H x1 (T.int (IntKind.wrap .i64 (x2.i + (1 : Int)))) (T.sl (x3.es.set x2.i.toNat (rt r1 0)))
 else
 none
 else
 none
 else
 some [x3]
theorem q_laws_toRecordSS_0 (H : List Item → CS → R) (C : CallsE) (x1 : T) (x2 : T) (x3 : T) : headE fi_laws_toRecordSS env H C (hdAt fi_laws_toRecordSS.body 0) ([(0, .val 22 x1), (3, .sref 27 3 []), (4, .val 3 x2)], [(3, ⟨27, x3, .dp, false⟩)]) = b_laws_toRecordSS_0 H C x1 x2 x3 := by kernel_rfl
theorem y_laws_toRecordSS_0 (x1 : T) (x2 : T) (x3 : T) {r : List T} (h : Yields (fun k => b_laws_toRecordSS_0 (hl env k fi_laws_toRecordSS) (cl env k) x1 x2 x3) r) : Yields (fun k => l_laws_toRecordSS_0 (hl env k fi_laws_toRecordSS) x1 x2 x3) r := Yields.head (fun H C => q_laws_toRecordSS_0 H C x1 x2 x3) h
noncomputable def l_laws_toKeptS_0 (H : List Item → CS → R) (x1 : T) (x2 : T) (x3 : T) : R := H (hdAt fi_laws_toKeptS.body 0) ([(0, .val 23 x1), (3, .sref 29 3 []), (4, .val 3 x2)], [(3, ⟨29, x3, .dp, false⟩)])
/- loop.example/heirlooms/laws.toKeptS -/
noncomputable abbrev b_laws_toKeptS (H : List Item → CS → R) (C : CallsE) (a0 : T) : R :=
 bif (decide (0 ≤ (a0.es.length : Int)) && (decide ((a0.es.length : Int) ≤ (a0.es.length : Int)) && decide (a0.es.length ≤ LIM))) then
 l_laws_toKeptS_0 H a0 (T.int (0 : Int)) (T.sl (List.replicate a0.es.length (T.st [(T.int (0 : Int)), (T.st [(T.str (⟨#[]⟩ : ByteArray)), (T.int (0 : Int)), (T.sl []), (T.sl [])])])))
 else
 none
theorem q_laws_toKeptS (H : List Item → CS → R) (C : CallsE) (a0 : T) : enterE fi_laws_toKeptS env H C [a0] = b_laws_toKeptS H C a0 := by kernel_rfl
theorem y_laws_toKeptS (a0 : T) {r : List T} (h : Yields (fun k => b_laws_toKeptS (hl env k fi_laws_toKeptS) (cl env k) a0) r) : Yields (fun k => cl env k F_laws_toKeptS [a0]) r := Yields.call (fi := fi_laws_toKeptS) rfl rfl (fun H C => q_laws_toKeptS H C a0) h
noncomputable abbrev b_laws_toKeptS_0 (H : List Item → CS → R) (C : CallsE) (x1 : T) (x2 : T) (x3 : T) : R :=
 bif (decide (x2.i < (x1.es.length : Int))) then
 bif (decide (0 ≤ x2.i) && decide (x2.i.toNat < x1.es.length)) then
 obind (C F_laws_toKept [(x1.nth x2.i.toNat)]) fun r1 =>
 bif (decide (0 ≤ x2.i) && decide (x2.i.toNat < x3.es.length)) then
 l_laws_toKeptS_0 H x1 (T.int (IntKind.wrap .i64 (x2.i + (1 : Int)))) (T.sl (x3.es.set x2.i.toNat (T.st [((rt r1 0).fld 0), (T.st [(((rt r1 0).fld 1).fld 0), (((rt r1 0).fld 1).fld 1), (((rt r1 0).fld 1).fld 2), (((rt r1 0).fld 1).fld 3)])])))
 else
 none
 else
 none
 else
 some [x3]
theorem q_laws_toKeptS_0 (H : List Item → CS → R) (C : CallsE) (x1 : T) (x2 : T) (x3 : T) : headE fi_laws_toKeptS env H C (hdAt fi_laws_toKeptS.body 0) ([(0, .val 23 x1), (3, .sref 29 3 []), (4, .val 3 x2)], [(3, ⟨29, x3, .dp, false⟩)]) = b_laws_toKeptS_0 H C x1 x2 x3 := by kernel_rfl
theorem y_laws_toKeptS_0 (x1 : T) (x2 : T) (x3 : T) {r : List T} (h : Yields (fun k => b_laws_toKeptS_0 (hl env k fi_laws_toKeptS) (cl env k) x1 x2 x3) r) : Yields (fun k => l_laws_toKeptS_0 (hl env k fi_laws_toKeptS) x1 x2 x3) r := Yields.head (fun H C => q_laws_toKeptS_0 H C x1 x2 x3) h
noncomputable def l_impl_VaultsText_0 (H : List Item → CS → R) (x1 : T) (x2 : T) (x3 : T) (x4 : T) : R := H (hdAt fi_impl_VaultsText.body 0) ([(5, .val 9 x1), (12, .val 29 x2), (13, .val 3 x3), (14, .val 3 x4)], [])
/- loop.example/heirlooms/impl.VaultsText -/
noncomputable abbrev b_impl_VaultsText (H : List Item → CS → R) (C : CallsE) (a0 a1 : T) : R :=
 obind (C F_impl_VaultsOk [a0, a1]) fun r1 =>
 bif (!(rt r1 0).b) then
 some [(T.str (⟨#[]⟩ : ByteArray))]
 else
 l_impl_VaultsText_0 H (T.str (⟨#[]⟩ : ByteArray)) a1 (T.int (a1.es.length : Int)) (T.int (0 : Int))
theorem q_impl_VaultsText (H : List Item → CS → R) (C : CallsE) (a0 a1 : T) : enterE fi_impl_VaultsText env H C [a0, a1] = b_impl_VaultsText H C a0 a1 := by kernel_rfl
theorem y_impl_VaultsText (a0 a1 : T) {r : List T} (h : Yields (fun k => b_impl_VaultsText (hl env k fi_impl_VaultsText) (cl env k) a0 a1) r) : Yields (fun k => cl env k F_impl_VaultsText [a0, a1]) r := Yields.call (fi := fi_impl_VaultsText) rfl rfl (fun H C => q_impl_VaultsText H C a0 a1) h
noncomputable abbrev b_impl_VaultsText_0 (H : List Item → CS → R) (C : CallsE) (x1 : T) (x2 : T) (x3 : T) (x4 : T) : R :=
 bif (decide (x4.i < x3.i)) then
 bif (decide (0 ≤ x4.i) && decide (x4.i.toNat < x2.es.length)) then
 obind (C F_strconv_Itoa [((x2.nth x4.i.toNat).fld 0)]) fun r1 =>
 bif (decide ((⟨#[64]⟩ : ByteArray).size + ((rt r1 0).s).size ≤ LIM)) then
 bif (decide (((⟨#[64]⟩ : ByteArray) ++ ((rt r1 0).s)).size + (⟨#[32]⟩ : ByteArray).size ≤ LIM)) then
 obind (C F_impl_valueText [((x2.nth x4.i.toNat).fld 1)]) fun r2 =>
 bif (decide ((((⟨#[64]⟩ : ByteArray) ++ ((rt r1 0).s)) ++ (⟨#[32]⟩ : ByteArray)).size + ((rt r2 0).s).size ≤ LIM)) then
 bif (decide (((((⟨#[64]⟩ : ByteArray) ++ ((rt r1 0).s)) ++ (⟨#[32]⟩ : ByteArray)) ++ ((rt r2 0).s)).size + (⟨#[10]⟩ : ByteArray).size ≤ LIM)) then
 bif (decide (x1.s.size + (((((⟨#[64]⟩ : ByteArray) ++ ((rt r1 0).s)) ++ (⟨#[32]⟩ : ByteArray)) ++ ((rt r2 0).s)) ++ (⟨#[10]⟩ : ByteArray)).size ≤ LIM)) then
 l_impl_VaultsText_0 H (T.str (x1.s ++ (((((⟨#[64]⟩ : ByteArray) ++ ((rt r1 0).s)) ++ (⟨#[32]⟩ : ByteArray)) ++ ((rt r2 0).s)) ++ (⟨#[10]⟩ : ByteArray)))) x2 x3 (T.int (IntKind.wrap .i64 (x4.i + (1 : Int))))
 else
 none
 else
 none
 else
 none
 else
 none
 else
 none
 else
 none
 else
 some [x1]
theorem q_impl_VaultsText_0 (H : List Item → CS → R) (C : CallsE) (x1 : T) (x2 : T) (x3 : T) (x4 : T) : headE fi_impl_VaultsText env H C (hdAt fi_impl_VaultsText.body 0) ([(5, .val 9 x1), (12, .val 29 x2), (13, .val 3 x3), (14, .val 3 x4)], []) = b_impl_VaultsText_0 H C x1 x2 x3 x4 := by kernel_rfl
theorem y_impl_VaultsText_0 (x1 : T) (x2 : T) (x3 : T) (x4 : T) {r : List T} (h : Yields (fun k => b_impl_VaultsText_0 (hl env k fi_impl_VaultsText) (cl env k) x1 x2 x3 x4) r) : Yields (fun k => l_impl_VaultsText_0 (hl env k fi_impl_VaultsText) x1 x2 x3 x4) r := Yields.head (fun H C => q_impl_VaultsText_0 H C x1 x2 x3 x4) h
noncomputable def l_laws_eqRecordSS_0 (H : List Item → CS → R) (x1 : T) (x2 : T) (x3 : T) : R := H (hdAt fi_laws_eqRecordSS.body 0) ([(0, .val 27 x1), (1, .val 27 x2), (5, .val 3 x3)], [])
/- loop.example/heirlooms/laws.eqRecordSS -/
noncomputable abbrev b_laws_eqRecordSS (H : List Item → CS → R) (C : CallsE) (a0 a1 : T) : R :=
 bif ((a0.es.length : Int) != (a1.es.length : Int)) then
 some [(T.bool false)]
 else
 l_laws_eqRecordSS_0 H a0 a1 (T.int (0 : Int))
theorem q_laws_eqRecordSS (H : List Item → CS → R) (C : CallsE) (a0 a1 : T) : enterE fi_laws_eqRecordSS env H C [a0, a1] = b_laws_eqRecordSS H C a0 a1 := by kernel_rfl
theorem y_laws_eqRecordSS (a0 a1 : T) {r : List T} (h : Yields (fun k => b_laws_eqRecordSS (hl env k fi_laws_eqRecordSS) (cl env k) a0 a1) r) : Yields (fun k => cl env k F_laws_eqRecordSS [a0, a1]) r := Yields.call (fi := fi_laws_eqRecordSS) rfl rfl (fun H C => q_laws_eqRecordSS H C a0 a1) h
noncomputable abbrev b_laws_eqRecordSS_0 (H : List Item → CS → R) (C : CallsE) (x1 : T) (x2 : T) (x3 : T) : R :=
 bif (decide (x3.i < (x1.es.length : Int))) then
 bif (decide (0 ≤ x3.i) && decide (x3.i.toNat < x1.es.length)) then
 bif (decide (0 ≤ x3.i) && decide (x3.i.toNat < x2.es.length)) then
 obind (C F_laws_eqRecordS [(x1.nth x3.i.toNat), (x2.nth x3.i.toNat)]) fun r1 =>
 bif (!(rt r1 0).b) then
 some [(T.bool false)]
 else
 l_laws_eqRecordSS_0 H x1 x2 (T.int (IntKind.wrap .i64 (x3.i + (1 : Int))))
 else
 none
 else
 none
 else
 some [(T.bool true)]
theorem q_laws_eqRecordSS_0 (H : List Item → CS → R) (C : CallsE) (x1 : T) (x2 : T) (x3 : T) : headE fi_laws_eqRecordSS env H C (hdAt fi_laws_eqRecordSS.body 0) ([(0, .val 27 x1), (1, .val 27 x2), (5, .val 3 x3)], []) = b_laws_eqRecordSS_0 H C x1 x2 x3 := by kernel_rfl
theorem y_laws_eqRecordSS_0 (x1 : T) (x2 : T) (x3 : T) {r : List T} (h : Yields (fun k => b_laws_eqRecordSS_0 (hl env k fi_laws_eqRecordSS) (cl env k) x1 x2 x3) r) : Yields (fun k => l_laws_eqRecordSS_0 (hl env k fi_laws_eqRecordSS) x1 x2 x3) r := Yields.head (fun H C => q_laws_eqRecordSS_0 H C x1 x2 x3) h
noncomputable def l_laws_eqKeptS_0 (H : List Item → CS → R) (x1 : T) (x2 : T) (x3 : T) : R := H (hdAt fi_laws_eqKeptS.body 0) ([(0, .val 29 x1), (1, .val 29 x2), (5, .val 3 x3)], [])
/- loop.example/heirlooms/laws.eqKeptS -/
noncomputable abbrev b_laws_eqKeptS (H : List Item → CS → R) (C : CallsE) (a0 a1 : T) : R :=
 bif ((a0.es.length : Int) != (a1.es.length : Int)) then
 some [(T.bool false)]
 else
 l_laws_eqKeptS_0 H a0 a1 (T.int (0 : Int))
theorem q_laws_eqKeptS (H : List Item → CS → R) (C : CallsE) (a0 a1 : T) : enterE fi_laws_eqKeptS env H C [a0, a1] = b_laws_eqKeptS H C a0 a1 := by kernel_rfl
theorem y_laws_eqKeptS (a0 a1 : T) {r : List T} (h : Yields (fun k => b_laws_eqKeptS (hl env k fi_laws_eqKeptS) (cl env k) a0 a1) r) : Yields (fun k => cl env k F_laws_eqKeptS [a0, a1]) r := Yields.call (fi := fi_laws_eqKeptS) rfl rfl (fun H C => q_laws_eqKeptS H C a0 a1) h
noncomputable abbrev b_laws_eqKeptS_0 (H : List Item → CS → R) (C : CallsE) (x1 : T) (x2 : T) (x3 : T) : R :=
 bif (decide (x3.i < (x1.es.length : Int))) then
 bif (decide (0 ≤ x3.i) && decide (x3.i.toNat < x1.es.length)) then
 bif (decide (0 ≤ x3.i) && decide (x3.i.toNat < x2.es.length)) then
 obind (C F_laws_eqKept [(x1.nth x3.i.toNat), (x2.nth x3.i.toNat)]) fun r1 =>
 bif (!(rt r1 0).b) then
 some [(T.bool false)]
 else
 l_laws_eqKeptS_0 H x1 x2 (T.int (IntKind.wrap .i64 (x3.i + (1 : Int))))
 else
 none
 else
 none
 else
 some [(T.bool true)]
theorem q_laws_eqKeptS_0 (H : List Item → CS → R) (C : CallsE) (x1 : T) (x2 : T) (x3 : T) : headE fi_laws_eqKeptS env H C (hdAt fi_laws_eqKeptS.body 0) ([(0, .val 29 x1), (1, .val 29 x2), (5, .val 3 x3)], []) = b_laws_eqKeptS_0 H C x1 x2 x3 := by kernel_rfl
theorem y_laws_eqKeptS_0 (x1 : T) (x2 : T) (x3 : T) {r : List T} (h : Yields (fun k => b_laws_eqKeptS_0 (hl env k fi_laws_eqKeptS) (cl env k) x1 x2 x3) r) : Yields (fun k => l_laws_eqKeptS_0 (hl env k fi_laws_eqKeptS) x1 x2 x3) r := Yields.head (fun H C => q_laws_eqKeptS_0 H C x1 x2 x3) h
noncomputable def l_laws_szRecordS_0 (H : List Item → CS → R) (x1 : T) (x2 : T) (x3 : T) : R := H (hdAt fi_laws_szRecordS.body 0) ([(0, .val 35 x1), (1, .val 3 x2), (5, .val 3 x3)], [])
/- loop.example/heirlooms/laws.szRecordS -/
noncomputable abbrev b_laws_szRecordS (H : List Item → CS → R) (C : CallsE) (a0 a1 : T) : R :=
 bif (decide ((IntKind.wrap .i64 (a1.i - (a0.es.length : Int))) < (0 : Int))) then
 some [(T.int (-1 : Int))]
 else
 l_laws_szRecordS_0 H a0 (T.int (IntKind.wrap .i64 (a1.i - (a0.es.length : Int)))) (T.int (0 : Int))
theorem q_laws_szRecordS (H : List Item → CS → R) (C : CallsE) (a0 a1 : T) : enterE fi_laws_szRecordS env H C [a0, a1] = b_laws_szRecordS H C a0 a1 := by kernel_rfl
theorem y_laws_szRecordS (a0 a1 : T) {r : List T} (h : Yields (fun k => b_laws_szRecordS (hl env k fi_laws_szRecordS) (cl env k) a0 a1) r) : Yields (fun k => cl env k F_laws_szRecordS [a0, a1]) r := Yields.call (fi := fi_laws_szRecordS) rfl rfl (fun H C => q_laws_szRecordS H C a0 a1) h
noncomputable abbrev b_laws_szRecordS_0 (H : List Item → CS → R) (C : CallsE) (x1 : T) (x2 : T) (x3 : T) : R :=
 bif (decide (x3.i < (x1.es.length : Int))) then
 bif (decide (0 ≤ x3.i) && decide (x3.i.toNat < x1.es.length)) then
 obind (C F_laws_szRecord [(x1.nth x3.i.toNat), x2]) fun r1 =>
 bif (decide ((rt r1 0).i < (0 : Int))) then
 some [(T.int (-1 : Int))]
 else
 l_laws_szRecordS_0 H x1 (rt r1 0) (T.int (IntKind.wrap .i64 (x3.i + (1 : Int))))
 else
 none
 else
 some [x2]
theorem q_laws_szRecordS_0 (H : List Item → CS → R) (C : CallsE) (x1 : T) (x2 : T) (x3 : T) : headE fi_laws_szRecordS env H C (hdAt fi_laws_szRecordS.body 0) ([(0, .val 35 x1), (1, .val 3 x2), (5, .val 3 x3)], []) = b_laws_szRecordS_0 H C x1 x2 x3 := by kernel_rfl
theorem y_laws_szRecordS_0 (x1 : T) (x2 : T) (x3 : T) {r : List T} (h : Yields (fun k => b_laws_szRecordS_0 (hl env k fi_laws_szRecordS) (cl env k) x1 x2 x3) r) : Yields (fun k => l_laws_szRecordS_0 (hl env k fi_laws_szRecordS) x1 x2 x3) r := Yields.head (fun H C => q_laws_szRecordS_0 H C x1 x2 x3) h
/- loop.example/heirlooms/laws.szKept -/
noncomputable abbrev b_laws_szKept (H : List Item → CS → R) (C : CallsE) (a0 a1 : T) : R :=
 obind (C F_laws_szValue [(a0.fld 1), a1]) fun r1 =>
 bif (decide ((rt r1 0).i < (0 : Int))) then
 some [(T.int (-1 : Int))]
 else
 some [(rt r1 0)]
theorem q_laws_szKept (H : List Item → CS → R) (C : CallsE) (a0 a1 : T) : enterE fi_laws_szKept env H C [a0, a1] = b_laws_szKept H C a0 a1 := by kernel_rfl
theorem y_laws_szKept (a0 a1 : T) {r : List T} (h : Yields (fun k => b_laws_szKept (hl env k fi_laws_szKept) (cl env k) a0 a1) r) : Yields (fun k => cl env k F_laws_szKept [a0, a1]) r := Yields.call (fi := fi_laws_szKept) rfl rfl (fun H C => q_laws_szKept H C a0 a1) h
/- loop.example/heirlooms/spec.VaultsOk -/
noncomputable abbrev b_spec_VaultsOk (H : List Item → CS → R) (C : CallsE) (a0 a1 : T) : R :=
 obind (C F_spec_KindsOk [a0]) fun r1 =>
 bif (rt r1 0).b then
 obind (C F_spec_l9Ok [a0, a1]) fun r2 =>
 some [(rt r2 0)]
 else
 some [(T.bool false)]
theorem e_spec_VaultsOk (H : List Item → CS → R) (C : CallsE) (a0 a1 : T) : enterE fi_spec_VaultsOk env H C [a0, a1] =
 obind (C F_spec_KindsOk [a0]) fun r1 =>
 bif ((!((rt r1 0).b == true)) || true) then
 bif ((!((rt r1 0).b == true)) || true) then
 bif ((!((rt r1 0).b == true)) || (((rt r1 0).b == true) && (((rt r1 0).b == true) && true))) then
 obind ((bif ((rt r1 0).b == true) then C F_spec_l9Ok [a0, a1] else some [])) fun r2 =>
 bif (bif (rt r1 0).b then ((rt r1 0).b == true) else true) then
 some [(bif (rt r1 0).b then (rt r2 0) else (T.bool false))]
 else
 none
 else
 none
 else
 none
 else
 none := by kernel_rfl
theorem q_spec_VaultsOk (H : List Item → CS → R) (C : CallsE) (a0 a1 : T) : enterE fi_spec_VaultsOk env H C [a0, a1] = b_spec_VaultsOk H C a0 a1 := by
 refine (e_spec_VaultsOk H C a0 a1).trans ?_
 unfold b_spec_VaultsOk
 all_goals refine obind_congr fun r1 => ?_
 all_goals try simp only [bs]
 all_goals cases hc : ((rt r1 0).b) with
 | true =>
  try simp only [bs]
  all_goals refine obind_congr fun r2 => ?_
  all_goals try simp only [bs]
  all_goals kernel_rfl
 | false =>
  try simp only [bs]
  all_goals kernel_rfl
theorem y_spec_VaultsOk (a0 a1 : T) {r : List T} (h : Yields (fun k => b_spec_VaultsOk (hl env k fi_spec_VaultsOk) (cl env k) a0 a1) r) : Yields (fun k => cl env k F_spec_VaultsOk [a0, a1]) r := Yields.call (fi := fi_spec_VaultsOk) rfl rfl (fun H C => q_spec_VaultsOk H C a0 a1) h
/- loop.example/heirlooms/spec.l6Dec -/
noncomputable abbrev b_spec_l6Dec (H : List Item → CS → R) (C : CallsE) (a0 : T) : R :=
 bif (decide (a0.i < (-9223372036854775807 : Int))) then
 some [(T.str (⟨#[45, 57, 50, 50, 51, 51, 55, 50, 48, 51, 54, 56, 53, 52, 55, 55, 53, 56, 48, 56]⟩ : ByteArray))]
 else
 bif (decide (a0.i < (0 : Int))) then
 obind (C F_spec_l6Dec [(T.int (IntKind.wrap .i64 (0 - a0.i)))]) fun r1 =>
 bif (decide ((⟨#[45]⟩ : ByteArray).size + ((rt r1 0).s).size ≤ LIM)) then
 some [(T.str ((⟨#[45]⟩ : ByteArray) ++ ((rt r1 0).s)))]
 else
 none
 else
 bif (decide (a0.i < (10 : Int))) then
 some [(T.str (⟨([(T.int (IntKind.wrap .u8 (IntKind.wrap .i64 ((48 : Int) + a0.i))))].map fun c => UInt8.ofNat c.i.toNat).toArray⟩ : ByteArray))]
 else
 bif (!((10 : Int) == 0)) then
 obind (C F_spec_l6Dec [(T.int (IntKind.wrap .i64 ((a0.i).tdiv (10 : Int))))]) fun r1 =>
 bif (decide (((rt r1 0).s).size + (⟨([(T.int (IntKind.wrap .u8 (IntKind.wrap .i64 ((48 : Int) + ((a0.i : Int).tmod (10 : Int))))))].map fun c => UInt8.ofNat c.i.toNat).toArray⟩ : ByteArray).size ≤ LIM)) then
 some [(T.str (((rt r1 0).s) ++ (⟨([(T.int (IntKind.wrap .u8 (IntKind.wrap .i64 ((48 : Int) + ((a0.i : Int).tmod (10 : Int))))))].map fun c => UInt8.ofNat c.i.toNat).toArray⟩ : ByteArray)))]
 else
 none
 else
 none
theorem e_spec_l6Dec (H : List Item → CS → R) (C : CallsE) (a0 : T) : enterE fi_spec_l6Dec env H C [a0] =
 bif (decide (a0.i < (-9223372036854775807 : Int))) then
 some [(T.str (⟨#[45, 57, 50, 50, 51, 51, 55, 50, 48, 51, 54, 56, 53, 52, 55, 55, 53, 56, 48, 56]⟩ : ByteArray))]
 else
 bif (decide (a0.i < (0 : Int))) then
 obind (C F_spec_l6Dec [(T.int (IntKind.wrap .i64 (0 - a0.i)))]) fun r1 =>
 bif (decide ((⟨#[45]⟩ : ByteArray).size + ((rt r1 0).s).size ≤ LIM)) then
 some [(T.str ((⟨#[45]⟩ : ByteArray) ++ ((rt r1 0).s)))]
 else
 none
 else
 bif (decide (a0.i < (10 : Int))) then
 some [(T.str (⟨([(T.int (IntKind.wrap .u8 (IntKind.wrap .i64 ((48 : Int) + a0.i))))].map fun c => UInt8.ofNat c.i.toNat).toArray⟩ : ByteArray))]
 else
 bif (!((10 : Int) == 0)) then
 obind (C F_spec_l6Dec [(T.int (IntKind.wrap .i64 ((a0.i).tdiv (10 : Int))))]) fun r2 =>
 bif (!((10 : Int) == 0)) then
 bif (decide (((rt r2 0).s).size + (⟨([(T.int (IntKind.wrap .u8 (IntKind.wrap .i64 ((48 : Int) + ((a0.i : Int).tmod (10 : Int))))))].map fun c => UInt8.ofNat c.i.toNat).toArray⟩ : ByteArray).size ≤ LIM)) then
 some [(T.str (((rt r2 0).s) ++ (⟨([(T.int (IntKind.wrap .u8 (IntKind.wrap .i64 ((48 : Int) + ((a0.i : Int).tmod (10 : Int))))))].map fun c => UInt8.ofNat c.i.toNat).toArray⟩ : ByteArray)))]
 else
 none
 else
 none
 else
 none := by kernel_rfl
theorem q_spec_l6Dec (H : List Item → CS → R) (C : CallsE) (a0 : T) : enterE fi_spec_l6Dec env H C [a0] = b_spec_l6Dec H C a0 := by
 refine (e_spec_l6Dec H C a0).trans ?_
 unfold b_spec_l6Dec
 all_goals cases hc : ((decide (a0.i < (-9223372036854775807 : Int)))) with
 | true =>
  try simp only [bs]
  all_goals kernel_rfl
 | false =>
  try simp only [bs]
  all_goals cases hc : ((decide (a0.i < (0 : Int)))) with
  | true =>
   try simp only [bs]
   all_goals refine obind_congr fun r1 => ?_
   all_goals try simp only [bs]
   all_goals cases hc : ((decide ((⟨#[45]⟩ : ByteArray).size + ((rt r1 0).s).size ≤ LIM))) with
   | true =>
    try simp only [bs]
    all_goals kernel_rfl
   | false =>
    try simp only [bs]
    all_goals kernel_rfl
  | false =>
   try simp only [bs]
   all_goals cases hc : ((decide (a0.i < (10 : Int)))) with
   | true =>
    try simp only [bs]
    all_goals kernel_rfl
   | false =>
    try simp only [bs]
    all_goals cases hc : ((!((10 : Int) == 0))) with
    | true =>
     try simp only [bs]
     all_goals refine obind_congr fun r1 => ?_
     all_goals try simp only [bs]
     all_goals cases hc : ((decide (((rt r1 0).s).size + (⟨([(T.int (IntKind.wrap .u8 (IntKind.wrap .i64 ((48 : Int) + ((a0.i : Int).tmod (10 : Int))))))].map fun c => UInt8.ofNat c.i.toNat).toArray⟩ : ByteArray).size ≤ LIM))) with
     | true =>
      try simp only [bs]
      all_goals kernel_rfl
     | false =>
      try simp only [bs]
      all_goals kernel_rfl
    | false =>
     try simp only [bs]
     all_goals kernel_rfl
theorem y_spec_l6Dec (a0 : T) {r : List T} (h : Yields (fun k => b_spec_l6Dec (hl env k fi_spec_l6Dec) (cl env k) a0) r) : Yields (fun k => cl env k F_spec_l6Dec [a0]) r := Yields.call (fi := fi_spec_l6Dec) rfl rfl (fun H C => q_spec_l6Dec H C a0) h
noncomputable def l_spec_l2Text_0 (H : List Item → CS → R) (x1 : T) (x2 : T) (x3 : T) : R := H (hdAt fi_spec_l2Text.body 0) ([(1, .pref 47 1 []), (3, .val 9 x1), (4, .val 3 x2)], [(1, ⟨47, x3, .fz, true⟩)])
/- loop.example/heirlooms/spec.l2Text -/
noncomputable abbrev b_spec_l2Text (H : List Item → CS → R) (C : CallsE) (a0 : T) : R :=
 bif (((a0.fld 0).s).toList == (⟨#[110]⟩ : ByteArray).toList) then
 obind (C F_spec_l6Dec [(a0.fld 1)]) fun r1 =>
 some [(rt r1 0)]
 else
 bif (((a0.fld 0).s).toList == (⟨#[98]⟩ : ByteArray).toList) then
 bif (decide (0 ≤ (a0.fld 1).i) && decide (((a0.fld 1).i).toNat < [(T.str (⟨#[45]⟩ : ByteArray)), (T.str (⟨#[43]⟩ : ByteArray))].length)) then
 some [((T.sl [(T.str (⟨#[45]⟩ : ByteArray)), (T.str (⟨#[43]⟩ : ByteArray))]).nth (((a0.fld 1).i).toNat))]
 else
 none
 else
 bif (((a0.fld 0).s).toList == (⟨#[111]⟩ : ByteArray).toList) then
 obind (C F_spec_l6Dec [(a0.fld 1)]) fun r1 =>
 bif (decide ((⟨#[64]⟩ : ByteArray).size + ((rt r1 0).s).size ≤ LIM)) then
 some [(T.str ((⟨#[64]⟩ : ByteArray) ++ ((rt r1 0).s)))]
 else
 none
 else
 bif (decide (((a0.fld 0).s).size + (⟨#[40]⟩ : ByteArray).size ≤ LIM)) then
 l_spec_l2Text_0 H (T.str (((a0.fld 0).s) ++ (⟨#[40]⟩ : ByteArray))) (T.int (0 : Int)) a0
 else
 none
theorem e_spec_l2Text (H : List Item → CS → R) (C : CallsE) (a0 : T) : enterE fi_spec_l2Text env H C [a0] =
 bif (((a0.fld 0).s).toList == (⟨#[110]⟩ : ByteArray).toList) then
 obind (C F_spec_l6Dec [(a0.fld 1)]) fun r1 =>
 some [(rt r1 0)]
 else
 bif (((a0.fld 0).s).toList == (⟨#[98]⟩ : ByteArray).toList) then
 bif (decide (0 ≤ (a0.fld 1).i) && decide (((a0.fld 1).i).toNat < [(T.str (⟨#[45]⟩ : ByteArray)), (T.str (⟨#[43]⟩ : ByteArray))].length)) then
 some [((T.sl [(T.str (⟨#[45]⟩ : ByteArray)), (T.str (⟨#[43]⟩ : ByteArray))]).nth (((a0.fld 1).i).toNat))]
 else
 none
 else
 bif (((a0.fld 0).s).toList == (⟨#[111]⟩ : ByteArray).toList) then
 obind (C F_spec_l6Dec [(a0.fld 1)]) fun r2 =>
 bif (decide ((⟨#[64]⟩ : ByteArray).size + ((rt r2 0).s).size ≤ LIM)) then
 some [(T.str ((⟨#[64]⟩ : ByteArray) ++ ((rt r2 0).s)))]
 else
 none
 else
 bif (decide (((a0.fld 0).s).size + (⟨#[40]⟩ : ByteArray).size ≤ LIM)) then
 l_spec_l2Text_0 H (T.str (((a0.fld 0).s) ++ (⟨#[40]⟩ : ByteArray))) (T.int (0 : Int)) a0
 else
 none := by kernel_rfl
theorem q_spec_l2Text (H : List Item → CS → R) (C : CallsE) (a0 : T) : enterE fi_spec_l2Text env H C [a0] = b_spec_l2Text H C a0 := by
 refine (e_spec_l2Text H C a0).trans ?_
 unfold b_spec_l2Text
 all_goals cases hc : ((((a0.fld 0).s).toList == (⟨#[110]⟩ : ByteArray).toList)) with
 | true =>
  try simp only [bs]
  all_goals refine obind_congr fun r1 => ?_
  all_goals try simp only [bs]
  all_goals kernel_rfl
 | false =>
  try simp only [bs]
  all_goals cases hc : ((((a0.fld 0).s).toList == (⟨#[98]⟩ : ByteArray).toList)) with
  | true =>
   try simp only [bs]
   all_goals cases hc : ((decide (0 ≤ (a0.fld 1).i) && decide (((a0.fld 1).i).toNat < [(T.str (⟨#[45]⟩ : ByteArray)), (T.str (⟨#[43]⟩ : ByteArray))].length))) with
   | true =>
    try simp only [bs]
    all_goals kernel_rfl
   | false =>
    try simp only [bs]
    all_goals kernel_rfl
  | false =>
   try simp only [bs]
   all_goals cases hc : ((((a0.fld 0).s).toList == (⟨#[111]⟩ : ByteArray).toList)) with
   | true =>
    try simp only [bs]
    all_goals refine obind_congr fun r1 => ?_
    all_goals try simp only [bs]
    all_goals cases hc : ((decide ((⟨#[64]⟩ : ByteArray).size + ((rt r1 0).s).size ≤ LIM))) with
    | true =>
     try simp only [bs]
     all_goals kernel_rfl
    | false =>
     try simp only [bs]
     all_goals kernel_rfl
   | false =>
    try simp only [bs]
    all_goals cases hc : ((decide (((a0.fld 0).s).size + (⟨#[40]⟩ : ByteArray).size ≤ LIM))) with
    | true =>
     try simp only [bs]
     all_goals kernel_rfl
    | false =>
     try simp only [bs]
     all_goals kernel_rfl
theorem y_spec_l2Text (a0 : T) {r : List T} (h : Yields (fun k => b_spec_l2Text (hl env k fi_spec_l2Text) (cl env k) a0) r) : Yields (fun k => cl env k F_spec_l2Text [a0]) r := Yields.call (fi := fi_spec_l2Text) rfl rfl (fun H C => q_spec_l2Text H C a0) h
noncomputable abbrev b_spec_l2Text_0 (H : List Item → CS → R) (C : CallsE) (x1 : T) (x2 : T) (x3 : T) : R :=
 bif (decide (x2.i < (((x3.fld 2).es).length : Int))) then
 bif (decide (x2.i > (0 : Int))) then
 bif (decide (x1.s.size + (⟨#[32]⟩ : ByteArray).size ≤ LIM)) then
 bif (decide (0 ≤ x2.i) && decide (x2.i.toNat < ((x3.fld 2).es).length)) then
 obind (C F_spec_l2Text [((x3.fld 2).nth x2.i.toNat)]) fun r1 =>
 bif (decide ((x1.s ++ (⟨#[32]⟩ : ByteArray)).size + ((rt r1 0).s).size ≤ LIM)) then
 l_spec_l2Text_0 H (T.str ((x1.s ++ (⟨#[32]⟩ : ByteArray)) ++ ((rt r1 0).s))) (T.int (IntKind.wrap .i64 (x2.i + (1 : Int)))) x3
 else
 none
 else
 none
 else
 none
 else
 bif (decide (0 ≤ x2.i) && decide (x2.i.toNat < ((x3.fld 2).es).length)) then
 obind (C F_spec_l2Text [((x3.fld 2).nth x2.i.toNat)]) fun r1 =>
 bif (decide (x1.s.size + ((rt r1 0).s).size ≤ LIM)) then
 l_spec_l2Text_0 H (T.str (x1.s ++ ((rt r1 0).s))) (T.int (IntKind.wrap .i64 (x2.i + (1 : Int)))) x3
 else
 none
 else
 none
 else
 bif (decide (x1.s.size + (⟨#[41]⟩ : ByteArray).size ≤ LIM)) then
 some [(T.str (x1.s ++ (⟨#[41]⟩ : ByteArray)))]
 else
 none
theorem e_spec_l2Text_0 (H : List Item → CS → R) (C : CallsE) (x1 : T) (x2 : T) (x3 : T) : headE fi_spec_l2Text env H C (hdAt fi_spec_l2Text.body 0) ([(1, .pref 47 1 []), (3, .val 9 x1), (4, .val 3 x2)], [(1, ⟨47, x3, .fz, true⟩)]) =
 bif (decide (x2.i < (((x3.fld 2).es).length : Int))) then
 bif (decide (x2.i > (0 : Int))) then
 bif (decide (x1.s.size + (⟨#[32]⟩ : ByteArray).size ≤ LIM)) then
 bif (decide (0 ≤ x2.i) && decide (x2.i.toNat < ((x3.fld 2).es).length)) then
 obind (C F_spec_l2Text [((x3.fld 2).nth x2.i.toNat)]) fun r1 =>
 bif (decide ((x1.s ++ (⟨#[32]⟩ : ByteArray)).size + ((rt r1 0).s).size ≤ LIM)) then
 l_spec_l2Text_0 H (T.str ((x1.s ++ (⟨#[32]⟩ : ByteArray)) ++ ((rt r1 0).s))) (T.int (IntKind.wrap .i64 (x2.i + (1 : Int)))) x3
 else
 none
 else
 none
 else
 none
 else
 bif (decide (0 ≤ x2.i) && decide (x2.i.toNat < ((x3.fld 2).es).length)) then
 obind (C F_spec_l2Text [((x3.fld 2).nth x2.i.toNat)]) fun r2 =>
 bif (decide (x1.s.size + ((rt r2 0).s).size ≤ LIM)) then
 l_spec_l2Text_0 H (T.str (x1.s ++ ((rt r2 0).s))) (T.int (IntKind.wrap .i64 (x2.i + (1 : Int)))) x3
 else
 none
 else
 none
 else
 bif (decide (x1.s.size + (⟨#[41]⟩ : ByteArray).size ≤ LIM)) then
 some [(T.str (x1.s ++ (⟨#[41]⟩ : ByteArray)))]
 else
 none := by kernel_rfl
theorem q_spec_l2Text_0 (H : List Item → CS → R) (C : CallsE) (x1 : T) (x2 : T) (x3 : T) : headE fi_spec_l2Text env H C (hdAt fi_spec_l2Text.body 0) ([(1, .pref 47 1 []), (3, .val 9 x1), (4, .val 3 x2)], [(1, ⟨47, x3, .fz, true⟩)]) = b_spec_l2Text_0 H C x1 x2 x3 := by
 refine (e_spec_l2Text_0 H C x1 x2 x3).trans ?_
 unfold b_spec_l2Text_0
 all_goals cases hc : ((decide (x2.i < (((x3.fld 2).es).length : Int)))) with
 | true =>
  try simp only [bs]
  all_goals cases hc : ((decide (x2.i > (0 : Int)))) with
  | true =>
   try simp only [bs]
   all_goals cases hc : ((decide (x1.s.size + (⟨#[32]⟩ : ByteArray).size ≤ LIM))) with
   | true =>
    try simp only [bs]
    all_goals cases hc : ((decide (0 ≤ x2.i) && decide (x2.i.toNat < ((x3.fld 2).es).length))) with
    | true =>
     try simp only [bs]
     all_goals refine obind_congr fun r1 => ?_
     all_goals try simp only [bs]
     all_goals cases hc : ((decide ((x1.s ++ (⟨#[32]⟩ : ByteArray)).size + ((rt r1 0).s).size ≤ LIM))) with
     | true =>
      try simp only [bs]
      all_goals kernel_rfl
     | false =>
      try simp only [bs]
      all_goals kernel_rfl
    | false =>
     try simp only [bs]
     all_goals kernel_rfl
   | false =>
    try simp only [bs]
    all_goals kernel_rfl
  | false =>
   try simp only [bs]
   all_goals cases hc : ((decide (0 ≤ x2.i) && decide (x2.i.toNat < ((x3.fld 2).es).length))) with
   | true =>
    try simp only [bs]
    all_goals refine obind_congr fun r1 => ?_
    all_goals try simp only [bs]
    all_goals cases hc : ((decide (x1.s.size + ((rt r1 0).s).size ≤ LIM))) with
    | true =>
     try simp only [bs]
     all_goals kernel_rfl
    | false =>
     try simp only [bs]
     all_goals kernel_rfl
   | false =>
    try simp only [bs]
    all_goals kernel_rfl
 | false =>
  try simp only [bs]
  all_goals cases hc : ((decide (x1.s.size + (⟨#[41]⟩ : ByteArray).size ≤ LIM))) with
  | true =>
   try simp only [bs]
   all_goals kernel_rfl
  | false =>
   try simp only [bs]
   all_goals kernel_rfl
theorem y_spec_l2Text_0 (x1 : T) (x2 : T) (x3 : T) {r : List T} (h : Yields (fun k => b_spec_l2Text_0 (hl env k fi_spec_l2Text) (cl env k) x1 x2 x3) r) : Yields (fun k => l_spec_l2Text_0 (hl env k fi_spec_l2Text) x1 x2 x3) r := Yields.head (fun H C => q_spec_l2Text_0 H C x1 x2 x3) h
noncomputable def l_laws_toRecordS_0 (H : List Item → CS → R) (x1 : T) (x2 : T) (x3 : T) : R := H (hdAt fi_laws_toRecordS.body 0) ([(0, .val 35 x1), (3, .sref 51 3 []), (4, .val 3 x2)], [(3, ⟨51, x3, .dp, false⟩)])
/- loop.example/heirlooms/laws.toRecordS -/
noncomputable abbrev b_laws_toRecordS (H : List Item → CS → R) (C : CallsE) (a0 : T) : R :=
 bif (decide (0 ≤ (a0.es.length : Int)) && (decide ((a0.es.length : Int) ≤ (a0.es.length : Int)) && decide (a0.es.length ≤ LIM))) then
 l_laws_toRecordS_0 H a0 (T.int (0 : Int)) (T.sl (List.replicate a0.es.length (T.st [(T.int (0 : Int)), (T.sl [])])))
 else
 none
theorem q_laws_toRecordS (H : List Item → CS → R) (C : CallsE) (a0 : T) : enterE fi_laws_toRecordS env H C [a0] = b_laws_toRecordS H C a0 := by kernel_rfl
theorem y_laws_toRecordS (a0 : T) {r : List T} (h : Yields (fun k => b_laws_toRecordS (hl env k fi_laws_toRecordS) (cl env k) a0) r) : Yields (fun k => cl env k F_laws_toRecordS [a0]) r := Yields.call (fi := fi_laws_toRecordS) rfl rfl (fun H C => q_laws_toRecordS H C a0) h
noncomputable abbrev b_laws_toRecordS_0 (H : List Item → CS → R) (C : CallsE) (x1 : T) (x2 : T) (x3 : T) : R :=
 bif (decide (x2.i < (x1.es.length : Int))) then
 bif (decide (0 ≤ x2.i) && decide (x2.i.toNat < x1.es.length)) then
 obind (C F_laws_toRecord [(x1.nth x2.i.toNat)]) fun r1 =>
 bif (decide (0 ≤ x2.i) && decide (x2.i.toNat < x3.es.length)) then
 l_laws_toRecordS_0 H x1 (T.int (IntKind.wrap .i64 (x2.i + (1 : Int)))) (T.sl (x3.es.set x2.i.toNat (T.st [((rt r1 0).fld 0), ((rt r1 0).fld 1)])))
 else
 none
 else
 none
 else
 some [x3]
theorem q_laws_toRecordS_0 (H : List Item → CS → R) (C : CallsE) (x1 : T) (x2 : T) (x3 : T) : headE fi_laws_toRecordS env H C (hdAt fi_laws_toRecordS.body 0) ([(0, .val 35 x1), (3, .sref 51 3 []), (4, .val 3 x2)], [(3, ⟨51, x3, .dp, false⟩)]) = b_laws_toRecordS_0 H C x1 x2 x3 := by kernel_rfl
theorem y_laws_toRecordS_0 (x1 : T) (x2 : T) (x3 : T) {r : List T} (h : Yields (fun k => b_laws_toRecordS_0 (hl env k fi_laws_toRecordS) (cl env k) x1 x2 x3) r) : Yields (fun k => l_laws_toRecordS_0 (hl env k fi_laws_toRecordS) x1 x2 x3) r := Yields.head (fun H C => q_laws_toRecordS_0 H C x1 x2 x3) h
/- loop.example/heirlooms/laws.toKept -/
noncomputable abbrev b_laws_toKept (H : List Item → CS → R) (C : CallsE) (a0 : T) : R :=
 obind (C F_laws_toValue [(a0.fld 1)]) fun r1 =>
 some [(T.st [(a0.fld 0), (T.st [((rt r1 0).fld 0), ((rt r1 0).fld 1), ((rt r1 0).fld 2), ((rt r1 0).fld 3)])])]
theorem q_laws_toKept (H : List Item → CS → R) (C : CallsE) (a0 : T) : enterE fi_laws_toKept env H C [a0] = b_laws_toKept H C a0 := by kernel_rfl
theorem y_laws_toKept (a0 : T) {r : List T} (h : Yields (fun k => b_laws_toKept (hl env k fi_laws_toKept) (cl env k) a0) r) : Yields (fun k => cl env k F_laws_toKept [a0]) r := Yields.call (fi := fi_laws_toKept) rfl rfl (fun H C => q_laws_toKept H C a0) h
noncomputable def l_impl_VaultsOk_0 (H : List Item → CS → R) (x1 : T) (x2 : T) (x3 : T) (x4 : T) (x5 : T) : R := H (hdAt fi_impl_VaultsOk.body 0) ([(0, .val 27 x1), (1, .val 29 x2), (15, .val 29 x3), (16, .val 3 x4), (17, .val 3 x5)], [])
/- loop.example/heirlooms/impl.VaultsOk -/
noncomputable abbrev b_impl_VaultsOk (H : List Item → CS → R) (C : CallsE) (a0 a1 : T) : R :=
 obind (C F_impl_KindsOk [a0]) fun r1 =>
 bif (!(rt r1 0).b) then
 some [(T.bool false)]
 else
 bif (decide ((a1.es.length : Int) > (36 : Int))) then
 some [(T.bool false)]
 else
 l_impl_VaultsOk_0 H a0 a1 a1 (T.int (a1.es.length : Int)) (T.int (0 : Int))
theorem e_impl_VaultsOk (H : List Item → CS → R) (C : CallsE) (a0 a1 : T) : enterE fi_impl_VaultsOk env H C [a0, a1] =
 obind (C F_impl_KindsOk [a0]) fun r1 =>
 bif ((!((!(rt r1 0).b) == false)) || true) then
 bif ((!((!(rt r1 0).b) == false)) || ((!(rt r1 0).b) == false)) then
 bif ((!((!(rt r1 0).b) == false)) || ((((!(rt r1 0).b) == false) && true) && true)) then
 bif (bif (!(rt r1 0).b) then true else ((!(rt r1 0).b) == false)) then
 bif (bif (!(rt r1 0).b) then (T.bool true) else (T.bool (decide ((a1.es.length : Int) > (36 : Int))))).b then
 some [(T.bool false)]
 else
 l_impl_VaultsOk_0 H a0 a1 a1 (T.int (a1.es.length : Int)) (T.int (0 : Int))
 else
 none
 else
 none
 else
 none
 else
 none := by kernel_rfl
theorem q_impl_VaultsOk (H : List Item → CS → R) (C : CallsE) (a0 a1 : T) : enterE fi_impl_VaultsOk env H C [a0, a1] = b_impl_VaultsOk H C a0 a1 := by
 refine (e_impl_VaultsOk H C a0 a1).trans ?_
 unfold b_impl_VaultsOk
 all_goals refine obind_congr fun r1 => ?_
 all_goals try simp only [bs]
 all_goals cases hc : ((!(rt r1 0).b)) with
 | true =>
  try simp only [bs]
  all_goals kernel_rfl
 | false =>
  try simp only [bs]
  all_goals cases hc : ((decide ((a1.es.length : Int) > (36 : Int)))) with
  | true =>
   try simp only [bs]
   all_goals kernel_rfl
  | false =>
   try simp only [bs]
   all_goals kernel_rfl
theorem y_impl_VaultsOk (a0 a1 : T) {r : List T} (h : Yields (fun k => b_impl_VaultsOk (hl env k fi_impl_VaultsOk) (cl env k) a0 a1) r) : Yields (fun k => cl env k F_impl_VaultsOk [a0, a1]) r := Yields.call (fi := fi_impl_VaultsOk) rfl rfl (fun H C => q_impl_VaultsOk H C a0 a1) h
noncomputable abbrev b_impl_VaultsOk_0 (H : List Item → CS → R) (C : CallsE) (x1 : T) (x2 : T) (x3 : T) (x4 : T) (x5 : T) : R :=
 bif (decide (x5.i < x4.i)) then
 bif (decide (0 ≤ x5.i) && decide (x5.i.toNat < x3.es.length)) then
 bif (decide (((x3.nth x5.i.toNat).fld 0).i < (0 : Int))) then
 some [(T.bool false)]
 else
 bif (decide (((x3.nth x5.i.toNat).fld 0).i ≥ (4 : Int))) then
 some [(T.bool false)]
 else
 obind (C F_impl_keepable [x1, ((x3.nth x5.i.toNat).fld 1)]) fun r1 =>
 bif (!(rt r1 0).b) then
 some [(T.bool false)]
 else
 bif (decide (x5.i > (0 : Int))) then
 bif (decide (0 ≤ (IntKind.wrap .i64 (x5.i - (1 : Int)))) && decide ((IntKind.wrap .i64 (x5.i - (1 : Int))).toNat < x2.es.length)) then
 obind (C F_impl_vaultBefore [(x2.nth ((IntKind.wrap .i64 (x5.i - (1 : Int))).toNat)), (x3.nth x5.i.toNat)]) fun r2 =>
 bif (!(rt r2 0).b) then
 some [(T.bool false)]
 else
 l_impl_VaultsOk_0 H x1 x2 x3 x4 (T.int (IntKind.wrap .i64 (x5.i + (1 : Int))))
 else
 none
 else
 l_impl_VaultsOk_0 H x1 x2 x3 x4 (T.int (IntKind.wrap .i64 (x5.i + (1 : Int))))
 else
 none
 else
 some [(T.bool true)]
theorem e_impl_VaultsOk_0 (H : List Item → CS → R) (C : CallsE) (x1 : T) (x2 : T) (x3 : T) (x4 : T) (x5 : T) : headE fi_impl_VaultsOk env H C (hdAt fi_impl_VaultsOk.body 0) ([(0, .val 27 x1), (1, .val 29 x2), (15, .val 29 x3), (16, .val 3 x4), (17, .val 3 x5)], []) =
 bif (decide (x5.i < x4.i)) then
 bif (decide (0 ≤ x5.i) && decide (x5.i.toNat < x3.es.length)) then
 bif ((!((decide (((x3.nth x5.i.toNat).fld 0).i < (0 : Int))) == false)) || true) then
 bif ((!((decide (((x3.nth x5.i.toNat).fld 0).i < (0 : Int))) == false)) || ((decide (((x3.nth x5.i.toNat).fld 0).i < (0 : Int))) == false)) then
 bif ((!((decide (((x3.nth x5.i.toNat).fld 0).i < (0 : Int))) == false)) || ((((decide (((x3.nth x5.i.toNat).fld 0).i < (0 : Int))) == false) && true) && true)) then
 bif (bif (decide (((x3.nth x5.i.toNat).fld 0).i < (0 : Int))) then true else ((decide (((x3.nth x5.i.toNat).fld 0).i < (0 : Int))) == false)) then
 bif ((!((bif (decide (((x3.nth x5.i.toNat).fld 0).i < (0 : Int))) then (T.bool true) else (T.bool (decide (((x3.nth x5.i.toNat).fld 0).i ≥ (4 : Int))))).b == false)) || true) then
 bif ((!((bif (decide (((x3.nth x5.i.toNat).fld 0).i < (0 : Int))) then (T.bool true) else (T.bool (decide (((x3.nth x5.i.toNat).fld 0).i ≥ (4 : Int))))).b == false)) || true) then
 bif ((!((bif (decide (((x3.nth x5.i.toNat).fld 0).i < (0 : Int))) then (T.bool true) else (T.bool (decide (((x3.nth x5.i.toNat).fld 0).i ≥ (4 : Int))))).b == false)) || ((bif (decide (((x3.nth x5.i.toNat).fld 0).i < (0 : Int))) then (T.bool true) else (T.bool (decide (((x3.nth x5.i.toNat).fld 0).i ≥ (4 : Int))))).b == false)) then
 bif ((!((bif (decide (((x3.nth x5.i.toNat).fld 0).i < (0 : Int))) then (T.bool true) else (T.bool (decide (((x3.nth x5.i.toNat).fld 0).i ≥ (4 : Int))))).b == false)) || (((bif (decide (((x3.nth x5.i.toNat).fld 0).i < (0 : Int))) then (T.bool true) else (T.bool (decide (((x3.nth x5.i.toNat).fld 0).i ≥ (4 : Int))))).b == false) && (((bif (decide (((x3.nth x5.i.toNat).fld 0).i < (0 : Int))) then (T.bool true) else (T.bool (decide (((x3.nth x5.i.toNat).fld 0).i ≥ (4 : Int))))).b == false) && true))) then
 obind ((bif ((bif (decide (((x3.nth x5.i.toNat).fld 0).i < (0 : Int))) then (T.bool true) else (T.bool (decide (((x3.nth x5.i.toNat).fld 0).i ≥ (4 : Int))))).b == false) then C F_impl_keepable [x1, ((x3.nth x5.i.toNat).fld 1)] else some [])) fun r1 =>
 bif ((!((bif (decide (((x3.nth x5.i.toNat).fld 0).i < (0 : Int))) then (T.bool true) else (T.bool (decide (((x3.nth x5.i.toNat).fld 0).i ≥ (4 : Int))))).b == false)) || ((bif (decide (((x3.nth x5.i.toNat).fld 0).i < (0 : Int))) then (T.bool true) else (T.bool (decide (((x3.nth x5.i.toNat).fld 0).i ≥ (4 : Int))))).b == false)) then
 bif (bif (bif (decide (((x3.nth x5.i.toNat).fld 0).i < (0 : Int))) then (T.bool true) else (T.bool (decide (((x3.nth x5.i.toNat).fld 0).i ≥ (4 : Int))))).b then true else ((bif (decide (((x3.nth x5.i.toNat).fld 0).i < (0 : Int))) then (T.bool true) else (T.bool (decide (((x3.nth x5.i.toNat).fld 0).i ≥ (4 : Int))))).b == false)) then
 bif (bif (bif (decide (((x3.nth x5.i.toNat).fld 0).i < (0 : Int))) then (T.bool true) else (T.bool (decide (((x3.nth x5.i.toNat).fld 0).i ≥ (4 : Int))))).b then (T.bool true) else (T.bool (!(rt r1 0).b))).b then
 some [(T.bool false)]
 else
 bif ((!((decide (x5.i > (0 : Int))) == true)) || true) then
 bif ((!((decide (x5.i > (0 : Int))) == true)) || true) then
 bif ((!((decide (x5.i > (0 : Int))) == true)) || ((((decide (x5.i > (0 : Int))) == true) && true) && true)) then
 bif ((!((decide (x5.i > (0 : Int))) == true)) || ((((decide (x5.i > (0 : Int))) == true) && (((decide (x5.i > (0 : Int))) == true) && true)) && (decide (0 ≤ (IntKind.wrap .i64 (x5.i - (1 : Int)))) && decide ((IntKind.wrap .i64 (x5.i - (1 : Int))).toNat < x2.es.length)))) then
 bif ((!((decide (x5.i > (0 : Int))) == true)) || ((decide (x5.i > (0 : Int))) == true)) then
 bif ((!((decide (x5.i > (0 : Int))) == true)) || true) then
 bif ((!((decide (x5.i > (0 : Int))) == true)) || (((decide (x5.i > (0 : Int))) == true) && (((decide (x5.i > (0 : Int))) == true) && true))) then
 obind ((bif ((decide (x5.i > (0 : Int))) == true) then C F_impl_vaultBefore [(x2.nth ((IntKind.wrap .i64 (x5.i - (1 : Int))).toNat)), (x3.nth x5.i.toNat)] else some [])) fun r2 =>
 bif ((!((decide (x5.i > (0 : Int))) == true)) || ((decide (x5.i > (0 : Int))) == true)) then
 bif (bif (decide (x5.i > (0 : Int))) then ((decide (x5.i > (0 : Int))) == true) else true) then
 bif (bif (decide (x5.i > (0 : Int))) then (T.bool (!(rt r2 0).b)) else (T.bool false)).b then
 some [(T.bool false)]
 else
 l_impl_VaultsOk_0 H x1 x2 x3 x4 (T.int (IntKind.wrap .i64 (x5.i + (1 : Int))))
 else
 none
 else
 none
 else
 none
 else
 none
 else
 none
 else
 none
 else
 none
 else
 none
 else
 none
 else
 none
 else
 none
 else
 none
 else
 none
 else
 none
 else
 none
 else
 none
 else
 none
 else
 none
 else
 none
 else
 none
 else
 some [(T.bool true)] := by kernel_rfl
theorem q_impl_VaultsOk_0 (H : List Item → CS → R) (C : CallsE) (x1 : T) (x2 : T) (x3 : T) (x4 : T) (x5 : T) : headE fi_impl_VaultsOk env H C (hdAt fi_impl_VaultsOk.body 0) ([(0, .val 27 x1), (1, .val 29 x2), (15, .val 29 x3), (16, .val 3 x4), (17, .val 3 x5)], []) = b_impl_VaultsOk_0 H C x1 x2 x3 x4 x5 := by
 refine (e_impl_VaultsOk_0 H C x1 x2 x3 x4 x5).trans ?_
 unfold b_impl_VaultsOk_0
 all_goals cases hc : ((decide (x5.i < x4.i))) with
 | true =>
  try simp only [bs]
  all_goals cases hc : ((decide (0 ≤ x5.i) && decide (x5.i.toNat < x3.es.length))) with
  | true =>
   try simp only [bs]
   all_goals cases hc : ((decide (((x3.nth x5.i.toNat).fld 0).i < (0 : Int)))) with
   | true =>
    try simp only [bs]
    all_goals kernel_rfl
   | false =>
    try simp only [bs]
    all_goals cases hc : ((decide (((x3.nth x5.i.toNat).fld 0).i ≥ (4 : Int)))) with
    | true =>
     try simp only [bs]
     all_goals kernel_rfl
    | false =>
     try simp only [bs]
     all_goals refine obind_congr fun r1 => ?_
     all_goals try simp only [bs]
     all_goals cases hc : ((!(rt r1 0).b)) with
     | true =>
      try simp only [bs]
      all_goals kernel_rfl
     | false =>
      try simp only [bs]
      all_goals cases hc : ((decide (x5.i > (0 : Int)))) with
      | true =>
       try simp only [bs]
       all_goals cases hc : ((decide (0 ≤ (IntKind.wrap .i64 (x5.i - (1 : Int)))) && decide ((IntKind.wrap .i64 (x5.i - (1 : Int))).toNat < x2.es.length))) with
       | true =>
        try simp only [bs]
        all_goals refine obind_congr fun r2 => ?_
        all_goals try simp only [bs]
        all_goals cases hc : ((!(rt r2 0).b)) with
        | true =>
         try simp only [bs]
         all_goals kernel_rfl
        | false =>
         try simp only [bs]
         all_goals kernel_rfl
       | false =>
        try simp only [bs]
        all_goals kernel_rfl
      | false =>
       try simp only [bs]
       all_goals kernel_rfl
  | false =>
   try simp only [bs]
   all_goals kernel_rfl
 | false =>
  try simp only [bs]
  all_goals kernel_rfl
theorem y_impl_VaultsOk_0 (x1 : T) (x2 : T) (x3 : T) (x4 : T) (x5 : T) {r : List T} (h : Yields (fun k => b_impl_VaultsOk_0 (hl env k fi_impl_VaultsOk) (cl env k) x1 x2 x3 x4 x5) r) : Yields (fun k => l_impl_VaultsOk_0 (hl env k fi_impl_VaultsOk) x1 x2 x3 x4 x5) r := Yields.head (fun H C => q_impl_VaultsOk_0 H C x1 x2 x3 x4 x5) h
noncomputable def l_impl_valueText_0 (H : List Item → CS → R) (x1 : T) (x2 : T) (x3 : T) (x4 : T) (x5 : T) : R := H (hdAt fi_impl_valueText.body 0) ([(1, .pref 47 1 []), (3, .sref 57 3 []), (28, .val 45 x1), (29, .val 3 x2), (30, .val 3 x3)], [(1, ⟨47, x4, .fz, true⟩), (3, ⟨57, x5, (.sl .dp), false⟩)])
/- loop.example/heirlooms/impl.valueText -/
noncomputable abbrev b_impl_valueText (H : List Item → CS → R) (C : CallsE) (a0 : T) : R :=
 bif (((a0.fld 0).s).toList == (⟨#[110]⟩ : ByteArray).toList) then
 obind (C F_strconv_Itoa [(a0.fld 1)]) fun r1 =>
 some [(rt r1 0)]
 else
 bif (((a0.fld 0).s).toList == (⟨#[98]⟩ : ByteArray).toList) then
 bif (decide (0 ≤ (a0.fld 1).i) && decide (((a0.fld 1).i).toNat < [(T.str (⟨#[45]⟩ : ByteArray)), (T.str (⟨#[43]⟩ : ByteArray))].length)) then
 some [((T.sl [(T.str (⟨#[45]⟩ : ByteArray)), (T.str (⟨#[43]⟩ : ByteArray))]).nth (((a0.fld 1).i).toNat))]
 else
 none
 else
 bif (((a0.fld 0).s).toList == (⟨#[111]⟩ : ByteArray).toList) then
 obind (C F_strconv_Itoa [(a0.fld 1)]) fun r1 =>
 bif (decide ((⟨#[64]⟩ : ByteArray).size + ((rt r1 0).s).size ≤ LIM)) then
 some [(T.str ((⟨#[64]⟩ : ByteArray) ++ ((rt r1 0).s)))]
 else
 none
 else
 l_impl_valueText_0 H (a0.fld 2) (T.int (((a0.fld 2).es).length : Int)) (T.int (0 : Int)) a0 (T.sl [])
theorem e_impl_valueText (H : List Item → CS → R) (C : CallsE) (a0 : T) : enterE fi_impl_valueText env H C [a0] =
 bif (((a0.fld 0).s).toList == (⟨#[110]⟩ : ByteArray).toList) then
 obind (C F_strconv_Itoa [(a0.fld 1)]) fun r1 =>
 some [(rt r1 0)]
 else
 bif (((a0.fld 0).s).toList == (⟨#[98]⟩ : ByteArray).toList) then
 bif (decide (0 ≤ (a0.fld 1).i) && decide (((a0.fld 1).i).toNat < [(T.str (⟨#[45]⟩ : ByteArray)), (T.str (⟨#[43]⟩ : ByteArray))].length)) then
 some [((T.sl [(T.str (⟨#[45]⟩ : ByteArray)), (T.str (⟨#[43]⟩ : ByteArray))]).nth (((a0.fld 1).i).toNat))]
 else
 none
 else
 bif (((a0.fld 0).s).toList == (⟨#[111]⟩ : ByteArray).toList) then
 obind (C F_strconv_Itoa [(a0.fld 1)]) fun r2 =>
 bif (decide ((⟨#[64]⟩ : ByteArray).size + ((rt r2 0).s).size ≤ LIM)) then
 some [(T.str ((⟨#[64]⟩ : ByteArray) ++ ((rt r2 0).s)))]
 else
 none
 else
 l_impl_valueText_0 H (a0.fld 2) (T.int (((a0.fld 2).es).length : Int)) (T.int (0 : Int)) a0 (T.sl []) := by kernel_rfl
theorem q_impl_valueText (H : List Item → CS → R) (C : CallsE) (a0 : T) : enterE fi_impl_valueText env H C [a0] = b_impl_valueText H C a0 := by
 refine (e_impl_valueText H C a0).trans ?_
 unfold b_impl_valueText
 all_goals cases hc : ((((a0.fld 0).s).toList == (⟨#[110]⟩ : ByteArray).toList)) with
 | true =>
  try simp only [bs]
  all_goals refine obind_congr fun r1 => ?_
  all_goals try simp only [bs]
  all_goals kernel_rfl
 | false =>
  try simp only [bs]
  all_goals cases hc : ((((a0.fld 0).s).toList == (⟨#[98]⟩ : ByteArray).toList)) with
  | true =>
   try simp only [bs]
   all_goals cases hc : ((decide (0 ≤ (a0.fld 1).i) && decide (((a0.fld 1).i).toNat < [(T.str (⟨#[45]⟩ : ByteArray)), (T.str (⟨#[43]⟩ : ByteArray))].length))) with
   | true =>
    try simp only [bs]
    all_goals kernel_rfl
   | false =>
    try simp only [bs]
    all_goals kernel_rfl
  | false =>
   try simp only [bs]
   all_goals cases hc : ((((a0.fld 0).s).toList == (⟨#[111]⟩ : ByteArray).toList)) with
   | true =>
    try simp only [bs]
    all_goals refine obind_congr fun r1 => ?_
    all_goals try simp only [bs]
    all_goals cases hc : ((decide ((⟨#[64]⟩ : ByteArray).size + ((rt r1 0).s).size ≤ LIM))) with
    | true =>
     try simp only [bs]
     all_goals kernel_rfl
    | false =>
     try simp only [bs]
     all_goals kernel_rfl
   | false =>
    try simp only [bs]
    all_goals kernel_rfl
theorem y_impl_valueText (a0 : T) {r : List T} (h : Yields (fun k => b_impl_valueText (hl env k fi_impl_valueText) (cl env k) a0) r) : Yields (fun k => cl env k F_impl_valueText [a0]) r := Yields.call (fi := fi_impl_valueText) rfl rfl (fun H C => q_impl_valueText H C a0) h
noncomputable abbrev b_impl_valueText_0 (H : List Item → CS → R) (C : CallsE) (x1 : T) (x2 : T) (x3 : T) (x4 : T) (x5 : T) : R :=
 bif (decide (x3.i < x2.i)) then
 bif (decide (0 ≤ x3.i) && decide (x3.i.toNat < x1.es.length)) then
 obind (C F_impl_valueText [(x1.nth x3.i.toNat)]) fun r1 =>
 bif (decide (x5.es.length + [(rt r1 0)].length ≤ LIM)) then
 l_impl_valueText_0 H x1 x2 (T.int (IntKind.wrap .i64 (x3.i + (1 : Int)))) x4 (T.sl (x5.es ++ [(rt r1 0)]))
 else
 none
 else
 none
 else
 bif (decide (((x4.fld 0).s).size + (⟨#[40]⟩ : ByteArray).size ≤ LIM)) then
 obind (C F_strings_Join [x5, (T.str (⟨#[32]⟩ : ByteArray))]) fun r1 =>
 bif (decide ((((x4.fld 0).s) ++ (⟨#[40]⟩ : ByteArray)).size + ((rt r1 0).s).size ≤ LIM)) then
 bif (decide (((((x4.fld 0).s) ++ (⟨#[40]⟩ : ByteArray)) ++ ((rt r1 0).s)).size + (⟨#[41]⟩ : ByteArray).size ≤ LIM)) then
 some [(T.str (((((x4.fld 0).s) ++ (⟨#[40]⟩ : ByteArray)) ++ ((rt r1 0).s)) ++ (⟨#[41]⟩ : ByteArray)))]
 else
 none
 else
 none
 else
 none
theorem e_impl_valueText_0 (H : List Item → CS → R) (C : CallsE) (x1 : T) (x2 : T) (x3 : T) (x4 : T) (x5 : T) : headE fi_impl_valueText env H C (hdAt fi_impl_valueText.body 0) ([(1, .pref 47 1 []), (3, .sref 57 3 []), (28, .val 45 x1), (29, .val 3 x2), (30, .val 3 x3)], [(1, ⟨47, x4, .fz, true⟩), (3, ⟨57, x5, (.sl .dp), false⟩)]) =
 bif (decide (x3.i < x2.i)) then
 bif (decide (0 ≤ x3.i) && decide (x3.i.toNat < x1.es.length)) then
 obind (C F_impl_valueText [(x1.nth x3.i.toNat)]) fun r1 =>
 bif (decide (x5.es.length + [(rt r1 0)].length ≤ LIM)) then
 l_impl_valueText_0 H x1 x2 (T.int (IntKind.wrap .i64 (x3.i + (1 : Int)))) x4 (T.sl (x5.es ++ [(rt r1 0)]))
 else
 none
 else
 none
 else
 bif (decide (((x4.fld 0).s).size + (⟨#[40]⟩ : ByteArray).size ≤ LIM)) then
 obind (C F_strings_Join [x5, (T.str (⟨#[32]⟩ : ByteArray))]) fun r2 =>
 bif (decide ((((x4.fld 0).s) ++ (⟨#[40]⟩ : ByteArray)).size + ((rt r2 0).s).size ≤ LIM)) then
 bif (decide (((((x4.fld 0).s) ++ (⟨#[40]⟩ : ByteArray)) ++ ((rt r2 0).s)).size + (⟨#[41]⟩ : ByteArray).size ≤ LIM)) then
 some [(T.str (((((x4.fld 0).s) ++ (⟨#[40]⟩ : ByteArray)) ++ ((rt r2 0).s)) ++ (⟨#[41]⟩ : ByteArray)))]
 else
 none
 else
 none
 else
 none := by kernel_rfl
theorem q_impl_valueText_0 (H : List Item → CS → R) (C : CallsE) (x1 : T) (x2 : T) (x3 : T) (x4 : T) (x5 : T) : headE fi_impl_valueText env H C (hdAt fi_impl_valueText.body 0) ([(1, .pref 47 1 []), (3, .sref 57 3 []), (28, .val 45 x1), (29, .val 3 x2), (30, .val 3 x3)], [(1, ⟨47, x4, .fz, true⟩), (3, ⟨57, x5, (.sl .dp), false⟩)]) = b_impl_valueText_0 H C x1 x2 x3 x4 x5 := by
 refine (e_impl_valueText_0 H C x1 x2 x3 x4 x5).trans ?_
 unfold b_impl_valueText_0
 all_goals cases hc : ((decide (x3.i < x2.i))) with
 | true =>
  try simp only [bs]
  all_goals cases hc : ((decide (0 ≤ x3.i) && decide (x3.i.toNat < x1.es.length))) with
  | true =>
   try simp only [bs]
   all_goals refine obind_congr fun r1 => ?_
   all_goals try simp only [bs]
   all_goals cases hc : ((decide (x5.es.length + [(rt r1 0)].length ≤ LIM))) with
   | true =>
    try simp only [bs]
    all_goals kernel_rfl
   | false =>
    try simp only [bs]
    all_goals kernel_rfl
  | false =>
   try simp only [bs]
   all_goals kernel_rfl
 | false =>
  try simp only [bs]
  all_goals cases hc : ((decide (((x4.fld 0).s).size + (⟨#[40]⟩ : ByteArray).size ≤ LIM))) with
  | true =>
   try simp only [bs]
   all_goals refine obind_congr fun r1 => ?_
   all_goals try simp only [bs]
   all_goals cases hc : ((decide ((((x4.fld 0).s) ++ (⟨#[40]⟩ : ByteArray)).size + ((rt r1 0).s).size ≤ LIM))) with
   | true =>
    try simp only [bs]
    all_goals cases hc : ((decide (((((x4.fld 0).s) ++ (⟨#[40]⟩ : ByteArray)) ++ ((rt r1 0).s)).size + (⟨#[41]⟩ : ByteArray).size ≤ LIM))) with
    | true =>
     try simp only [bs]
     all_goals kernel_rfl
    | false =>
     try simp only [bs]
     all_goals kernel_rfl
   | false =>
    try simp only [bs]
    all_goals kernel_rfl
  | false =>
   try simp only [bs]
   all_goals kernel_rfl
theorem y_impl_valueText_0 (x1 : T) (x2 : T) (x3 : T) (x4 : T) (x5 : T) {r : List T} (h : Yields (fun k => b_impl_valueText_0 (hl env k fi_impl_valueText) (cl env k) x1 x2 x3 x4 x5) r) : Yields (fun k => l_impl_valueText_0 (hl env k fi_impl_valueText) x1 x2 x3 x4 x5) r := Yields.head (fun H C => q_impl_valueText_0 H C x1 x2 x3 x4 x5) h
noncomputable def l_laws_eqRecordS_0 (H : List Item → CS → R) (x1 : T) (x2 : T) (x3 : T) : R := H (hdAt fi_laws_eqRecordS.body 0) ([(0, .val 51 x1), (1, .val 51 x2), (5, .val 3 x3)], [])
/- loop.example/heirlooms/laws.eqRecordS -/
noncomputable abbrev b_laws_eqRecordS (H : List Item → CS → R) (C : CallsE) (a0 a1 : T) : R :=
 bif ((a0.es.length : Int) != (a1.es.length : Int)) then
 some [(T.bool false)]
 else
 l_laws_eqRecordS_0 H a0 a1 (T.int (0 : Int))
theorem q_laws_eqRecordS (H : List Item → CS → R) (C : CallsE) (a0 a1 : T) : enterE fi_laws_eqRecordS env H C [a0, a1] = b_laws_eqRecordS H C a0 a1 := by kernel_rfl
theorem y_laws_eqRecordS (a0 a1 : T) {r : List T} (h : Yields (fun k => b_laws_eqRecordS (hl env k fi_laws_eqRecordS) (cl env k) a0 a1) r) : Yields (fun k => cl env k F_laws_eqRecordS [a0, a1]) r := Yields.call (fi := fi_laws_eqRecordS) rfl rfl (fun H C => q_laws_eqRecordS H C a0 a1) h
noncomputable abbrev b_laws_eqRecordS_0 (H : List Item → CS → R) (C : CallsE) (x1 : T) (x2 : T) (x3 : T) : R :=
 bif (decide (x3.i < (x1.es.length : Int))) then
 bif (decide (0 ≤ x3.i) && decide (x3.i.toNat < x1.es.length)) then
 bif (decide (0 ≤ x3.i) && decide (x3.i.toNat < x2.es.length)) then
 obind (C F_laws_eqRecord [(x1.nth x3.i.toNat), (x2.nth x3.i.toNat)]) fun r1 =>
 bif (!(rt r1 0).b) then
 some [(T.bool false)]
 else
 l_laws_eqRecordS_0 H x1 x2 (T.int (IntKind.wrap .i64 (x3.i + (1 : Int))))
 else
 none
 else
 none
 else
 some [(T.bool true)]
theorem q_laws_eqRecordS_0 (H : List Item → CS → R) (C : CallsE) (x1 : T) (x2 : T) (x3 : T) : headE fi_laws_eqRecordS env H C (hdAt fi_laws_eqRecordS.body 0) ([(0, .val 51 x1), (1, .val 51 x2), (5, .val 3 x3)], []) = b_laws_eqRecordS_0 H C x1 x2 x3 := by kernel_rfl
theorem y_laws_eqRecordS_0 (x1 : T) (x2 : T) (x3 : T) {r : List T} (h : Yields (fun k => b_laws_eqRecordS_0 (hl env k fi_laws_eqRecordS) (cl env k) x1 x2 x3) r) : Yields (fun k => l_laws_eqRecordS_0 (hl env k fi_laws_eqRecordS) x1 x2 x3) r := Yields.head (fun H C => q_laws_eqRecordS_0 H C x1 x2 x3) h
/- loop.example/heirlooms/laws.eqKept -/
noncomputable abbrev b_laws_eqKept (H : List Item → CS → R) (C : CallsE) (a0 a1 : T) : R :=
 bif ((a0.fld 0).i != (a1.fld 0).i) then
 some [(T.bool false)]
 else
 obind (C F_laws_eqValue [(a0.fld 1), (a1.fld 1)]) fun r1 =>
 bif (!(rt r1 0).b) then
 some [(T.bool false)]
 else
 some [(T.bool true)]
theorem q_laws_eqKept (H : List Item → CS → R) (C : CallsE) (a0 a1 : T) : enterE fi_laws_eqKept env H C [a0, a1] = b_laws_eqKept H C a0 a1 := by kernel_rfl
theorem y_laws_eqKept (a0 a1 : T) {r : List T} (h : Yields (fun k => b_laws_eqKept (hl env k fi_laws_eqKept) (cl env k) a0 a1) r) : Yields (fun k => cl env k F_laws_eqKept [a0, a1]) r := Yields.call (fi := fi_laws_eqKept) rfl rfl (fun H C => q_laws_eqKept H C a0 a1) h
/- loop.example/heirlooms/laws.szRecord -/
noncomputable abbrev b_laws_szRecord (H : List Item → CS → R) (C : CallsE) (a0 a1 : T) : R :=
 obind (C F_laws_szStringS [(a0.fld 1), a1]) fun r1 =>
 bif (decide ((rt r1 0).i < (0 : Int))) then
 some [(T.int (-1 : Int))]
 else
 some [(rt r1 0)]
theorem q_laws_szRecord (H : List Item → CS → R) (C : CallsE) (a0 a1 : T) : enterE fi_laws_szRecord env H C [a0, a1] = b_laws_szRecord H C a0 a1 := by kernel_rfl
theorem y_laws_szRecord (a0 a1 : T) {r : List T} (h : Yields (fun k => b_laws_szRecord (hl env k fi_laws_szRecord) (cl env k) a0 a1) r) : Yields (fun k => cl env k F_laws_szRecord [a0, a1]) r := Yields.call (fi := fi_laws_szRecord) rfl rfl (fun H C => q_laws_szRecord H C a0 a1) h
/- loop.example/heirlooms/laws.szValue -/
noncomputable abbrev b_laws_szValue (H : List Item → CS → R) (C : CallsE) (a0 a1 : T) : R :=
 bif (decide ((IntKind.wrap .i64 (a1.i - (((a0.fld 0).s).size : Int))) < (0 : Int))) then
 some [(T.int (-1 : Int))]
 else
 obind (C F_laws_szValueS [(a0.fld 2), (T.int (IntKind.wrap .i64 (a1.i - (((a0.fld 0).s).size : Int))))]) fun r1 =>
 bif (decide ((rt r1 0).i < (0 : Int))) then
 some [(T.int (-1 : Int))]
 else
 obind (C F_laws_szIntS [(a0.fld 3), (rt r1 0)]) fun r2 =>
 bif (decide ((rt r2 0).i < (0 : Int))) then
 some [(T.int (-1 : Int))]
 else
 some [(rt r2 0)]
theorem q_laws_szValue (H : List Item → CS → R) (C : CallsE) (a0 a1 : T) : enterE fi_laws_szValue env H C [a0, a1] = b_laws_szValue H C a0 a1 := by kernel_rfl
theorem y_laws_szValue (a0 a1 : T) {r : List T} (h : Yields (fun k => b_laws_szValue (hl env k fi_laws_szValue) (cl env k) a0 a1) r) : Yields (fun k => cl env k F_laws_szValue [a0, a1]) r := Yields.call (fi := fi_laws_szValue) rfl rfl (fun H C => q_laws_szValue H C a0 a1) h
/- loop.example/heirlooms/spec.KindsOk -/
noncomputable abbrev b_spec_KindsOk (H : List Item → CS → R) (C : CallsE) (a0 : T) : R :=
 obind (C F_spec_KindsBad [a0]) fun r1 =>
 some [(T.bool (decide ((rt r1 0).i < (0 : Int))))]
theorem q_spec_KindsOk (H : List Item → CS → R) (C : CallsE) (a0 : T) : enterE fi_spec_KindsOk env H C [a0] = b_spec_KindsOk H C a0 := by kernel_rfl
theorem y_spec_KindsOk (a0 : T) {r : List T} (h : Yields (fun k => b_spec_KindsOk (hl env k fi_spec_KindsOk) (cl env k) a0) r) : Yields (fun k => cl env k F_spec_KindsOk [a0]) r := Yields.call (fi := fi_spec_KindsOk) rfl rfl (fun H C => q_spec_KindsOk H C a0) h
noncomputable def l_spec_l9Ok_0 (H : List Item → CS → R) (x1 : T) (x2 : T) (x3 : T) : R := H (hdAt fi_spec_l9Ok.body 0) ([(0, .val 27 x1), (1, .val 29 x2), (5, .val 3 x3)], [])
/- loop.example/heirlooms/spec.l9Ok -/
noncomputable abbrev b_spec_l9Ok (H : List Item → CS → R) (C : CallsE) (a0 a1 : T) : R :=
 l_spec_l9Ok_0 H a0 a1 (T.int (0 : Int))
theorem q_spec_l9Ok (H : List Item → CS → R) (C : CallsE) (a0 a1 : T) : enterE fi_spec_l9Ok env H C [a0, a1] = b_spec_l9Ok H C a0 a1 := by kernel_rfl
theorem y_spec_l9Ok (a0 a1 : T) {r : List T} (h : Yields (fun k => b_spec_l9Ok (hl env k fi_spec_l9Ok) (cl env k) a0 a1) r) : Yields (fun k => cl env k F_spec_l9Ok [a0, a1]) r := Yields.call (fi := fi_spec_l9Ok) rfl rfl (fun H C => q_spec_l9Ok H C a0 a1) h
noncomputable abbrev b_spec_l9Ok_0 (H : List Item → CS → R) (C : CallsE) (x1 : T) (x2 : T) (x3 : T) : R :=
 bif (decide (x3.i < (x2.es.length : Int))) then
 bif (decide (0 ≤ x3.i) && decide (x3.i.toNat < x2.es.length)) then
 obind (C F_spec_l6In [((x2.nth x3.i.toNat).fld 0), (T.int (0 : Int)), (T.int (3 : Int))]) fun r1 =>
 bif (!(rt r1 0).b) then
 some [(T.bool false)]
 else
 obind (C F_spec_l9Kind [x1, ((x2.nth x3.i.toNat).fld 1)]) fun r2 =>
 bif (!(rt r2 0).b) then
 some [(T.bool false)]
 else
 bif (decide (x3.i > (0 : Int))) then
 bif (decide (0 ≤ (IntKind.wrap .i64 (x3.i - (1 : Int)))) && decide ((IntKind.wrap .i64 (x3.i - (1 : Int))).toNat < x2.es.length)) then
 bif (decide (((x2.nth ((IntKind.wrap .i64 (x3.i - (1 : Int))).toNat)).fld 0).i > ((x2.nth x3.i.toNat).fld 0).i)) then
 some [(T.bool false)]
 else
 bif (((x2.nth ((IntKind.wrap .i64 (x3.i - (1 : Int))).toNat)).fld 0).i == ((x2.nth x3.i.toNat).fld 0).i) then
 bif (!(Op.bytesLess ((((x2.nth ((IntKind.wrap .i64 (x3.i - (1 : Int))).toNat)).fld 1).fld 0).s).toList ((((x2.nth x3.i.toNat).fld 1).fld 0).s).toList)) then
 some [(T.bool false)]
 else
 l_spec_l9Ok_0 H x1 x2 (T.int (IntKind.wrap .i64 (x3.i + (1 : Int))))
 else
 l_spec_l9Ok_0 H x1 x2 (T.int (IntKind.wrap .i64 (x3.i + (1 : Int))))
 else
 none
 else
 l_spec_l9Ok_0 H x1 x2 (T.int (IntKind.wrap .i64 (x3.i + (1 : Int))))
 else
 none
 else
 some [(T.bool (decide ((x2.es.length : Int) ≤ (36 : Int))))]
theorem e_spec_l9Ok_0 (H : List Item → CS → R) (C : CallsE) (x1 : T) (x2 : T) (x3 : T) : headE fi_spec_l9Ok env H C (hdAt fi_spec_l9Ok.body 0) ([(0, .val 27 x1), (1, .val 29 x2), (5, .val 3 x3)], []) =
 bif (decide (x3.i < (x2.es.length : Int))) then
 bif (decide (0 ≤ x3.i) && decide (x3.i.toNat < x2.es.length)) then
 obind (C F_spec_l6In [((x2.nth x3.i.toNat).fld 0), (T.int (0 : Int)), (T.int (3 : Int))]) fun r1 =>
 bif ((!((!(rt r1 0).b) == false)) || true) then
 bif ((!((!(rt r1 0).b) == false)) || true) then
 bif ((!((!(rt r1 0).b) == false)) || true) then
 bif ((!((!(rt r1 0).b) == false)) || ((((!(rt r1 0).b) == false) && (((!(rt r1 0).b) == false) && true)) && (decide (0 ≤ x3.i) && decide (x3.i.toNat < x2.es.length)))) then
 bif ((!((!(rt r1 0).b) == false)) || ((!(rt r1 0).b) == false)) then
 bif ((!((!(rt r1 0).b) == false)) || ((!(rt r1 0).b) == false)) then
 bif ((!((!(rt r1 0).b) == false)) || (((!(rt r1 0).b) == false) && (((!(rt r1 0).b) == false) && true))) then
 obind ((bif ((!(rt r1 0).b) == false) then C F_spec_l9Kind [x1, ((x2.nth x3.i.toNat).fld 1)] else some [])) fun r2 =>
 bif ((!((!(rt r1 0).b) == false)) || ((!(rt r1 0).b) == false)) then
 bif (bif (!(rt r1 0).b) then true else ((!(rt r1 0).b) == false)) then
 bif (bif (!(rt r1 0).b) then (T.bool true) else (T.bool (!(rt r2 0).b))).b then
 some [(T.bool false)]
 else
 bif ((!((decide (x3.i > (0 : Int))) == true)) || true) then
 bif ((!((decide (x3.i > (0 : Int))) == true)) || true) then
 bif ((!((decide (x3.i > (0 : Int))) == true)) || ((((decide (x3.i > (0 : Int))) == true) && true) && true)) then
 bif ((!((decide (x3.i > (0 : Int))) == true)) || ((((decide (x3.i > (0 : Int))) == true) && (((decide (x3.i > (0 : Int))) == true) && true)) && (decide (0 ≤ (IntKind.wrap .i64 (x3.i - (1 : Int)))) && decide ((IntKind.wrap .i64 (x3.i - (1 : Int))).toNat < x2.es.length)))) then
 bif ((!((decide (x3.i > (0 : Int))) == true)) || ((decide (x3.i > (0 : Int))) == true)) then
 bif ((!((decide (x3.i > (0 : Int))) == true)) || ((decide (x3.i > (0 : Int))) == true)) then
 bif ((!((decide (x3.i > (0 : Int))) == true)) || true) then
 bif ((!((decide (x3.i > (0 : Int))) == true)) || true) then
 bif ((!((decide (x3.i > (0 : Int))) == true)) || ((((decide (x3.i > (0 : Int))) == true) && (((decide (x3.i > (0 : Int))) == true) && true)) && (decide (0 ≤ x3.i) && decide (x3.i.toNat < x2.es.length)))) then
 bif ((!((decide (x3.i > (0 : Int))) == true)) || ((decide (x3.i > (0 : Int))) == true)) then
 bif ((!((decide (x3.i > (0 : Int))) == true)) || ((decide (x3.i > (0 : Int))) == true)) then
 bif ((!((decide (x3.i > (0 : Int))) == true)) || ((((decide (x3.i > (0 : Int))) == true) && ((decide (x3.i > (0 : Int))) == true)) && true)) then
 bif ((!((decide (x3.i > (0 : Int))) == true)) || ((decide (x3.i > (0 : Int))) == true)) then
 bif ((!(((decide (x3.i > (0 : Int))) == true) && ((decide (((x2.nth ((IntKind.wrap .i64 (x3.i - (1 : Int))).toNat)).fld 0).i > ((x2.nth x3.i.toNat).fld 0).i)) == false))) || true) then
 bif ((!(((decide (x3.i > (0 : Int))) == true) && ((decide (((x2.nth ((IntKind.wrap .i64 (x3.i - (1 : Int))).toNat)).fld 0).i > ((x2.nth x3.i.toNat).fld 0).i)) == false))) || true) then
 bif ((!(((decide (x3.i > (0 : Int))) == true) && ((decide (((x2.nth ((IntKind.wrap .i64 (x3.i - (1 : Int))).toNat)).fld 0).i > ((x2.nth x3.i.toNat).fld 0).i)) == false))) || (((((decide (x3.i > (0 : Int))) == true) && ((decide (((x2.nth ((IntKind.wrap .i64 (x3.i - (1 : Int))).toNat)).fld 0).i > ((x2.nth x3.i.toNat).fld 0).i)) == false)) && true) && true)) then
 bif ((!(((decide (x3.i > (0 : Int))) == true) && ((decide (((x2.nth ((IntKind.wrap .i64 (x3.i - (1 : Int))).toNat)).fld 0).i > ((x2.nth x3.i.toNat).fld 0).i)) == false))) || (((((decide (x3.i > (0 : Int))) == true) && ((decide (((x2.nth ((IntKind.wrap .i64 (x3.i - (1 : Int))).toNat)).fld 0).i > ((x2.nth x3.i.toNat).fld 0).i)) == false)) && ((((decide (x3.i > (0 : Int))) == true) && ((decide (((x2.nth ((IntKind.wrap .i64 (x3.i - (1 : Int))).toNat)).fld 0).i > ((x2.nth x3.i.toNat).fld 0).i)) == false)) && true)) && (decide (0 ≤ (IntKind.wrap .i64 (x3.i - (1 : Int)))) && decide ((IntKind.wrap .i64 (x3.i - (1 : Int))).toNat < x2.es.length)))) then
 bif ((!(((decide (x3.i > (0 : Int))) == true) && ((decide (((x2.nth ((IntKind.wrap .i64 (x3.i - (1 : Int))).toNat)).fld 0).i > ((x2.nth x3.i.toNat).fld 0).i)) == false))) || (((decide (x3.i > (0 : Int))) == true) && ((decide (((x2.nth ((IntKind.wrap .i64 (x3.i - (1 : Int))).toNat)).fld 0).i > ((x2.nth x3.i.toNat).fld 0).i)) == false))) then
 bif ((!(((decide (x3.i > (0 : Int))) == true) && ((decide (((x2.nth ((IntKind.wrap .i64 (x3.i - (1 : Int))).toNat)).fld 0).i > ((x2.nth x3.i.toNat).fld 0).i)) == false))) || (((decide (x3.i > (0 : Int))) == true) && ((decide (((x2.nth ((IntKind.wrap .i64 (x3.i - (1 : Int))).toNat)).fld 0).i > ((x2.nth x3.i.toNat).fld 0).i)) == false))) then
 bif ((!(((decide (x3.i > (0 : Int))) == true) && ((decide (((x2.nth ((IntKind.wrap .i64 (x3.i - (1 : Int))).toNat)).fld 0).i > ((x2.nth x3.i.toNat).fld 0).i)) == false))) || true) then
 bif ((!(((decide (x3.i > (0 : Int))) == true) && ((decide (((x2.nth ((IntKind.wrap .i64 (x3.i - (1 : Int))).toNat)).fld 0).i > ((x2.nth x3.i.toNat).fld 0).i)) == false))) || true) then
 bif ((!(((decide (x3.i > (0 : Int))) == true) && ((decide (((x2.nth ((IntKind.wrap .i64 (x3.i - (1 : Int))).toNat)).fld 0).i > ((x2.nth x3.i.toNat).fld 0).i)) == false))) || (((((decide (x3.i > (0 : Int))) == true) && ((decide (((x2.nth ((IntKind.wrap .i64 (x3.i - (1 : Int))).toNat)).fld 0).i > ((x2.nth x3.i.toNat).fld 0).i)) == false)) && ((((decide (x3.i > (0 : Int))) == true) && ((decide (((x2.nth ((IntKind.wrap .i64 (x3.i - (1 : Int))).toNat)).fld 0).i > ((x2.nth x3.i.toNat).fld 0).i)) == false)) && true)) && (decide (0 ≤ x3.i) && decide (x3.i.toNat < x2.es.length)))) then
 bif ((!(((decide (x3.i > (0 : Int))) == true) && ((decide (((x2.nth ((IntKind.wrap .i64 (x3.i - (1 : Int))).toNat)).fld 0).i > ((x2.nth x3.i.toNat).fld 0).i)) == false))) || (((decide (x3.i > (0 : Int))) == true) && ((decide (((x2.nth ((IntKind.wrap .i64 (x3.i - (1 : Int))).toNat)).fld 0).i > ((x2.nth x3.i.toNat).fld 0).i)) == false))) then
 bif ((!(((decide (x3.i > (0 : Int))) == true) && ((decide (((x2.nth ((IntKind.wrap .i64 (x3.i - (1 : Int))).toNat)).fld 0).i > ((x2.nth x3.i.toNat).fld 0).i)) == false))) || (((decide (x3.i > (0 : Int))) == true) && ((decide (((x2.nth ((IntKind.wrap .i64 (x3.i - (1 : Int))).toNat)).fld 0).i > ((x2.nth x3.i.toNat).fld 0).i)) == false))) then
 bif ((!(((decide (x3.i > (0 : Int))) == true) && ((decide (((x2.nth ((IntKind.wrap .i64 (x3.i - (1 : Int))).toNat)).fld 0).i > ((x2.nth x3.i.toNat).fld 0).i)) == false))) || (((((decide (x3.i > (0 : Int))) == true) && ((decide (((x2.nth ((IntKind.wrap .i64 (x3.i - (1 : Int))).toNat)).fld 0).i > ((x2.nth x3.i.toNat).fld 0).i)) == false)) && (((decide (x3.i > (0 : Int))) == true) && ((decide (((x2.nth ((IntKind.wrap .i64 (x3.i - (1 : Int))).toNat)).fld 0).i > ((x2.nth x3.i.toNat).fld 0).i)) == false))) && true)) then
 bif ((!(((decide (x3.i > (0 : Int))) == true) && ((decide (((x2.nth ((IntKind.wrap .i64 (x3.i - (1 : Int))).toNat)).fld 0).i > ((x2.nth x3.i.toNat).fld 0).i)) == false))) || (((decide (x3.i > (0 : Int))) == true) && ((decide (((x2.nth ((IntKind.wrap .i64 (x3.i - (1 : Int))).toNat)).fld 0).i > ((x2.nth x3.i.toNat).fld 0).i)) == false))) then
 bif ((!((((decide (x3.i > (0 : Int))) == true) && ((decide (((x2.nth ((IntKind.wrap .i64 (x3.i - (1 : Int))).toNat)).fld 0).i > ((x2.nth x3.i.toNat).fld 0).i)) == false)) && ((((x2.nth ((IntKind.wrap .i64 (x3.i - (1 : Int))).toNat)).fld 0).i == ((x2.nth x3.i.toNat).fld 0).i) == true))) || true) then
 bif ((!((((decide (x3.i > (0 : Int))) == true) && ((decide (((x2.nth ((IntKind.wrap .i64 (x3.i - (1 : Int))).toNat)).fld 0).i > ((x2.nth x3.i.toNat).fld 0).i)) == false)) && ((((x2.nth ((IntKind.wrap .i64 (x3.i - (1 : Int))).toNat)).fld 0).i == ((x2.nth x3.i.toNat).fld 0).i) == true))) || true) then
 bif ((!((((decide (x3.i > (0 : Int))) == true) && ((decide (((x2.nth ((IntKind.wrap .i64 (x3.i - (1 : Int))).toNat)).fld 0).i > ((x2.nth x3.i.toNat).fld 0).i)) == false)) && ((((x2.nth ((IntKind.wrap .i64 (x3.i - (1 : Int))).toNat)).fld 0).i == ((x2.nth x3.i.toNat).fld 0).i) == true))) || ((((((decide (x3.i > (0 : Int))) == true) && ((decide (((x2.nth ((IntKind.wrap .i64 (x3.i - (1 : Int))).toNat)).fld 0).i > ((x2.nth x3.i.toNat).fld 0).i)) == false)) && ((((x2.nth ((IntKind.wrap .i64 (x3.i - (1 : Int))).toNat)).fld 0).i == ((x2.nth x3.i.toNat).fld 0).i) == true)) && true) && true)) then
 bif ((!((((decide (x3.i > (0 : Int))) == true) && ((decide (((x2.nth ((IntKind.wrap .i64 (x3.i - (1 : Int))).toNat)).fld 0).i > ((x2.nth x3.i.toNat).fld 0).i)) == false)) && ((((x2.nth ((IntKind.wrap .i64 (x3.i - (1 : Int))).toNat)).fld 0).i == ((x2.nth x3.i.toNat).fld 0).i) == true))) || ((((((decide (x3.i > (0 : Int))) == true) && ((decide (((x2.nth ((IntKind.wrap .i64 (x3.i - (1 : Int))).toNat)).fld 0).i > ((x2.nth x3.i.toNat).fld 0).i)) == false)) && ((((x2.nth ((IntKind.wrap .i64 (x3.i - (1 : Int))).toNat)).fld 0).i == ((x2.nth x3.i.toNat).fld 0).i) == true)) && (((((decide (x3.i > (0 : Int))) == true) && ((decide (((x2.nth ((IntKind.wrap .i64 (x3.i - (1 : Int))).toNat)).fld 0).i > ((x2.nth x3.i.toNat).fld 0).i)) == false)) && ((((x2.nth ((IntKind.wrap .i64 (x3.i - (1 : Int))).toNat)).fld 0).i == ((x2.nth x3.i.toNat).fld 0).i) == true)) && true)) && (decide (0 ≤ (IntKind.wrap .i64 (x3.i - (1 : Int)))) && decide ((IntKind.wrap .i64 (x3.i - (1 : Int))).toNat < x2.es.length)))) then
 bif ((!((((decide (x3.i > (0 : Int))) == true) && ((decide (((x2.nth ((IntKind.wrap .i64 (x3.i - (1 : Int))).toNat)).fld 0).i > ((x2.nth x3.i.toNat).fld 0).i)) == false)) && ((((x2.nth ((IntKind.wrap .i64 (x3.i - (1 : Int))).toNat)).fld 0).i == ((x2.nth x3.i.toNat).fld 0).i) == true))) || ((((decide (x3.i > (0 : Int))) == true) && ((decide (((x2.nth ((IntKind.wrap .i64 (x3.i - (1 : Int))).toNat)).fld 0).i > ((x2.nth x3.i.toNat).fld 0).i)) == false)) && ((((x2.nth ((IntKind.wrap .i64 (x3.i - (1 : Int))).toNat)).fld 0).i == ((x2.nth x3.i.toNat).fld 0).i) == true))) then
 bif ((!((((decide (x3.i > (0 : Int))) == true) && ((decide (((x2.nth ((IntKind.wrap .i64 (x3.i - (1 : Int))).toNat)).fld 0).i > ((x2.nth x3.i.toNat).fld 0).i)) == false)) && ((((x2.nth ((IntKind.wrap .i64 (x3.i - (1 : Int))).toNat)).fld 0).i == ((x2.nth x3.i.toNat).fld 0).i) == true))) || ((((decide (x3.i > (0 : Int))) == true) && ((decide (((x2.nth ((IntKind.wrap .i64 (x3.i - (1 : Int))).toNat)).fld 0).i > ((x2.nth x3.i.toNat).fld 0).i)) == false)) && ((((x2.nth ((IntKind.wrap .i64 (x3.i - (1 : Int))).toNat)).fld 0).i == ((x2.nth x3.i.toNat).fld 0).i) == true))) then
 bif ((!((((decide (x3.i > (0 : Int))) == true) && ((decide (((x2.nth ((IntKind.wrap .i64 (x3.i - (1 : Int))).toNat)).fld 0).i > ((x2.nth x3.i.toNat).fld 0).i)) == false)) && ((((x2.nth ((IntKind.wrap .i64 (x3.i - (1 : Int))).toNat)).fld 0).i == ((x2.nth x3.i.toNat).fld 0).i) == true))) || ((((decide (x3.i > (0 : Int))) == true) && ((decide (((x2.nth ((IntKind.wrap .i64 (x3.i - (1 : Int))).toNat)).fld 0).i > ((x2.nth x3.i.toNat).fld 0).i)) == false)) && ((((x2.nth ((IntKind.wrap .i64 (x3.i - (1 : Int))).toNat)).fld 0).i == ((x2.nth x3.i.toNat).fld 0).i) == true))) then
 bif ((!((((decide (x3.i > (0 : Int))) == true) && ((decide (((x2.nth ((IntKind.wrap .i64 (x3.i - (1 : Int))).toNat)).fld 0).i > ((x2.nth x3.i.toNat).fld 0).i)) == false)) && ((((x2.nth ((IntKind.wrap .i64 (x3.i - (1 : Int))).toNat)).fld 0).i == ((x2.nth x3.i.toNat).fld 0).i) == true))) || true) then
 bif ((!((((decide (x3.i > (0 : Int))) == true) && ((decide (((x2.nth ((IntKind.wrap .i64 (x3.i - (1 : Int))).toNat)).fld 0).i > ((x2.nth x3.i.toNat).fld 0).i)) == false)) && ((((x2.nth ((IntKind.wrap .i64 (x3.i - (1 : Int))).toNat)).fld 0).i == ((x2.nth x3.i.toNat).fld 0).i) == true))) || true) then
 bif ((!((((decide (x3.i > (0 : Int))) == true) && ((decide (((x2.nth ((IntKind.wrap .i64 (x3.i - (1 : Int))).toNat)).fld 0).i > ((x2.nth x3.i.toNat).fld 0).i)) == false)) && ((((x2.nth ((IntKind.wrap .i64 (x3.i - (1 : Int))).toNat)).fld 0).i == ((x2.nth x3.i.toNat).fld 0).i) == true))) || ((((((decide (x3.i > (0 : Int))) == true) && ((decide (((x2.nth ((IntKind.wrap .i64 (x3.i - (1 : Int))).toNat)).fld 0).i > ((x2.nth x3.i.toNat).fld 0).i)) == false)) && ((((x2.nth ((IntKind.wrap .i64 (x3.i - (1 : Int))).toNat)).fld 0).i == ((x2.nth x3.i.toNat).fld 0).i) == true)) && (((((decide (x3.i > (0 : Int))) == true) && ((decide (((x2.nth ((IntKind.wrap .i64 (x3.i - (1 : Int))).toNat)).fld 0).i > ((x2.nth x3.i.toNat).fld 0).i)) == false)) && ((((x2.nth ((IntKind.wrap .i64 (x3.i - (1 : Int))).toNat)).fld 0).i == ((x2.nth x3.i.toNat).fld 0).i) == true)) && true)) && (decide (0 ≤ x3.i) && decide (x3.i.toNat < x2.es.length)))) then
 bif ((!((((decide (x3.i > (0 : Int))) == true) && ((decide (((x2.nth ((IntKind.wrap .i64 (x3.i - (1 : Int))).toNat)).fld 0).i > ((x2.nth x3.i.toNat).fld 0).i)) == false)) && ((((x2.nth ((IntKind.wrap .i64 (x3.i - (1 : Int))).toNat)).fld 0).i == ((x2.nth x3.i.toNat).fld 0).i) == true))) || ((((decide (x3.i > (0 : Int))) == true) && ((decide (((x2.nth ((IntKind.wrap .i64 (x3.i - (1 : Int))).toNat)).fld 0).i > ((x2.nth x3.i.toNat).fld 0).i)) == false)) && ((((x2.nth ((IntKind.wrap .i64 (x3.i - (1 : Int))).toNat)).fld 0).i == ((x2.nth x3.i.toNat).fld 0).i) == true))) then
 bif ((!((((decide (x3.i > (0 : Int))) == true) && ((decide (((x2.nth ((IntKind.wrap .i64 (x3.i - (1 : Int))).toNat)).fld 0).i > ((x2.nth x3.i.toNat).fld 0).i)) == false)) && ((((x2.nth ((IntKind.wrap .i64 (x3.i - (1 : Int))).toNat)).fld 0).i == ((x2.nth x3.i.toNat).fld 0).i) == true))) || ((((decide (x3.i > (0 : Int))) == true) && ((decide (((x2.nth ((IntKind.wrap .i64 (x3.i - (1 : Int))).toNat)).fld 0).i > ((x2.nth x3.i.toNat).fld 0).i)) == false)) && ((((x2.nth ((IntKind.wrap .i64 (x3.i - (1 : Int))).toNat)).fld 0).i == ((x2.nth x3.i.toNat).fld 0).i) == true))) then
 bif ((!((((decide (x3.i > (0 : Int))) == true) && ((decide (((x2.nth ((IntKind.wrap .i64 (x3.i - (1 : Int))).toNat)).fld 0).i > ((x2.nth x3.i.toNat).fld 0).i)) == false)) && ((((x2.nth ((IntKind.wrap .i64 (x3.i - (1 : Int))).toNat)).fld 0).i == ((x2.nth x3.i.toNat).fld 0).i) == true))) || ((((decide (x3.i > (0 : Int))) == true) && ((decide (((x2.nth ((IntKind.wrap .i64 (x3.i - (1 : Int))).toNat)).fld 0).i > ((x2.nth x3.i.toNat).fld 0).i)) == false)) && ((((x2.nth ((IntKind.wrap .i64 (x3.i - (1 : Int))).toNat)).fld 0).i == ((x2.nth x3.i.toNat).fld 0).i) == true))) then
 bif ((!((((decide (x3.i > (0 : Int))) == true) && ((decide (((x2.nth ((IntKind.wrap .i64 (x3.i - (1 : Int))).toNat)).fld 0).i > ((x2.nth x3.i.toNat).fld 0).i)) == false)) && ((((x2.nth ((IntKind.wrap .i64 (x3.i - (1 : Int))).toNat)).fld 0).i == ((x2.nth x3.i.toNat).fld 0).i) == true))) || ((((((decide (x3.i > (0 : Int))) == true) && ((decide (((x2.nth ((IntKind.wrap .i64 (x3.i - (1 : Int))).toNat)).fld 0).i > ((x2.nth x3.i.toNat).fld 0).i)) == false)) && ((((x2.nth ((IntKind.wrap .i64 (x3.i - (1 : Int))).toNat)).fld 0).i == ((x2.nth x3.i.toNat).fld 0).i) == true)) && ((((decide (x3.i > (0 : Int))) == true) && ((decide (((x2.nth ((IntKind.wrap .i64 (x3.i - (1 : Int))).toNat)).fld 0).i > ((x2.nth x3.i.toNat).fld 0).i)) == false)) && ((((x2.nth ((IntKind.wrap .i64 (x3.i - (1 : Int))).toNat)).fld 0).i == ((x2.nth x3.i.toNat).fld 0).i) == true))) && true)) then
 bif ((!(((decide (x3.i > (0 : Int))) == true) && ((decide (((x2.nth ((IntKind.wrap .i64 (x3.i - (1 : Int))).toNat)).fld 0).i > ((x2.nth x3.i.toNat).fld 0).i)) == false))) || ((((decide (x3.i > (0 : Int))) == true) && ((decide (((x2.nth ((IntKind.wrap .i64 (x3.i - (1 : Int))).toNat)).fld 0).i > ((x2.nth x3.i.toNat).fld 0).i)) == false)) && (bif (((x2.nth ((IntKind.wrap .i64 (x3.i - (1 : Int))).toNat)).fld 0).i == ((x2.nth x3.i.toNat).fld 0).i) then ((((decide (x3.i > (0 : Int))) == true) && ((decide (((x2.nth ((IntKind.wrap .i64 (x3.i - (1 : Int))).toNat)).fld 0).i > ((x2.nth x3.i.toNat).fld 0).i)) == false)) && ((((x2.nth ((IntKind.wrap .i64 (x3.i - (1 : Int))).toNat)).fld 0).i == ((x2.nth x3.i.toNat).fld 0).i) == true)) else true))) then
 bif ((!((decide (x3.i > (0 : Int))) == true)) || (((decide (x3.i > (0 : Int))) == true) && (bif (decide (((x2.nth ((IntKind.wrap .i64 (x3.i - (1 : Int))).toNat)).fld 0).i > ((x2.nth x3.i.toNat).fld 0).i)) then true else (((decide (x3.i > (0 : Int))) == true) && ((decide (((x2.nth ((IntKind.wrap .i64 (x3.i - (1 : Int))).toNat)).fld 0).i > ((x2.nth x3.i.toNat).fld 0).i)) == false))))) then
 bif (bif (decide (x3.i > (0 : Int))) then ((decide (x3.i > (0 : Int))) == true) else true) then
 bif (bif (decide (x3.i > (0 : Int))) then (bif (decide (((x2.nth ((IntKind.wrap .i64 (x3.i - (1 : Int))).toNat)).fld 0).i > ((x2.nth x3.i.toNat).fld 0).i)) then (T.bool true) else (bif (((x2.nth ((IntKind.wrap .i64 (x3.i - (1 : Int))).toNat)).fld 0).i == ((x2.nth x3.i.toNat).fld 0).i) then (T.bool (!(Op.bytesLess ((((x2.nth ((IntKind.wrap .i64 (x3.i - (1 : Int))).toNat)).fld 1).fld 0).s).toList ((((x2.nth x3.i.toNat).fld 1).fld 0).s).toList))) else (T.bool false))) else (T.bool false)).b then
 some [(T.bool false)]
 else
 l_spec_l9Ok_0 H x1 x2 (T.int (IntKind.wrap .i64 (x3.i + (1 : Int))))
 else
 none
 else
 none
 else
 none
 else
 none
 else
 none
 else
 none
 else
 none
 else
 none
 else
 none
 else
 none
 else
 none
 else
 none
 else
 none
 else
 none
 else
 none
 else
 none
 else
 none
 else
 none
 else
 none
 else
 none
 else
 none
 else
 none
 else
 none
 else
 none
 else
 none
 else
 none
 else
 none
 else
 none
 else
 none
 else
 none
 else
 none
 else
 none
 else
 none
 else
 none
 else
 none
 else
 none
 else
 none
 else
 none
 else
 none
 else
 none
 else
 none
 else
 none
 else
 none
 else
 none
 else
 none
 else
 none
 else
 none
 else
 none
 else
 none
 else
 none
 else
 none
 else
 none
 else
 none
 else
 some [(T.bool (decide ((x2.es.length : Int) ≤ (36 : Int))))] := by kernel_rfl
theorem q_spec_l9Ok_0 (H : List Item → CS → R) (C : CallsE) (x1 : T) (x2 : T) (x3 : T) : headE fi_spec_l9Ok env H C (hdAt fi_spec_l9Ok.body 0) ([(0, .val 27 x1), (1, .val 29 x2), (5, .val 3 x3)], []) = b_spec_l9Ok_0 H C x1 x2 x3 := by
 refine (e_spec_l9Ok_0 H C x1 x2 x3).trans ?_
 unfold b_spec_l9Ok_0
 all_goals cases hc : ((decide (x3.i < (x2.es.length : Int)))) with
 | true =>
  try simp only [bs]
  all_goals cases hc : ((decide (0 ≤ x3.i) && decide (x3.i.toNat < x2.es.length))) with
  | true =>
   try simp only [bs]
   all_goals refine obind_congr fun r1 => ?_
   all_goals try simp only [bs]
   all_goals cases hc : ((!(rt r1 0).b)) with
   | true =>
    try simp only [bs]
    all_goals kernel_rfl
   | false =>
    try simp only [bs]
    all_goals refine obind_congr fun r2 => ?_
    all_goals try simp only [bs]
    all_goals cases hc : ((!(rt r2 0).b)) with
    | true =>
     try simp only [bs]
     all_goals kernel_rfl
    | false =>
     try simp only [bs]
     all_goals cases hc : ((decide (x3.i > (0 : Int)))) with
     | true =>
      try simp only [bs]
      all_goals cases hc : ((decide (0 ≤ (IntKind.wrap .i64 (x3.i - (1 : Int)))) && decide ((IntKind.wrap .i64 (x3.i - (1 : Int))).toNat < x2.es.length))) with
      | true =>
       try simp only [bs]
       all_goals cases hc : ((decide (((x2.nth ((IntKind.wrap .i64 (x3.i - (1 : Int))).toNat)).fld 0).i > ((x2.nth x3.i.toNat).fld 0).i))) with
       | true =>
        try simp only [bs]
        all_goals cases hc : ((((x2.nth ((IntKind.wrap .i64 (x3.i - (1 : Int))).toNat)).fld 0).i == ((x2.nth x3.i.toNat).fld 0).i)) with
        | true =>
         try simp only [bs]
         all_goals kernel_rfl
        | false =>
         try simp only [bs]
         all_goals kernel_rfl
       | false =>
        try simp only [bs]
        all_goals cases hc : ((((x2.nth ((IntKind.wrap .i64 (x3.i - (1 : Int))).toNat)).fld 0).i == ((x2.nth x3.i.toNat).fld 0).i)) with
        | true =>
         try simp only [bs]
         all_goals cases hc : ((!(Op.bytesLess ((((x2.nth ((IntKind.wrap .i64 (x3.i - (1 : Int))).toNat)).fld 1).fld 0).s).toList ((((x2.nth x3.i.toNat).fld 1).fld 0).s).toList))) with
         | true =>
          try simp only [bs]
          all_goals kernel_rfl
         | false =>
          try simp only [bs]
          all_goals kernel_rfl
        | false =>
         try simp only [bs]
         all_goals kernel_rfl
      | false =>
       try simp only [bs]
       all_goals kernel_rfl
     | false =>
      try simp only [bs]
      all_goals cases hc : ((decide (((x2.nth ((IntKind.wrap .i64 (x3.i - (1 : Int))).toNat)).fld 0).i > ((x2.nth x3.i.toNat).fld 0).i))) with
      | true =>
       try simp only [bs]
       all_goals cases hc : ((((x2.nth ((IntKind.wrap .i64 (x3.i - (1 : Int))).toNat)).fld 0).i == ((x2.nth x3.i.toNat).fld 0).i)) with
       | true =>
        try simp only [bs]
        all_goals kernel_rfl
       | false =>
        try simp only [bs]
        all_goals kernel_rfl
      | false =>
       try simp only [bs]
       all_goals cases hc : ((((x2.nth ((IntKind.wrap .i64 (x3.i - (1 : Int))).toNat)).fld 0).i == ((x2.nth x3.i.toNat).fld 0).i)) with
       | true =>
        try simp only [bs]
        all_goals kernel_rfl
       | false =>
        try simp only [bs]
        all_goals kernel_rfl
  | false =>
   try simp only [bs]
   all_goals kernel_rfl
 | false =>
  try simp only [bs]
  all_goals kernel_rfl
theorem y_spec_l9Ok_0 (x1 : T) (x2 : T) (x3 : T) {r : List T} (h : Yields (fun k => b_spec_l9Ok_0 (hl env k fi_spec_l9Ok) (cl env k) x1 x2 x3) r) : Yields (fun k => l_spec_l9Ok_0 (hl env k fi_spec_l9Ok) x1 x2 x3) r := Yields.head (fun H C => q_spec_l9Ok_0 H C x1 x2 x3) h
/- loop.example/heirlooms/laws.toRecord -/
noncomputable abbrev b_laws_toRecord (H : List Item → CS → R) (C : CallsE) (a0 : T) : R :=
 obind (C F_laws_toStringS [(a0.fld 1)]) fun r1 =>
 some [(T.st [(a0.fld 0), (rt r1 0)])]
theorem q_laws_toRecord (H : List Item → CS → R) (C : CallsE) (a0 : T) : enterE fi_laws_toRecord env H C [a0] = b_laws_toRecord H C a0 := by kernel_rfl
theorem y_laws_toRecord (a0 : T) {r : List T} (h : Yields (fun k => b_laws_toRecord (hl env k fi_laws_toRecord) (cl env k) a0) r) : Yields (fun k => cl env k F_laws_toRecord [a0]) r := Yields.call (fi := fi_laws_toRecord) rfl rfl (fun H C => q_laws_toRecord H C a0) h
/- loop.example/heirlooms/laws.toValue -/
noncomputable abbrev b_laws_toValue (H : List Item → CS → R) (C : CallsE) (a0 : T) : R :=
 obind (C F_laws_toValueS [(a0.fld 2)]) fun r1 =>
 obind (C F_laws_toIntS [(a0.fld 3)]) fun r2 =>
 some [(T.st [(a0.fld 0), (a0.fld 1), (rt r1 0), (rt r2 0)])]
theorem q_laws_toValue (H : List Item → CS → R) (C : CallsE) (a0 : T) : enterE fi_laws_toValue env H C [a0] = b_laws_toValue H C a0 := by kernel_rfl
theorem y_laws_toValue (a0 : T) {r : List T} (h : Yields (fun k => b_laws_toValue (hl env k fi_laws_toValue) (cl env k) a0) r) : Yields (fun k => cl env k F_laws_toValue [a0]) r := Yields.call (fi := fi_laws_toValue) rfl rfl (fun H C => q_laws_toValue H C a0) h
/- loop.example/heirlooms/impl.KindsOk -/
noncomputable abbrev b_impl_KindsOk (H : List Item → CS → R) (C : CallsE) (a0 : T) : R :=
 obind (C F_impl_KindsBad [a0]) fun r1 =>
 some [(T.bool ((rt r1 0).i == (-1 : Int)))]
theorem q_impl_KindsOk (H : List Item → CS → R) (C : CallsE) (a0 : T) : enterE fi_impl_KindsOk env H C [a0] = b_impl_KindsOk H C a0 := by kernel_rfl
theorem y_impl_KindsOk (a0 : T) {r : List T} (h : Yields (fun k => b_impl_KindsOk (hl env k fi_impl_KindsOk) (cl env k) a0) r) : Yields (fun k => cl env k F_impl_KindsOk [a0]) r := Yields.call (fi := fi_impl_KindsOk) rfl rfl (fun H C => q_impl_KindsOk H C a0) h
/- loop.example/heirlooms/impl.keepable -/
noncomputable abbrev b_impl_keepable (H : List Item → CS → R) (C : CallsE) (a0 a1 : T) : R :=
 obind (C F_impl_kindIn [a0, (a1.fld 0)]) fun r1 =>
 bif (rt r1 0).b then
 obind (C F_impl_recordOf [a0, (a1.fld 0)]) fun r2 =>
 bif ((IntKind.wrap .i64 ((BitVec.ofInt (IntKind.i64).bits (((rt r2 0).fld 0).i) &&& BitVec.ofInt (IntKind.i64).bits (8 : Int)).toNat : Nat)) != (0 : Int)) then
 obind (C F_impl_valueFits [a0, a1]) fun r3 =>
 some [(rt r3 0)]
 else
 some [(T.bool false)]
 else
 some [(T.bool false)]
theorem e_impl_keepable (H : List Item → CS → R) (C : CallsE) (a0 a1 : T) : enterE fi_impl_keepable env H C [a0, a1] =
 obind (C F_impl_kindIn [a0, (a1.fld 0)]) fun r1 =>
 bif ((!((rt r1 0).b == true)) || true) then
 bif ((!((rt r1 0).b == true)) || true) then
 bif ((!((rt r1 0).b == true)) || ((rt r1 0).b == true)) then
 bif ((!((rt r1 0).b == true)) || (((rt r1 0).b == true) && (((rt r1 0).b == true) && true))) then
 obind ((bif ((rt r1 0).b == true) then C F_impl_recordOf [a0, (a1.fld 0)] else some [])) fun r2 =>
 bif ((!((rt r1 0).b == true)) || ((rt r1 0).b == true)) then
 bif ((!((rt r1 0).b == true)) || ((((rt r1 0).b == true) && true) && true)) then
 bif ((!((rt r1 0).b == true)) || ((((rt r1 0).b == true) && true) && true)) then
 bif (bif (rt r1 0).b then ((rt r1 0).b == true) else true) then
 bif ((!((bif (rt r1 0).b then (T.bool ((IntKind.wrap .i64 ((BitVec.ofInt (IntKind.i64).bits (((rt r2 0).fld 0).i) &&& BitVec.ofInt (IntKind.i64).bits (8 : Int)).toNat : Nat)) != (0 : Int))) else (T.bool false)).b == true)) || true) then
 bif ((!((bif (rt r1 0).b then (T.bool ((IntKind.wrap .i64 ((BitVec.ofInt (IntKind.i64).bits (((rt r2 0).fld 0).i) &&& BitVec.ofInt (IntKind.i64).bits (8 : Int)).toNat : Nat)) != (0 : Int))) else (T.bool false)).b == true)) || true) then
 bif ((!((bif (rt r1 0).b then (T.bool ((IntKind.wrap .i64 ((BitVec.ofInt (IntKind.i64).bits (((rt r2 0).fld 0).i) &&& BitVec.ofInt (IntKind.i64).bits (8 : Int)).toNat : Nat)) != (0 : Int))) else (T.bool false)).b == true)) || (((bif (rt r1 0).b then (T.bool ((IntKind.wrap .i64 ((BitVec.ofInt (IntKind.i64).bits (((rt r2 0).fld 0).i) &&& BitVec.ofInt (IntKind.i64).bits (8 : Int)).toNat : Nat)) != (0 : Int))) else (T.bool false)).b == true) && (((bif (rt r1 0).b then (T.bool ((IntKind.wrap .i64 ((BitVec.ofInt (IntKind.i64).bits (((rt r2 0).fld 0).i) &&& BitVec.ofInt (IntKind.i64).bits (8 : Int)).toNat : Nat)) != (0 : Int))) else (T.bool false)).b == true) && true))) then
 obind ((bif ((bif (rt r1 0).b then (T.bool ((IntKind.wrap .i64 ((BitVec.ofInt (IntKind.i64).bits (((rt r2 0).fld 0).i) &&& BitVec.ofInt (IntKind.i64).bits (8 : Int)).toNat : Nat)) != (0 : Int))) else (T.bool false)).b == true) then C F_impl_valueFits [a0, a1] else some [])) fun r3 =>
 bif (bif (bif (rt r1 0).b then (T.bool ((IntKind.wrap .i64 ((BitVec.ofInt (IntKind.i64).bits (((rt r2 0).fld 0).i) &&& BitVec.ofInt (IntKind.i64).bits (8 : Int)).toNat : Nat)) != (0 : Int))) else (T.bool false)).b then ((bif (rt r1 0).b then (T.bool ((IntKind.wrap .i64 ((BitVec.ofInt (IntKind.i64).bits (((rt r2 0).fld 0).i) &&& BitVec.ofInt (IntKind.i64).bits (8 : Int)).toNat : Nat)) != (0 : Int))) else (T.bool false)).b == true) else true) then
 some [(bif (bif (rt r1 0).b then (T.bool ((IntKind.wrap .i64 ((BitVec.ofInt (IntKind.i64).bits (((rt r2 0).fld 0).i) &&& BitVec.ofInt (IntKind.i64).bits (8 : Int)).toNat : Nat)) != (0 : Int))) else (T.bool false)).b then (rt r3 0) else (T.bool false))]
 else
 none
 else
 none
 else
 none
 else
 none
 else
 none
 else
 none
 else
 none
 else
 none
 else
 none
 else
 none
 else
 none
 else
 none := by kernel_rfl
theorem q_impl_keepable (H : List Item → CS → R) (C : CallsE) (a0 a1 : T) : enterE fi_impl_keepable env H C [a0, a1] = b_impl_keepable H C a0 a1 := by
 refine (e_impl_keepable H C a0 a1).trans ?_
 unfold b_impl_keepable
 all_goals refine obind_congr fun r1 => ?_
 all_goals try simp only [bs]
 all_goals cases hc : ((rt r1 0).b) with
 | true =>
  try simp only [bs]
  all_goals refine obind_congr fun r2 => ?_
  all_goals try simp only [bs]
  all_goals cases hc : (((IntKind.wrap .i64 ((BitVec.ofInt (IntKind.i64).bits (((rt r2 0).fld 0).i) &&& BitVec.ofInt (IntKind.i64).bits (8 : Int)).toNat : Nat)) != (0 : Int))) with
  | true =>
   try simp only [bs]
   all_goals refine obind_congr fun r3 => ?_
   all_goals try simp only [bs]
   all_goals kernel_rfl
  | false =>
   try simp only [bs]
   all_goals kernel_rfl
 | false =>
  try simp only [bs]
  all_goals kernel_rfl
theorem y_impl_keepable (a0 a1 : T) {r : List T} (h : Yields (fun k => b_impl_keepable (hl env k fi_impl_keepable) (cl env k) a0 a1) r) : Yields (fun k => cl env k F_impl_keepable [a0, a1]) r := Yields.call (fi := fi_impl_keepable) rfl rfl (fun H C => q_impl_keepable H C a0 a1) h
/- loop.example/heirlooms/impl.vaultBefore -/
noncomputable abbrev b_impl_vaultBefore (H : List Item → CS → R) (C : CallsE) (a0 a1 : T) : R :=
 bif (decide ((a0.fld 0).i < (a1.fld 0).i)) then
 some [(T.bool true)]
 else
 bif ((a0.fld 0).i == (a1.fld 0).i) then
 some [(T.bool (Op.bytesLess (((a0.fld 1).fld 0).s).toList (((a1.fld 1).fld 0).s).toList))]
 else
 some [(T.bool false)]
theorem e_impl_vaultBefore (H : List Item → CS → R) (C : CallsE) (a0 a1 : T) : enterE fi_impl_vaultBefore env H C [a0, a1] =
 bif ((!((decide ((a0.fld 0).i < (a1.fld 0).i)) == false)) || true) then
 bif ((!((decide ((a0.fld 0).i < (a1.fld 0).i)) == false)) || ((decide ((a0.fld 0).i < (a1.fld 0).i)) == false)) then
 bif ((!((decide ((a0.fld 0).i < (a1.fld 0).i)) == false)) || true) then
 bif ((!((decide ((a0.fld 0).i < (a1.fld 0).i)) == false)) || ((decide ((a0.fld 0).i < (a1.fld 0).i)) == false)) then
 bif ((!((decide ((a0.fld 0).i < (a1.fld 0).i)) == false)) || ((((decide ((a0.fld 0).i < (a1.fld 0).i)) == false) && ((decide ((a0.fld 0).i < (a1.fld 0).i)) == false)) && true)) then
 bif ((!((decide ((a0.fld 0).i < (a1.fld 0).i)) == false)) || ((decide ((a0.fld 0).i < (a1.fld 0).i)) == false)) then
 bif ((!(((decide ((a0.fld 0).i < (a1.fld 0).i)) == false) && (((a0.fld 0).i == (a1.fld 0).i) == true))) || true) then
 bif ((!(((decide ((a0.fld 0).i < (a1.fld 0).i)) == false) && (((a0.fld 0).i == (a1.fld 0).i) == true))) || (((decide ((a0.fld 0).i < (a1.fld 0).i)) == false) && (((a0.fld 0).i == (a1.fld 0).i) == true))) then
 bif ((!(((decide ((a0.fld 0).i < (a1.fld 0).i)) == false) && (((a0.fld 0).i == (a1.fld 0).i) == true))) || (((decide ((a0.fld 0).i < (a1.fld 0).i)) == false) && (((a0.fld 0).i == (a1.fld 0).i) == true))) then
 bif ((!(((decide ((a0.fld 0).i < (a1.fld 0).i)) == false) && (((a0.fld 0).i == (a1.fld 0).i) == true))) || true) then
 bif ((!(((decide ((a0.fld 0).i < (a1.fld 0).i)) == false) && (((a0.fld 0).i == (a1.fld 0).i) == true))) || (((decide ((a0.fld 0).i < (a1.fld 0).i)) == false) && (((a0.fld 0).i == (a1.fld 0).i) == true))) then
 bif ((!(((decide ((a0.fld 0).i < (a1.fld 0).i)) == false) && (((a0.fld 0).i == (a1.fld 0).i) == true))) || (((decide ((a0.fld 0).i < (a1.fld 0).i)) == false) && (((a0.fld 0).i == (a1.fld 0).i) == true))) then
 bif ((!(((decide ((a0.fld 0).i < (a1.fld 0).i)) == false) && (((a0.fld 0).i == (a1.fld 0).i) == true))) || (((((decide ((a0.fld 0).i < (a1.fld 0).i)) == false) && (((a0.fld 0).i == (a1.fld 0).i) == true)) && (((decide ((a0.fld 0).i < (a1.fld 0).i)) == false) && (((a0.fld 0).i == (a1.fld 0).i) == true))) && true)) then
 bif ((!((decide ((a0.fld 0).i < (a1.fld 0).i)) == false)) || (((decide ((a0.fld 0).i < (a1.fld 0).i)) == false) && (bif ((a0.fld 0).i == (a1.fld 0).i) then (((decide ((a0.fld 0).i < (a1.fld 0).i)) == false) && (((a0.fld 0).i == (a1.fld 0).i) == true)) else true))) then
 bif (bif (decide ((a0.fld 0).i < (a1.fld 0).i)) then true else ((decide ((a0.fld 0).i < (a1.fld 0).i)) == false)) then
 some [(bif (decide ((a0.fld 0).i < (a1.fld 0).i)) then (T.bool true) else (bif ((a0.fld 0).i == (a1.fld 0).i) then (T.bool (Op.bytesLess (((a0.fld 1).fld 0).s).toList (((a1.fld 1).fld 0).s).toList)) else (T.bool false)))]
 else
 none
 else
 none
 else
 none
 else
 none
 else
 none
 else
 none
 else
 none
 else
 none
 else
 none
 else
 none
 else
 none
 else
 none
 else
 none
 else
 none
 else
 none := by kernel_rfl
theorem q_impl_vaultBefore (H : List Item → CS → R) (C : CallsE) (a0 a1 : T) : enterE fi_impl_vaultBefore env H C [a0, a1] = b_impl_vaultBefore H C a0 a1 := by
 refine (e_impl_vaultBefore H C a0 a1).trans ?_
 unfold b_impl_vaultBefore
 all_goals cases hc : ((decide ((a0.fld 0).i < (a1.fld 0).i))) with
 | true =>
  try simp only [bs]
  all_goals cases hc : (((a0.fld 0).i == (a1.fld 0).i)) with
  | true =>
   try simp only [bs]
   all_goals kernel_rfl
  | false =>
   try simp only [bs]
   all_goals kernel_rfl
 | false =>
  try simp only [bs]
  all_goals cases hc : (((a0.fld 0).i == (a1.fld 0).i)) with
  | true =>
   try simp only [bs]
   all_goals kernel_rfl
  | false =>
   try simp only [bs]
   all_goals kernel_rfl
theorem y_impl_vaultBefore (a0 a1 : T) {r : List T} (h : Yields (fun k => b_impl_vaultBefore (hl env k fi_impl_vaultBefore) (cl env k) a0 a1) r) : Yields (fun k => cl env k F_impl_vaultBefore [a0, a1]) r := Yields.call (fi := fi_impl_vaultBefore) rfl rfl (fun H C => q_impl_vaultBefore H C a0 a1) h
/- loop.example/heirlooms/laws.eqRecord -/
noncomputable abbrev b_laws_eqRecord (H : List Item → CS → R) (C : CallsE) (a0 a1 : T) : R :=
 bif ((a0.fld 0).i != (a1.fld 0).i) then
 some [(T.bool false)]
 else
 obind (C F_laws_eqStringS [(a0.fld 1), (a1.fld 1)]) fun r1 =>
 bif (!(rt r1 0).b) then
 some [(T.bool false)]
 else
 some [(T.bool true)]
theorem q_laws_eqRecord (H : List Item → CS → R) (C : CallsE) (a0 a1 : T) : enterE fi_laws_eqRecord env H C [a0, a1] = b_laws_eqRecord H C a0 a1 := by kernel_rfl
theorem y_laws_eqRecord (a0 a1 : T) {r : List T} (h : Yields (fun k => b_laws_eqRecord (hl env k fi_laws_eqRecord) (cl env k) a0 a1) r) : Yields (fun k => cl env k F_laws_eqRecord [a0, a1]) r := Yields.call (fi := fi_laws_eqRecord) rfl rfl (fun H C => q_laws_eqRecord H C a0 a1) h
/- loop.example/heirlooms/laws.eqValue -/
noncomputable abbrev b_laws_eqValue (H : List Item → CS → R) (C : CallsE) (a0 a1 : T) : R :=
 bif (!(((a0.fld 0).s).toList == ((a1.fld 0).s).toList)) then
 some [(T.bool false)]
 else
 bif ((a0.fld 1).i != (a1.fld 1).i) then
 some [(T.bool false)]
 else
 obind (C F_laws_eqValueS [(a0.fld 2), (a1.fld 2)]) fun r1 =>
 bif (!(rt r1 0).b) then
 some [(T.bool false)]
 else
 obind (C F_laws_eqIntS [(a0.fld 3), (a1.fld 3)]) fun r2 =>
 bif (!(rt r2 0).b) then
 some [(T.bool false)]
 else
 some [(T.bool true)]
theorem q_laws_eqValue (H : List Item → CS → R) (C : CallsE) (a0 a1 : T) : enterE fi_laws_eqValue env H C [a0, a1] = b_laws_eqValue H C a0 a1 := by kernel_rfl
theorem y_laws_eqValue (a0 a1 : T) {r : List T} (h : Yields (fun k => b_laws_eqValue (hl env k fi_laws_eqValue) (cl env k) a0 a1) r) : Yields (fun k => cl env k F_laws_eqValue [a0, a1]) r := Yields.call (fi := fi_laws_eqValue) rfl rfl (fun H C => q_laws_eqValue H C a0 a1) h
noncomputable def l_laws_szStringS_0 (H : List Item → CS → R) (x1 : T) (x2 : T) (x3 : T) : R := H (hdAt fi_laws_szStringS.body 0) ([(0, .val 57 x1), (1, .val 3 x2), (5, .val 3 x3)], [])
/- loop.example/heirlooms/laws.szStringS -/
noncomputable abbrev b_laws_szStringS (H : List Item → CS → R) (C : CallsE) (a0 a1 : T) : R :=
 bif (decide ((IntKind.wrap .i64 (a1.i - (a0.es.length : Int))) < (0 : Int))) then
 some [(T.int (-1 : Int))]
 else
 l_laws_szStringS_0 H a0 (T.int (IntKind.wrap .i64 (a1.i - (a0.es.length : Int)))) (T.int (0 : Int))
theorem q_laws_szStringS (H : List Item → CS → R) (C : CallsE) (a0 a1 : T) : enterE fi_laws_szStringS env H C [a0, a1] = b_laws_szStringS H C a0 a1 := by kernel_rfl
theorem y_laws_szStringS (a0 a1 : T) {r : List T} (h : Yields (fun k => b_laws_szStringS (hl env k fi_laws_szStringS) (cl env k) a0 a1) r) : Yields (fun k => cl env k F_laws_szStringS [a0, a1]) r := Yields.call (fi := fi_laws_szStringS) rfl rfl (fun H C => q_laws_szStringS H C a0 a1) h
noncomputable abbrev b_laws_szStringS_0 (H : List Item → CS → R) (C : CallsE) (x1 : T) (x2 : T) (x3 : T) : R :=
 bif (decide (x3.i < (x1.es.length : Int))) then
 bif (decide (0 ≤ x3.i) && decide (x3.i.toNat < x1.es.length)) then
 bif (decide ((IntKind.wrap .i64 (x2.i - (((x1.nth x3.i.toNat).s).size : Int))) < (0 : Int))) then
 some [(T.int (-1 : Int))]
 else
 l_laws_szStringS_0 H x1 (T.int (IntKind.wrap .i64 (x2.i - (((x1.nth x3.i.toNat).s).size : Int)))) (T.int (IntKind.wrap .i64 (x3.i + (1 : Int))))
 else
 none
 else
 some [x2]
theorem q_laws_szStringS_0 (H : List Item → CS → R) (C : CallsE) (x1 : T) (x2 : T) (x3 : T) : headE fi_laws_szStringS env H C (hdAt fi_laws_szStringS.body 0) ([(0, .val 57 x1), (1, .val 3 x2), (5, .val 3 x3)], []) = b_laws_szStringS_0 H C x1 x2 x3 := by kernel_rfl
theorem y_laws_szStringS_0 (x1 : T) (x2 : T) (x3 : T) {r : List T} (h : Yields (fun k => b_laws_szStringS_0 (hl env k fi_laws_szStringS) (cl env k) x1 x2 x3) r) : Yields (fun k => l_laws_szStringS_0 (hl env k fi_laws_szStringS) x1 x2 x3) r := Yields.head (fun H C => q_laws_szStringS_0 H C x1 x2 x3) h
noncomputable def l_laws_szValueS_0 (H : List Item → CS → R) (x1 : T) (x2 : T) (x3 : T) : R := H (hdAt fi_laws_szValueS.body 0) ([(0, .val 37 x1), (1, .val 3 x2), (5, .val 3 x3)], [])
/- loop.example/heirlooms/laws.szValueS -/
noncomputable abbrev b_laws_szValueS (H : List Item → CS → R) (C : CallsE) (a0 a1 : T) : R :=
 bif (decide ((IntKind.wrap .i64 (a1.i - (a0.es.length : Int))) < (0 : Int))) then
 some [(T.int (-1 : Int))]
 else
 l_laws_szValueS_0 H a0 (T.int (IntKind.wrap .i64 (a1.i - (a0.es.length : Int)))) (T.int (0 : Int))
theorem q_laws_szValueS (H : List Item → CS → R) (C : CallsE) (a0 a1 : T) : enterE fi_laws_szValueS env H C [a0, a1] = b_laws_szValueS H C a0 a1 := by kernel_rfl
theorem y_laws_szValueS (a0 a1 : T) {r : List T} (h : Yields (fun k => b_laws_szValueS (hl env k fi_laws_szValueS) (cl env k) a0 a1) r) : Yields (fun k => cl env k F_laws_szValueS [a0, a1]) r := Yields.call (fi := fi_laws_szValueS) rfl rfl (fun H C => q_laws_szValueS H C a0 a1) h
noncomputable abbrev b_laws_szValueS_0 (H : List Item → CS → R) (C : CallsE) (x1 : T) (x2 : T) (x3 : T) : R :=
 bif (decide (x3.i < (x1.es.length : Int))) then
 bif (decide (0 ≤ x3.i) && decide (x3.i.toNat < x1.es.length)) then
 obind (C F_laws_szValue [(x1.nth x3.i.toNat), x2]) fun r1 =>
 bif (decide ((rt r1 0).i < (0 : Int))) then
 some [(T.int (-1 : Int))]
 else
 l_laws_szValueS_0 H x1 (rt r1 0) (T.int (IntKind.wrap .i64 (x3.i + (1 : Int))))
 else
 none
 else
 some [x2]
theorem q_laws_szValueS_0 (H : List Item → CS → R) (C : CallsE) (x1 : T) (x2 : T) (x3 : T) : headE fi_laws_szValueS env H C (hdAt fi_laws_szValueS.body 0) ([(0, .val 37 x1), (1, .val 3 x2), (5, .val 3 x3)], []) = b_laws_szValueS_0 H C x1 x2 x3 := by kernel_rfl
theorem y_laws_szValueS_0 (x1 : T) (x2 : T) (x3 : T) {r : List T} (h : Yields (fun k => b_laws_szValueS_0 (hl env k fi_laws_szValueS) (cl env k) x1 x2 x3) r) : Yields (fun k => l_laws_szValueS_0 (hl env k fi_laws_szValueS) x1 x2 x3) r := Yields.head (fun H C => q_laws_szValueS_0 H C x1 x2 x3) h
/- loop.example/heirlooms/laws.szIntS -/
noncomputable abbrev b_laws_szIntS (H : List Item → CS → R) (C : CallsE) (a0 a1 : T) : R :=
 bif (decide ((IntKind.wrap .i64 (a1.i - (a0.es.length : Int))) < (0 : Int))) then
 some [(T.int (-1 : Int))]
 else
 some [(T.int (IntKind.wrap .i64 (a1.i - (a0.es.length : Int))))]
theorem q_laws_szIntS (H : List Item → CS → R) (C : CallsE) (a0 a1 : T) : enterE fi_laws_szIntS env H C [a0, a1] = b_laws_szIntS H C a0 a1 := by kernel_rfl
theorem y_laws_szIntS (a0 a1 : T) {r : List T} (h : Yields (fun k => b_laws_szIntS (hl env k fi_laws_szIntS) (cl env k) a0 a1) r) : Yields (fun k => cl env k F_laws_szIntS [a0, a1]) r := Yields.call (fi := fi_laws_szIntS) rfl rfl (fun H C => q_laws_szIntS H C a0 a1) h
noncomputable def l_spec_KindsBad_0 (H : List Item → CS → R) (x1 : T) (x2 : T) : R := H (hdAt fi_spec_KindsBad.body 0) ([(0, .val 27 x1), (4, .val 3 x2)], [])
noncomputable def l_spec_KindsBad_1 (H : List Item → CS → R) (x1 : T) (x2 : T) (x3 : T) : R := H (hdAt fi_spec_KindsBad.body 1) ([(0, .val 27 x1), (4, .val 3 x2), (5, .val 3 x3)], [])
/- loop.example/heirlooms/spec.KindsBad -/
noncomputable abbrev b_spec_KindsBad (H : List Item → CS → R) (C : CallsE) (a0 : T) : R :=
 bif (decide ((a0.es.length : Int) > (3 : Int))) then
 some [(T.int (3 : Int)), (T.int (0 : Int))]
 else
 l_spec_KindsBad_0 H a0 (T.int (0 : Int))
theorem q_spec_KindsBad (H : List Item → CS → R) (C : CallsE) (a0 : T) : enterE fi_spec_KindsBad env H C [a0] = b_spec_KindsBad H C a0 := by kernel_rfl
theorem y_spec_KindsBad (a0 : T) {r : List T} (h : Yields (fun k => b_spec_KindsBad (hl env k fi_spec_KindsBad) (cl env k) a0) r) : Yields (fun k => cl env k F_spec_KindsBad [a0]) r := Yields.call (fi := fi_spec_KindsBad) rfl rfl (fun H C => q_spec_KindsBad H C a0) h
noncomputable abbrev b_spec_KindsBad_0 (H : List Item → CS → R) (C : CallsE) (x1 : T) (x2 : T) : R :=
 bif (decide (x2.i < (x1.es.length : Int))) then
 bif (decide (0 ≤ x2.i) && decide (x2.i.toNat < x1.es.length)) then
 bif (decide ((((x1.nth x2.i.toNat).es).length : Int) > (3 : Int))) then
 some [x2, (T.int (3 : Int))]
 else
 l_spec_KindsBad_1 H x1 x2 (T.int (0 : Int))
 else
 none
 else
 some [(T.int (-1 : Int)), (T.int (-1 : Int))]
theorem q_spec_KindsBad_0 (H : List Item → CS → R) (C : CallsE) (x1 : T) (x2 : T) : headE fi_spec_KindsBad env H C (hdAt fi_spec_KindsBad.body 0) ([(0, .val 27 x1), (4, .val 3 x2)], []) = b_spec_KindsBad_0 H C x1 x2 := by kernel_rfl
theorem y_spec_KindsBad_0 (x1 : T) (x2 : T) {r : List T} (h : Yields (fun k => b_spec_KindsBad_0 (hl env k fi_spec_KindsBad) (cl env k) x1 x2) r) : Yields (fun k => l_spec_KindsBad_0 (hl env k fi_spec_KindsBad) x1 x2) r := Yields.head (fun H C => q_spec_KindsBad_0 H C x1 x2) h
noncomputable abbrev b_spec_KindsBad_1 (H : List Item → CS → R) (C : CallsE) (x1 : T) (x2 : T) (x3 : T) : R :=
 bif (decide (0 ≤ x2.i) && decide (x2.i.toNat < x1.es.length)) then
 bif (decide (x3.i < (((x1.nth x2.i.toNat).es).length : Int))) then
 obind (C F_spec_l1Record [x1, x2, x3]) fun r1 =>
 bif (!(rt r1 0).b) then
 some [x2, x3]
 else
 l_spec_KindsBad_1 H x1 x2 (T.int (IntKind.wrap .i64 (x3.i + (1 : Int))))
 else
 l_spec_KindsBad_0 H x1 (T.int (IntKind.wrap .i64 (x2.i + (1 : Int))))
 else
 none
theorem q_spec_KindsBad_1 (H : List Item → CS → R) (C : CallsE) (x1 : T) (x2 : T) (x3 : T) : headE fi_spec_KindsBad env H C (hdAt fi_spec_KindsBad.body 1) ([(0, .val 27 x1), (4, .val 3 x2), (5, .val 3 x3)], []) = b_spec_KindsBad_1 H C x1 x2 x3 := by kernel_rfl
theorem y_spec_KindsBad_1 (x1 : T) (x2 : T) (x3 : T) {r : List T} (h : Yields (fun k => b_spec_KindsBad_1 (hl env k fi_spec_KindsBad) (cl env k) x1 x2 x3) r) : Yields (fun k => l_spec_KindsBad_1 (hl env k fi_spec_KindsBad) x1 x2 x3) r := Yields.head (fun H C => q_spec_KindsBad_1 H C x1 x2 x3) h
/- loop.example/heirlooms/spec.l6In -/
noncomputable abbrev b_spec_l6In (H : List Item → CS → R) (C : CallsE) (a0 a1 a2 : T) : R :=
 bif (decide (a0.i ≥ a1.i)) then
 some [(T.bool (decide (a0.i ≤ a2.i)))]
 else
 some [(T.bool false)]
theorem e_spec_l6In (H : List Item → CS → R) (C : CallsE) (a0 a1 a2 : T) : enterE fi_spec_l6In env H C [a0, a1, a2] =
 bif ((!((decide (a0.i ≥ a1.i)) == true)) || true) then
 bif ((!((decide (a0.i ≥ a1.i)) == true)) || true) then
 bif ((!((decide (a0.i ≥ a1.i)) == true)) || ((((decide (a0.i ≥ a1.i)) == true) && ((decide (a0.i ≥ a1.i)) == true)) && true)) then
 bif (bif (decide (a0.i ≥ a1.i)) then ((decide (a0.i ≥ a1.i)) == true) else true) then
 some [(bif (decide (a0.i ≥ a1.i)) then (T.bool (decide (a0.i ≤ a2.i))) else (T.bool false))]
 else
 none
 else
 none
 else
 none
 else
 none := by kernel_rfl
theorem q_spec_l6In (H : List Item → CS → R) (C : CallsE) (a0 a1 a2 : T) : enterE fi_spec_l6In env H C [a0, a1, a2] = b_spec_l6In H C a0 a1 a2 := by
 refine (e_spec_l6In H C a0 a1 a2).trans ?_
 unfold b_spec_l6In
 all_goals cases hc : ((decide (a0.i ≥ a1.i))) with
 | true =>
  try simp only [bs]
  all_goals kernel_rfl
 | false =>
  try simp only [bs]
  all_goals kernel_rfl
theorem y_spec_l6In (a0 a1 a2 : T) {r : List T} (h : Yields (fun k => b_spec_l6In (hl env k fi_spec_l6In) (cl env k) a0 a1 a2) r) : Yields (fun k => cl env k F_spec_l6In [a0, a1, a2]) r := Yields.call (fi := fi_spec_l6In) rfl rfl (fun H C => q_spec_l6In H C a0 a1 a2) h
/- loop.example/heirlooms/spec.l9Kind -/
noncomputable abbrev b_spec_l9Kind (H : List Item → CS → R) (C : CallsE) (a0 a1 : T) : R :=
 obind (C F_spec_l1Kind [(a1.fld 0)]) fun r1 =>
 bif (rt r1 2).b then
 obind (C F_spec_l2Ok [a0, a1]) fun r2 =>
 bif (rt r2 0).b then
 obind (C F_spec_l1Able [a0, (a1.fld 0)]) fun r3 =>
 obind (C F_spec_l1Can [(rt r3 0), (T.int (8 : Int))]) fun r4 =>
 some [(rt r4 0)]
 else
 some [(T.bool false)]
 else
 some [(T.bool false)]
theorem e_spec_l9Kind (H : List Item → CS → R) (C : CallsE) (a0 a1 : T) : enterE fi_spec_l9Kind env H C [a0, a1] =
 obind (C F_spec_l1Kind [(a1.fld 0)]) fun r1 =>
 bif ((!((rt r1 2).b == true)) || true) then
 bif ((!((rt r1 2).b == true)) || true) then
 bif ((!((rt r1 2).b == true)) || (((rt r1 2).b == true) && (((rt r1 2).b == true) && true))) then
 obind ((bif ((rt r1 2).b == true) then C F_spec_l2Ok [a0, a1] else some [])) fun r2 =>
 bif (bif (rt r1 2).b then ((rt r1 2).b == true) else true) then
 bif ((!((bif (rt r1 2).b then (rt r2 0) else (T.bool false)).b == true)) || true) then
 bif ((!((bif (rt r1 2).b then (rt r2 0) else (T.bool false)).b == true)) || true) then
 bif ((!((bif (rt r1 2).b then (rt r2 0) else (T.bool false)).b == true)) || ((bif (rt r1 2).b then (rt r2 0) else (T.bool false)).b == true)) then
 bif ((!((bif (rt r1 2).b then (rt r2 0) else (T.bool false)).b == true)) || (((bif (rt r1 2).b then (rt r2 0) else (T.bool false)).b == true) && (((bif (rt r1 2).b then (rt r2 0) else (T.bool false)).b == true) && true))) then
 obind ((bif ((bif (rt r1 2).b then (rt r2 0) else (T.bool false)).b == true) then C F_spec_l1Able [a0, (a1.fld 0)] else some [])) fun r3 =>
 bif ((!((bif (rt r1 2).b then (rt r2 0) else (T.bool false)).b == true)) || (((bif (rt r1 2).b then (rt r2 0) else (T.bool false)).b == true) && true)) then
 obind ((bif ((bif (rt r1 2).b then (rt r2 0) else (T.bool false)).b == true) then C F_spec_l1Can [(rt r3 0), (T.int (8 : Int))] else some [])) fun r4 =>
 bif (bif (bif (rt r1 2).b then (rt r2 0) else (T.bool false)).b then ((bif (rt r1 2).b then (rt r2 0) else (T.bool false)).b == true) else true) then
 some [(bif (bif (rt r1 2).b then (rt r2 0) else (T.bool false)).b then (rt r4 0) else (T.bool false))]
 else
 none
 else
 none
 else
 none
 else
 none
 else
 none
 else
 none
 else
 none
 else
 none
 else
 none
 else
 none := by kernel_rfl
theorem q_spec_l9Kind (H : List Item → CS → R) (C : CallsE) (a0 a1 : T) : enterE fi_spec_l9Kind env H C [a0, a1] = b_spec_l9Kind H C a0 a1 := by
 refine (e_spec_l9Kind H C a0 a1).trans ?_
 unfold b_spec_l9Kind
 all_goals refine obind_congr fun r1 => ?_
 all_goals try simp only [bs]
 all_goals cases hc : ((rt r1 2).b) with
 | true =>
  try simp only [bs]
  all_goals refine obind_congr fun r2 => ?_
  all_goals try simp only [bs]
  all_goals cases hc : ((rt r2 0).b) with
  | true =>
   try simp only [bs]
   all_goals refine obind_congr fun r3 => ?_
   all_goals try simp only [bs]
   all_goals refine obind_congr fun r4 => ?_
   all_goals try simp only [bs]
   all_goals kernel_rfl
  | false =>
   try simp only [bs]
   all_goals kernel_rfl
 | false =>
  try simp only [bs]
  all_goals kernel_rfl
theorem y_spec_l9Kind (a0 a1 : T) {r : List T} (h : Yields (fun k => b_spec_l9Kind (hl env k fi_spec_l9Kind) (cl env k) a0 a1) r) : Yields (fun k => cl env k F_spec_l9Kind [a0, a1]) r := Yields.call (fi := fi_spec_l9Kind) rfl rfl (fun H C => q_spec_l9Kind H C a0 a1) h
noncomputable def l_laws_toStringS_0 (H : List Item → CS → R) (x1 : T) (x2 : T) (x3 : T) : R := H (hdAt fi_laws_toStringS.body 0) ([(0, .val 57 x1), (3, .sref 57 3 []), (4, .val 3 x2)], [(3, ⟨57, x3, .dp, false⟩)])
/- loop.example/heirlooms/laws.toStringS -/
noncomputable abbrev b_laws_toStringS (H : List Item → CS → R) (C : CallsE) (a0 : T) : R :=
 bif (decide (0 ≤ (a0.es.length : Int)) && (decide ((a0.es.length : Int) ≤ (a0.es.length : Int)) && decide (a0.es.length ≤ LIM))) then
 l_laws_toStringS_0 H a0 (T.int (0 : Int)) (T.sl (List.replicate a0.es.length (T.str (⟨#[]⟩ : ByteArray))))
 else
 none
theorem q_laws_toStringS (H : List Item → CS → R) (C : CallsE) (a0 : T) : enterE fi_laws_toStringS env H C [a0] = b_laws_toStringS H C a0 := by kernel_rfl
theorem y_laws_toStringS (a0 : T) {r : List T} (h : Yields (fun k => b_laws_toStringS (hl env k fi_laws_toStringS) (cl env k) a0) r) : Yields (fun k => cl env k F_laws_toStringS [a0]) r := Yields.call (fi := fi_laws_toStringS) rfl rfl (fun H C => q_laws_toStringS H C a0) h
noncomputable abbrev b_laws_toStringS_0 (H : List Item → CS → R) (C : CallsE) (x1 : T) (x2 : T) (x3 : T) : R :=
 bif (decide (x2.i < (x1.es.length : Int))) then
 bif (decide (0 ≤ x2.i) && decide (x2.i.toNat < x1.es.length)) then
 bif (decide (0 ≤ x2.i) && decide (x2.i.toNat < x3.es.length)) then
 l_laws_toStringS_0 H x1 (T.int (IntKind.wrap .i64 (x2.i + (1 : Int)))) (T.sl (x3.es.set x2.i.toNat (x1.nth x2.i.toNat)))
 else
 none
 else
 none
 else
 some [x3]
theorem q_laws_toStringS_0 (H : List Item → CS → R) (C : CallsE) (x1 : T) (x2 : T) (x3 : T) : headE fi_laws_toStringS env H C (hdAt fi_laws_toStringS.body 0) ([(0, .val 57 x1), (3, .sref 57 3 []), (4, .val 3 x2)], [(3, ⟨57, x3, .dp, false⟩)]) = b_laws_toStringS_0 H C x1 x2 x3 := by kernel_rfl
theorem y_laws_toStringS_0 (x1 : T) (x2 : T) (x3 : T) {r : List T} (h : Yields (fun k => b_laws_toStringS_0 (hl env k fi_laws_toStringS) (cl env k) x1 x2 x3) r) : Yields (fun k => l_laws_toStringS_0 (hl env k fi_laws_toStringS) x1 x2 x3) r := Yields.head (fun H C => q_laws_toStringS_0 H C x1 x2 x3) h
noncomputable def l_laws_toValueS_0 (H : List Item → CS → R) (x1 : T) (x2 : T) (x3 : T) : R := H (hdAt fi_laws_toValueS.body 0) ([(0, .val 37 x1), (3, .sref 45 3 []), (4, .val 3 x2)], [(3, ⟨45, x3, .dp, false⟩)])
/- loop.example/heirlooms/laws.toValueS -/
noncomputable abbrev b_laws_toValueS (H : List Item → CS → R) (C : CallsE) (a0 : T) : R :=
 bif (decide (0 ≤ (a0.es.length : Int)) && (decide ((a0.es.length : Int) ≤ (a0.es.length : Int)) && decide (a0.es.length ≤ LIM))) then
 l_laws_toValueS_0 H a0 (T.int (0 : Int)) (T.sl (List.replicate a0.es.length (T.st [(T.str (⟨#[]⟩ : ByteArray)), (T.int (0 : Int)), (T.sl []), (T.sl [])])))
 else
 none
theorem q_laws_toValueS (H : List Item → CS → R) (C : CallsE) (a0 : T) : enterE fi_laws_toValueS env H C [a0] = b_laws_toValueS H C a0 := by kernel_rfl
theorem y_laws_toValueS (a0 : T) {r : List T} (h : Yields (fun k => b_laws_toValueS (hl env k fi_laws_toValueS) (cl env k) a0) r) : Yields (fun k => cl env k F_laws_toValueS [a0]) r := Yields.call (fi := fi_laws_toValueS) rfl rfl (fun H C => q_laws_toValueS H C a0) h
noncomputable abbrev b_laws_toValueS_0 (H : List Item → CS → R) (C : CallsE) (x1 : T) (x2 : T) (x3 : T) : R :=
 bif (decide (x2.i < (x1.es.length : Int))) then
 bif (decide (0 ≤ x2.i) && decide (x2.i.toNat < x1.es.length)) then
 obind (C F_laws_toValue [(x1.nth x2.i.toNat)]) fun r1 =>
 bif (decide (0 ≤ x2.i) && decide (x2.i.toNat < x3.es.length)) then
 l_laws_toValueS_0 H x1 (T.int (IntKind.wrap .i64 (x2.i + (1 : Int)))) (T.sl (x3.es.set x2.i.toNat (T.st [((rt r1 0).fld 0), ((rt r1 0).fld 1), ((rt r1 0).fld 2), ((rt r1 0).fld 3)])))
 else
 none
 else
 none
 else
 some [x3]
theorem q_laws_toValueS_0 (H : List Item → CS → R) (C : CallsE) (x1 : T) (x2 : T) (x3 : T) : headE fi_laws_toValueS env H C (hdAt fi_laws_toValueS.body 0) ([(0, .val 37 x1), (3, .sref 45 3 []), (4, .val 3 x2)], [(3, ⟨45, x3, .dp, false⟩)]) = b_laws_toValueS_0 H C x1 x2 x3 := by kernel_rfl
theorem y_laws_toValueS_0 (x1 : T) (x2 : T) (x3 : T) {r : List T} (h : Yields (fun k => b_laws_toValueS_0 (hl env k fi_laws_toValueS) (cl env k) x1 x2 x3) r) : Yields (fun k => l_laws_toValueS_0 (hl env k fi_laws_toValueS) x1 x2 x3) r := Yields.head (fun H C => q_laws_toValueS_0 H C x1 x2 x3) h
noncomputable def l_laws_toIntS_0 (H : List Item → CS → R) (x1 : T) (x2 : T) (x3 : T) : R := H (hdAt fi_laws_toIntS.body 0) ([(0, .val 38 x1), (3, .sref 38 3 []), (4, .val 3 x2)], [(3, ⟨38, x3, .dp, false⟩)])
/- loop.example/heirlooms/laws.toIntS -/
noncomputable abbrev b_laws_toIntS (H : List Item → CS → R) (C : CallsE) (a0 : T) : R :=
 bif (decide (0 ≤ (a0.es.length : Int)) && (decide ((a0.es.length : Int) ≤ (a0.es.length : Int)) && decide (a0.es.length ≤ LIM))) then
 l_laws_toIntS_0 H a0 (T.int (0 : Int)) (T.sl (List.replicate a0.es.length (T.int (0 : Int))))
 else
 none
theorem q_laws_toIntS (H : List Item → CS → R) (C : CallsE) (a0 : T) : enterE fi_laws_toIntS env H C [a0] = b_laws_toIntS H C a0 := by kernel_rfl
theorem y_laws_toIntS (a0 : T) {r : List T} (h : Yields (fun k => b_laws_toIntS (hl env k fi_laws_toIntS) (cl env k) a0) r) : Yields (fun k => cl env k F_laws_toIntS [a0]) r := Yields.call (fi := fi_laws_toIntS) rfl rfl (fun H C => q_laws_toIntS H C a0) h
noncomputable abbrev b_laws_toIntS_0 (H : List Item → CS → R) (C : CallsE) (x1 : T) (x2 : T) (x3 : T) : R :=
 bif (decide (x2.i < (x1.es.length : Int))) then
 bif (decide (0 ≤ x2.i) && decide (x2.i.toNat < x1.es.length)) then
 bif (decide (0 ≤ x2.i) && decide (x2.i.toNat < x3.es.length)) then
 l_laws_toIntS_0 H x1 (T.int (IntKind.wrap .i64 (x2.i + (1 : Int)))) (T.sl (x3.es.set x2.i.toNat (x1.nth x2.i.toNat)))
 else
 none
 else
 none
 else
 some [x3]
theorem q_laws_toIntS_0 (H : List Item → CS → R) (C : CallsE) (x1 : T) (x2 : T) (x3 : T) : headE fi_laws_toIntS env H C (hdAt fi_laws_toIntS.body 0) ([(0, .val 38 x1), (3, .sref 38 3 []), (4, .val 3 x2)], [(3, ⟨38, x3, .dp, false⟩)]) = b_laws_toIntS_0 H C x1 x2 x3 := by kernel_rfl
theorem y_laws_toIntS_0 (x1 : T) (x2 : T) (x3 : T) {r : List T} (h : Yields (fun k => b_laws_toIntS_0 (hl env k fi_laws_toIntS) (cl env k) x1 x2 x3) r) : Yields (fun k => l_laws_toIntS_0 (hl env k fi_laws_toIntS) x1 x2 x3) r := Yields.head (fun H C => q_laws_toIntS_0 H C x1 x2 x3) h
noncomputable def l_impl_KindsBad_0 (H : List Item → CS → R) (x1 : T) (x2 : T) (x3 : T) (x4 : T) : R := H (hdAt fi_impl_KindsBad.body 0) ([(0, .val 27 x1), (10, .val 27 x2), (11, .val 3 x3), (12, .val 3 x4)], [])
noncomputable def l_impl_KindsBad_1 (H : List Item → CS → R) (x1 : T) (x2 : T) (x3 : T) (x4 : T) (x5 : T) (x6 : T) (x7 : T) : R := H (hdAt fi_impl_KindsBad.body 1) ([(0, .val 27 x1), (4, .val 3 x2), (10, .val 27 x3), (11, .val 3 x4), (12, .val 3 x5), (22, .val 3 x6), (23, .val 3 x7)], [])
/- loop.example/heirlooms/impl.KindsBad -/
noncomputable abbrev b_impl_KindsBad (H : List Item → CS → R) (C : CallsE) (a0 : T) : R :=
 bif (decide ((a0.es.length : Int) > (3 : Int))) then
 some [(T.int (3 : Int)), (T.int (0 : Int))]
 else
 l_impl_KindsBad_0 H a0 a0 (T.int (a0.es.length : Int)) (T.int (0 : Int))
theorem q_impl_KindsBad (H : List Item → CS → R) (C : CallsE) (a0 : T) : enterE fi_impl_KindsBad env H C [a0] = b_impl_KindsBad H C a0 := by kernel_rfl
theorem y_impl_KindsBad (a0 : T) {r : List T} (h : Yields (fun k => b_impl_KindsBad (hl env k fi_impl_KindsBad) (cl env k) a0) r) : Yields (fun k => cl env k F_impl_KindsBad [a0]) r := Yields.call (fi := fi_impl_KindsBad) rfl rfl (fun H C => q_impl_KindsBad H C a0) h
noncomputable abbrev b_impl_KindsBad_0 (H : List Item → CS → R) (C : CallsE) (x1 : T) (x2 : T) (x3 : T) (x4 : T) : R :=
 bif (decide (x4.i < x3.i)) then
 bif (decide (0 ≤ x4.i) && decide (x4.i.toNat < x2.es.length)) then
 bif (decide ((((x2.nth x4.i.toNat).es).length : Int) > (3 : Int))) then
 some [x4, (T.int (3 : Int))]
 else
 l_impl_KindsBad_1 H x1 x4 x2 x3 x4 (T.int (((x2.nth x4.i.toNat).es).length : Int)) (T.int (0 : Int))
 else
 none
 else
 some [(T.int (-1 : Int)), (T.int (-1 : Int))]
theorem q_impl_KindsBad_0 (H : List Item → CS → R) (C : CallsE) (x1 : T) (x2 : T) (x3 : T) (x4 : T) : headE fi_impl_KindsBad env H C (hdAt fi_impl_KindsBad.body 0) ([(0, .val 27 x1), (10, .val 27 x2), (11, .val 3 x3), (12, .val 3 x4)], []) = b_impl_KindsBad_0 H C x1 x2 x3 x4 := by kernel_rfl
theorem y_impl_KindsBad_0 (x1 : T) (x2 : T) (x3 : T) (x4 : T) {r : List T} (h : Yields (fun k => b_impl_KindsBad_0 (hl env k fi_impl_KindsBad) (cl env k) x1 x2 x3 x4) r) : Yields (fun k => l_impl_KindsBad_0 (hl env k fi_impl_KindsBad) x1 x2 x3 x4) r := Yields.head (fun H C => q_impl_KindsBad_0 H C x1 x2 x3 x4) h
noncomputable abbrev b_impl_KindsBad_1 (H : List Item → CS → R) (C : CallsE) (x1 : T) (x2 : T) (x3 : T) (x4 : T) (x5 : T) (x6 : T) (x7 : T) : R :=
 bif (decide (x7.i < x6.i)) then
 obind (C F_impl_recordOk [x1, x2, x7]) fun r1 =>
 bif (!(rt r1 0).b) then
 some [x2, x7]
 else
 l_impl_KindsBad_1 H x1 x2 x3 x4 x5 x6 (T.int (IntKind.wrap .i64 (x7.i + (1 : Int))))
 else
 l_impl_KindsBad_0 H x1 x3 x4 (T.int (IntKind.wrap .i64 (x5.i + (1 : Int))))
theorem q_impl_KindsBad_1 (H : List Item → CS → R) (C : CallsE) (x1 : T) (x2 : T) (x3 : T) (x4 : T) (x5 : T) (x6 : T) (x7 : T) : headE fi_impl_KindsBad env H C (hdAt fi_impl_KindsBad.body 1) ([(0, .val 27 x1), (4, .val 3 x2), (10, .val 27 x3), (11, .val 3 x4), (12, .val 3 x5), (22, .val 3 x6), (23, .val 3 x7)], []) = b_impl_KindsBad_1 H C x1 x2 x3 x4 x5 x6 x7 := by kernel_rfl
theorem y_impl_KindsBad_1 (x1 : T) (x2 : T) (x3 : T) (x4 : T) (x5 : T) (x6 : T) (x7 : T) {r : List T} (h : Yields (fun k => b_impl_KindsBad_1 (hl env k fi_impl_KindsBad) (cl env k) x1 x2 x3 x4 x5 x6 x7) r) : Yields (fun k => l_impl_KindsBad_1 (hl env k fi_impl_KindsBad) x1 x2 x3 x4 x5 x6 x7) r := Yields.head (fun H C => q_impl_KindsBad_1 H C x1 x2 x3 x4 x5 x6 x7) h
/- loop.example/heirlooms/impl.kindIn -/
noncomputable abbrev b_impl_kindIn (H : List Item → CS → R) (C : CallsE) (a0 a1 : T) : R :=
 obind (C F_impl_kindAt [a1]) fun r1 =>
 bif (rt r1 2).b then
 bif (decide ((rt r1 0).i < (a0.es.length : Int))) then
 bif (decide (0 ≤ (rt r1 0).i) && decide (((rt r1 0).i).toNat < a0.es.length)) then
 some [(T.bool (decide ((rt r1 1).i < (((a0.nth (((rt r1 0).i).toNat)).es).length : Int))))]
 else
 none
 else
 some [(T.bool false)]
 else
 some [(T.bool false)]
theorem e_impl_kindIn (H : List Item → CS → R) (C : CallsE) (a0 a1 : T) : enterE fi_impl_kindIn env H C [a0, a1] =
 obind (C F_impl_kindAt [a1]) fun r1 =>
 bif ((!((rt r1 2).b == true)) || true) then
 bif ((!((rt r1 2).b == true)) || true) then
 bif ((!((rt r1 2).b == true)) || ((rt r1 2).b == true)) then
 bif ((!((rt r1 2).b == true)) || ((((rt r1 2).b == true) && ((rt r1 2).b == true)) && true)) then
 bif (bif (rt r1 2).b then ((rt r1 2).b == true) else true) then
 bif ((!((bif (rt r1 2).b then (T.bool (decide ((rt r1 0).i < (a0.es.length : Int)))) else (T.bool false)).b == true)) || true) then
 bif ((!((bif (rt r1 2).b then (T.bool (decide ((rt r1 0).i < (a0.es.length : Int)))) else (T.bool false)).b == true)) || true) then
 bif ((!((bif (rt r1 2).b then (T.bool (decide ((rt r1 0).i < (a0.es.length : Int)))) else (T.bool false)).b == true)) || true) then
 bif ((!((bif (rt r1 2).b then (T.bool (decide ((rt r1 0).i < (a0.es.length : Int)))) else (T.bool false)).b == true)) || ((((bif (rt r1 2).b then (T.bool (decide ((rt r1 0).i < (a0.es.length : Int)))) else (T.bool false)).b == true) && (((bif (rt r1 2).b then (T.bool (decide ((rt r1 0).i < (a0.es.length : Int)))) else (T.bool false)).b == true) && true)) && (decide (0 ≤ (rt r1 0).i) && decide (((rt r1 0).i).toNat < a0.es.length)))) then
 bif ((!((bif (rt r1 2).b then (T.bool (decide ((rt r1 0).i < (a0.es.length : Int)))) else (T.bool false)).b == true)) || ((bif (rt r1 2).b then (T.bool (decide ((rt r1 0).i < (a0.es.length : Int)))) else (T.bool false)).b == true)) then
 bif ((!((bif (rt r1 2).b then (T.bool (decide ((rt r1 0).i < (a0.es.length : Int)))) else (T.bool false)).b == true)) || ((bif (rt r1 2).b then (T.bool (decide ((rt r1 0).i < (a0.es.length : Int)))) else (T.bool false)).b == true)) then
 bif ((!((bif (rt r1 2).b then (T.bool (decide ((rt r1 0).i < (a0.es.length : Int)))) else (T.bool false)).b == true)) || ((((bif (rt r1 2).b then (T.bool (decide ((rt r1 0).i < (a0.es.length : Int)))) else (T.bool false)).b == true) && ((bif (rt r1 2).b then (T.bool (decide ((rt r1 0).i < (a0.es.length : Int)))) else (T.bool false)).b == true)) && true)) then
 bif (bif (bif (rt r1 2).b then (T.bool (decide ((rt r1 0).i < (a0.es.length : Int)))) else (T.bool false)).b then ((bif (rt r1 2).b then (T.bool (decide ((rt r1 0).i < (a0.es.length : Int)))) else (T.bool false)).b == true) else true) then
 some [(bif (bif (rt r1 2).b then (T.bool (decide ((rt r1 0).i < (a0.es.length : Int)))) else (T.bool false)).b then (T.bool (decide ((rt r1 1).i < (((a0.nth (((rt r1 0).i).toNat)).es).length : Int)))) else (T.bool false))]
 else
 none
 else
 none
 else
 none
 else
 none
 else
 none
 else
 none
 else
 none
 else
 none
 else
 none
 else
 none
 else
 none
 else
 none
 else
 none := by kernel_rfl
theorem q_impl_kindIn (H : List Item → CS → R) (C : CallsE) (a0 a1 : T) : enterE fi_impl_kindIn env H C [a0, a1] = b_impl_kindIn H C a0 a1 := by
 refine (e_impl_kindIn H C a0 a1).trans ?_
 unfold b_impl_kindIn
 all_goals refine obind_congr fun r1 => ?_
 all_goals try simp only [bs]
 all_goals cases hc : ((rt r1 2).b) with
 | true =>
  try simp only [bs]
  all_goals cases hc : ((decide ((rt r1 0).i < (a0.es.length : Int)))) with
  | true =>
   try simp only [bs]
   all_goals cases hc : ((decide (0 ≤ (rt r1 0).i) && decide (((rt r1 0).i).toNat < a0.es.length))) with
   | true =>
    try simp only [bs]
    all_goals kernel_rfl
   | false =>
    try simp only [bs]
    all_goals kernel_rfl
  | false =>
   try simp only [bs]
   all_goals kernel_rfl
 | false =>
  try simp only [bs]
  all_goals kernel_rfl
theorem y_impl_kindIn (a0 a1 : T) {r : List T} (h : Yields (fun k => b_impl_kindIn (hl env k fi_impl_kindIn) (cl env k) a0 a1) r) : Yields (fun k => cl env k F_impl_kindIn [a0, a1]) r := Yields.call (fi := fi_impl_kindIn) rfl rfl (fun H C => q_impl_kindIn H C a0 a1) h
/- loop.example/heirlooms/impl.recordOf -/
noncomputable abbrev b_impl_recordOf (H : List Item → CS → R) (C : CallsE) (a0 a1 : T) : R :=
 obind (C F_impl_kindAt [a1]) fun r1 =>
 bif (decide (0 ≤ (rt r1 0).i) && decide (((rt r1 0).i).toNat < a0.es.length)) then
 bif (decide (0 ≤ (rt r1 1).i) && decide (((rt r1 1).i).toNat < ((a0.nth (((rt r1 0).i).toNat)).es).length)) then
 some [((a0.nth (((rt r1 0).i).toNat)).nth (((rt r1 1).i).toNat))]
 else
 none
 else
 none
theorem q_impl_recordOf (H : List Item → CS → R) (C : CallsE) (a0 a1 : T) : enterE fi_impl_recordOf env H C [a0, a1] = b_impl_recordOf H C a0 a1 := by kernel_rfl
theorem y_impl_recordOf (a0 a1 : T) {r : List T} (h : Yields (fun k => b_impl_recordOf (hl env k fi_impl_recordOf) (cl env k) a0 a1) r) : Yields (fun k => cl env k F_impl_recordOf [a0, a1]) r := Yields.call (fi := fi_impl_recordOf) rfl rfl (fun H C => q_impl_recordOf H C a0 a1) h
noncomputable def l_impl_valueFits_0 (H : List Item → CS → R) (x1 : T) (x2 : T) (x3 : T) (x4 : T) (x5 : T) : R := H (hdAt fi_impl_valueFits.body 0) ([(0, .val 27 x1), (5, .val 57 x2), (86, .val 45 x3), (87, .val 3 x4), (88, .val 3 x5)], [])
/- loop.example/heirlooms/impl.valueFits -/
noncomputable abbrev b_impl_valueFits (H : List Item → CS → R) (C : CallsE) (a0 a1 : T) : R :=
 bif (decide ((((a1.fld 3).es).length : Int) > (0 : Int))) then
 some [(T.bool false)]
 else
 obind (C F_impl_plainOk [a0, (a1.fld 0)]) fun r1 =>
 bif (!(rt r1 0).b) then
 some [(T.bool false)]
 else
 bif (((a1.fld 0).s).toList == (⟨#[110]⟩ : ByteArray).toList) then
 bif (decide ((a1.fld 1).i ≥ (0 : Int))) then
 bif (decide ((a1.fld 1).i ≤ (1000000 : Int))) then
 some [(T.bool ((((a1.fld 2).es).length : Int) == (0 : Int)))]
 else
 some [(T.bool false)]
 else
 some [(T.bool false)]
 else
 bif (((a1.fld 0).s).toList == (⟨#[98]⟩ : ByteArray).toList) then
 bif ((a1.fld 1).i == (0 : Int)) then
 some [(T.bool ((((a1.fld 2).es).length : Int) == (0 : Int)))]
 else
 bif ((a1.fld 1).i == (1 : Int)) then
 some [(T.bool ((((a1.fld 2).es).length : Int) == (0 : Int)))]
 else
 some [(T.bool false)]
 else
 bif (((a1.fld 0).s).toList == (⟨#[111]⟩ : ByteArray).toList) then
 bif (decide ((a1.fld 1).i ≥ (0 : Int))) then
 bif (decide ((a1.fld 1).i < (4 : Int))) then
 some [(T.bool ((((a1.fld 2).es).length : Int) == (0 : Int)))]
 else
 some [(T.bool false)]
 else
 some [(T.bool false)]
 else
 obind (C F_impl_recordOf [a0, (a1.fld 0)]) fun r2 =>
 bif ((a1.fld 1).i != (0 : Int)) then
 some [(T.bool false)]
 else
 bif ((((a1.fld 2).es).length : Int) != ((((rt r2 0).fld 1).es).length : Int)) then
 some [(T.bool false)]
 else
 l_impl_valueFits_0 H a0 ((rt r2 0).fld 1) (a1.fld 2) (T.int (((a1.fld 2).es).length : Int)) (T.int (0 : Int))
theorem e_impl_valueFits (H : List Item → CS → R) (C : CallsE) (a0 a1 : T) : enterE fi_impl_valueFits env H C [a0, a1] =
 bif ((!((decide ((((a1.fld 3).es).length : Int) > (0 : Int))) == false)) || true) then
 bif ((!((decide ((((a1.fld 3).es).length : Int) > (0 : Int))) == false)) || true) then
 bif ((!((decide ((((a1.fld 3).es).length : Int) > (0 : Int))) == false)) || ((decide ((((a1.fld 3).es).length : Int) > (0 : Int))) == false)) then
 bif ((!((decide ((((a1.fld 3).es).length : Int) > (0 : Int))) == false)) || (((decide ((((a1.fld 3).es).length : Int) > (0 : Int))) == false) && (((decide ((((a1.fld 3).es).length : Int) > (0 : Int))) == false) && true))) then
 obind ((bif ((decide ((((a1.fld 3).es).length : Int) > (0 : Int))) == false) then C F_impl_plainOk [a0, (a1.fld 0)] else some [])) fun r1 =>
 bif ((!((decide ((((a1.fld 3).es).length : Int) > (0 : Int))) == false)) || ((decide ((((a1.fld 3).es).length : Int) > (0 : Int))) == false)) then
 bif (bif (decide ((((a1.fld 3).es).length : Int) > (0 : Int))) then true else ((decide ((((a1.fld 3).es).length : Int) > (0 : Int))) == false)) then
 bif (bif (decide ((((a1.fld 3).es).length : Int) > (0 : Int))) then (T.bool true) else (T.bool (!(rt r1 0).b))).b then
 some [(T.bool false)]
 else
 bif (((a1.fld 0).s).toList == (⟨#[110]⟩ : ByteArray).toList) then
 bif ((!((decide ((a1.fld 1).i ≥ (0 : Int))) == true)) || true) then
 bif ((!((decide ((a1.fld 1).i ≥ (0 : Int))) == true)) || ((decide ((a1.fld 1).i ≥ (0 : Int))) == true)) then
 bif ((!((decide ((a1.fld 1).i ≥ (0 : Int))) == true)) || ((((decide ((a1.fld 1).i ≥ (0 : Int))) == true) && true) && true)) then
 bif (bif (decide ((a1.fld 1).i ≥ (0 : Int))) then ((decide ((a1.fld 1).i ≥ (0 : Int))) == true) else true) then
 bif ((!((bif (decide ((a1.fld 1).i ≥ (0 : Int))) then (T.bool (decide ((a1.fld 1).i ≤ (1000000 : Int)))) else (T.bool false)).b == true)) || true) then
 bif ((!((bif (decide ((a1.fld 1).i ≥ (0 : Int))) then (T.bool (decide ((a1.fld 1).i ≤ (1000000 : Int)))) else (T.bool false)).b == true)) || ((bif (decide ((a1.fld 1).i ≥ (0 : Int))) then (T.bool (decide ((a1.fld 1).i ≤ (1000000 : Int)))) else (T.bool false)).b == true)) then
 bif ((!((bif (decide ((a1.fld 1).i ≥ (0 : Int))) then (T.bool (decide ((a1.fld 1).i ≤ (1000000 : Int)))) else (T.bool false)).b == true)) || ((bif (decide ((a1.fld 1).i ≥ (0 : Int))) then (T.bool (decide ((a1.fld 1).i ≤ (1000000 : Int)))) else (T.bool false)).b == true)) then
 bif ((!((bif (decide ((a1.fld 1).i ≥ (0 : Int))) then (T.bool (decide ((a1.fld 1).i ≤ (1000000 : Int)))) else (T.bool false)).b == true)) || ((((bif (decide ((a1.fld 1).i ≥ (0 : Int))) then (T.bool (decide ((a1.fld 1).i ≤ (1000000 : Int)))) else (T.bool false)).b == true) && true) && true)) then
 bif (bif (bif (decide ((a1.fld 1).i ≥ (0 : Int))) then (T.bool (decide ((a1.fld 1).i ≤ (1000000 : Int)))) else (T.bool false)).b then ((bif (decide ((a1.fld 1).i ≥ (0 : Int))) then (T.bool (decide ((a1.fld 1).i ≤ (1000000 : Int)))) else (T.bool false)).b == true) else true) then
 some [(bif (bif (decide ((a1.fld 1).i ≥ (0 : Int))) then (T.bool (decide ((a1.fld 1).i ≤ (1000000 : Int)))) else (T.bool false)).b then (T.bool ((((a1.fld 2).es).length : Int) == (0 : Int))) else (T.bool false))]
 else
 none
 else
 none
 else
 none
 else
 none
 else
 none
 else
 none
 else
 none
 else
 none
 else
 none
 else
 bif (((a1.fld 0).s).toList == (⟨#[98]⟩ : ByteArray).toList) then
 bif ((!(((a1.fld 1).i == (0 : Int)) == false)) || true) then
 bif ((!(((a1.fld 1).i == (0 : Int)) == false)) || (((a1.fld 1).i == (0 : Int)) == false)) then
 bif ((!(((a1.fld 1).i == (0 : Int)) == false)) || (((((a1.fld 1).i == (0 : Int)) == false) && true) && true)) then
 bif (bif ((a1.fld 1).i == (0 : Int)) then true else (((a1.fld 1).i == (0 : Int)) == false)) then
 bif ((!((bif ((a1.fld 1).i == (0 : Int)) then (T.bool true) else (T.bool ((a1.fld 1).i == (1 : Int)))).b == true)) || true) then
 bif ((!((bif ((a1.fld 1).i == (0 : Int)) then (T.bool true) else (T.bool ((a1.fld 1).i == (1 : Int)))).b == true)) || ((bif ((a1.fld 1).i == (0 : Int)) then (T.bool true) else (T.bool ((a1.fld 1).i == (1 : Int)))).b == true)) then
 bif ((!((bif ((a1.fld 1).i == (0 : Int)) then (T.bool true) else (T.bool ((a1.fld 1).i == (1 : Int)))).b == true)) || ((bif ((a1.fld 1).i == (0 : Int)) then (T.bool true) else (T.bool ((a1.fld 1).i == (1 : Int)))).b == true)) then
 bif ((!((bif ((a1.fld 1).i == (0 : Int)) then (T.bool true) else (T.bool ((a1.fld 1).i == (1 : Int)))).b == true)) || ((((bif ((a1.fld 1).i == (0 : Int)) then (T.bool true) else (T.bool ((a1.fld 1).i == (1 : Int)))).b == true) && true) && true)) then
 bif (bif (bif ((a1.fld 1).i == (0 : Int)) then (T.bool true) else (T.bool ((a1.fld 1).i == (1 : Int)))).b then ((bif ((a1.fld 1).i == (0 : Int)) then (T.bool true) else (T.bool ((a1.fld 1).i == (1 : Int)))).b == true) else true) then
 some [(bif (bif ((a1.fld 1).i == (0 : Int)) then (T.bool true) else (T.bool ((a1.fld 1).i == (1 : Int)))).b then (T.bool ((((a1.fld 2).es).length : Int) == (0 : Int))) else (T.bool false))]
 else
 none
 else
 none
 else
 none
 else
 none
 else
 none
 else
 none
 else
 none
 else
 none
 else
 none
 else
 bif (((a1.fld 0).s).toList == (⟨#[111]⟩ : ByteArray).toList) then
 bif ((!((decide ((a1.fld 1).i ≥ (0 : Int))) == true)) || true) then
 bif ((!((decide ((a1.fld 1).i ≥ (0 : Int))) == true)) || ((decide ((a1.fld 1).i ≥ (0 : Int))) == true)) then
 bif ((!((decide ((a1.fld 1).i ≥ (0 : Int))) == true)) || ((((decide ((a1.fld 1).i ≥ (0 : Int))) == true) && true) && true)) then
 bif (bif (decide ((a1.fld 1).i ≥ (0 : Int))) then ((decide ((a1.fld 1).i ≥ (0 : Int))) == true) else true) then
 bif ((!((bif (decide ((a1.fld 1).i ≥ (0 : Int))) then (T.bool (decide ((a1.fld 1).i < (4 : Int)))) else (T.bool false)).b == true)) || true) then
 bif ((!((bif (decide ((a1.fld 1).i ≥ (0 : Int))) then (T.bool (decide ((a1.fld 1).i < (4 : Int)))) else (T.bool false)).b == true)) || ((bif (decide ((a1.fld 1).i ≥ (0 : Int))) then (T.bool (decide ((a1.fld 1).i < (4 : Int)))) else (T.bool false)).b == true)) then
 bif ((!((bif (decide ((a1.fld 1).i ≥ (0 : Int))) then (T.bool (decide ((a1.fld 1).i < (4 : Int)))) else (T.bool false)).b == true)) || ((bif (decide ((a1.fld 1).i ≥ (0 : Int))) then (T.bool (decide ((a1.fld 1).i < (4 : Int)))) else (T.bool false)).b == true)) then
 bif ((!((bif (decide ((a1.fld 1).i ≥ (0 : Int))) then (T.bool (decide ((a1.fld 1).i < (4 : Int)))) else (T.bool false)).b == true)) || ((((bif (decide ((a1.fld 1).i ≥ (0 : Int))) then (T.bool (decide ((a1.fld 1).i < (4 : Int)))) else (T.bool false)).b == true) && true) && true)) then
 bif (bif (bif (decide ((a1.fld 1).i ≥ (0 : Int))) then (T.bool (decide ((a1.fld 1).i < (4 : Int)))) else (T.bool false)).b then ((bif (decide ((a1.fld 1).i ≥ (0 : Int))) then (T.bool (decide ((a1.fld 1).i < (4 : Int)))) else (T.bool false)).b == true) else true) then
 some [(bif (bif (decide ((a1.fld 1).i ≥ (0 : Int))) then (T.bool (decide ((a1.fld 1).i < (4 : Int)))) else (T.bool false)).b then (T.bool ((((a1.fld 2).es).length : Int) == (0 : Int))) else (T.bool false))]
 else
 none
 else
 none
 else
 none
 else
 none
 else
 none
 else
 none
 else
 none
 else
 none
 else
 none
 else
 obind (C F_impl_recordOf [a0, (a1.fld 0)]) fun r2 =>
 bif ((!(((a1.fld 1).i != (0 : Int)) == false)) || true) then
 bif ((!(((a1.fld 1).i != (0 : Int)) == false)) || (((a1.fld 1).i != (0 : Int)) == false)) then
 bif ((!(((a1.fld 1).i != (0 : Int)) == false)) || (((a1.fld 1).i != (0 : Int)) == false)) then
 bif ((!(((a1.fld 1).i != (0 : Int)) == false)) || true) then
 bif ((!(((a1.fld 1).i != (0 : Int)) == false)) || (((a1.fld 1).i != (0 : Int)) == false)) then
 bif ((!(((a1.fld 1).i != (0 : Int)) == false)) || (((((a1.fld 1).i != (0 : Int)) == false) && (((a1.fld 1).i != (0 : Int)) == false)) && true)) then
 bif (bif ((a1.fld 1).i != (0 : Int)) then true else (((a1.fld 1).i != (0 : Int)) == false)) then
 bif (bif ((a1.fld 1).i != (0 : Int)) then (T.bool true) else (T.bool ((((a1.fld 2).es).length : Int) != ((((rt r2 0).fld 1).es).length : Int)))).b then
 some [(T.bool false)]
 else
 l_impl_valueFits_0 H a0 ((rt r2 0).fld 1) (a1.fld 2) (T.int (((a1.fld 2).es).length : Int)) (T.int (0 : Int))
 else
 none
 else
 none
 else
 none
 else
 none
 else
 none
 else
 none
 else
 none
 else
 none
 else
 none
 else
 none
 else
 none
 else
 none
 else
 none := by kernel_rfl
theorem q_impl_valueFits (H : List Item → CS → R) (C : CallsE) (a0 a1 : T) : enterE fi_impl_valueFits env H C [a0, a1] = b_impl_valueFits H C a0 a1 := by
 refine (e_impl_valueFits H C a0 a1).trans ?_
 unfold b_impl_valueFits
 all_goals cases hc : ((decide ((((a1.fld 3).es).length : Int) > (0 : Int)))) with
 | true =>
  try simp only [bs]
  all_goals kernel_rfl
 | false =>
  try simp only [bs]
  all_goals refine obind_congr fun r1 => ?_
  all_goals try simp only [bs]
  all_goals cases hc : ((!(rt r1 0).b)) with
  | true =>
   try simp only [bs]
   all_goals kernel_rfl
  | false =>
   try simp only [bs]
   all_goals cases hc : ((((a1.fld 0).s).toList == (⟨#[110]⟩ : ByteArray).toList)) with
   | true =>
    try simp only [bs]
    all_goals cases hc : ((decide ((a1.fld 1).i ≥ (0 : Int)))) with
    | true =>
     try simp only [bs]
     all_goals cases hc : ((decide ((a1.fld 1).i ≤ (1000000 : Int)))) with
     | true =>
      try simp only [bs]
      all_goals kernel_rfl
     | false =>
      try simp only [bs]
      all_goals kernel_rfl
    | false =>
     try simp only [bs]
     all_goals kernel_rfl
   | false =>
    try simp only [bs]
    all_goals cases hc : ((((a1.fld 0).s).toList == (⟨#[98]⟩ : ByteArray).toList)) with
    | true =>
     try simp only [bs]
     all_goals cases hc : (((a1.fld 1).i == (0 : Int))) with
     | true =>
      try simp only [bs]
      all_goals kernel_rfl
     | false =>
      try simp only [bs]
      all_goals cases hc : (((a1.fld 1).i == (1 : Int))) with
      | true =>
       try simp only [bs]
       all_goals kernel_rfl
      | false =>
       try simp only [bs]
       all_goals kernel_rfl
    | false =>
     try simp only [bs]
     all_goals cases hc : ((((a1.fld 0).s).toList == (⟨#[111]⟩ : ByteArray).toList)) with
     | true =>
      try simp only [bs]
      all_goals cases hc : ((decide ((a1.fld 1).i ≥ (0 : Int)))) with
      | true =>
       try simp only [bs]
       all_goals cases hc : ((decide ((a1.fld 1).i < (4 : Int)))) with
       | true =>
        try simp only [bs]
        all_goals kernel_rfl
       | false =>
        try simp only [bs]
        all_goals kernel_rfl
      | false =>
       try simp only [bs]
       all_goals kernel_rfl
     | false =>
      try simp only [bs]
      all_goals refine obind_congr fun r2 => ?_
      all_goals try simp only [bs]
      all_goals cases hc : (((a1.fld 1).i != (0 : Int))) with
      | true =>
       try simp only [bs]
       all_goals kernel_rfl
      | false =>
       try simp only [bs]
       all_goals cases hc : (((((a1.fld 2).es).length : Int) != ((((rt r2 0).fld 1).es).length : Int))) with
       | true =>
        try simp only [bs]
        all_goals kernel_rfl
       | false =>
        try simp only [bs]
        all_goals kernel_rfl
theorem y_impl_valueFits (a0 a1 : T) {r : List T} (h : Yields (fun k => b_impl_valueFits (hl env k fi_impl_valueFits) (cl env k) a0 a1) r) : Yields (fun k => cl env k F_impl_valueFits [a0, a1]) r := Yields.call (fi := fi_impl_valueFits) rfl rfl (fun H C => q_impl_valueFits H C a0 a1) h
noncomputable abbrev b_impl_valueFits_0 (H : List Item → CS → R) (C : CallsE) (x1 : T) (x2 : T) (x3 : T) (x4 : T) (x5 : T) : R :=
 bif (decide (x5.i < x4.i)) then
 bif (decide (0 ≤ x5.i) && decide (x5.i.toNat < x3.es.length)) then
 bif (decide (0 ≤ x5.i) && decide (x5.i.toNat < x2.es.length)) then
 bif (!((((x3.nth x5.i.toNat).fld 0).s).toList == ((x2.nth x5.i.toNat).s).toList)) then
 some [(T.bool false)]
 else
 obind (C F_impl_valueFits [x1, (x3.nth x5.i.toNat)]) fun r1 =>
 bif (!(rt r1 0).b) then
 some [(T.bool false)]
 else
 l_impl_valueFits_0 H x1 x2 x3 x4 (T.int (IntKind.wrap .i64 (x5.i + (1 : Int))))
 else
 none
 else
 none
 else
 some [(T.bool true)]
theorem e_impl_valueFits_0 (H : List Item → CS → R) (C : CallsE) (x1 : T) (x2 : T) (x3 : T) (x4 : T) (x5 : T) : headE fi_impl_valueFits env H C (hdAt fi_impl_valueFits.body 0) ([(0, .val 27 x1), (5, .val 57 x2), (86, .val 45 x3), (87, .val 3 x4), (88, .val 3 x5)], []) =
 bif (decide (x5.i < x4.i)) then
 bif (decide (0 ≤ x5.i) && decide (x5.i.toNat < x3.es.length)) then
 bif (decide (0 ≤ x5.i) && decide (x5.i.toNat < x2.es.length)) then
 bif ((!((!((((x3.nth x5.i.toNat).fld 0).s).toList == ((x2.nth x5.i.toNat).s).toList)) == false)) || true) then
 bif ((!((!((((x3.nth x5.i.toNat).fld 0).s).toList == ((x2.nth x5.i.toNat).s).toList)) == false)) || true) then
 bif ((!((!((((x3.nth x5.i.toNat).fld 0).s).toList == ((x2.nth x5.i.toNat).s).toList)) == false)) || (((!((((x3.nth x5.i.toNat).fld 0).s).toList == ((x2.nth x5.i.toNat).s).toList)) == false) && (((!((((x3.nth x5.i.toNat).fld 0).s).toList == ((x2.nth x5.i.toNat).s).toList)) == false) && true))) then
 obind ((bif ((!((((x3.nth x5.i.toNat).fld 0).s).toList == ((x2.nth x5.i.toNat).s).toList)) == false) then C F_impl_valueFits [x1, (x3.nth x5.i.toNat)] else some [])) fun r1 =>
 bif ((!((!((((x3.nth x5.i.toNat).fld 0).s).toList == ((x2.nth x5.i.toNat).s).toList)) == false)) || ((!((((x3.nth x5.i.toNat).fld 0).s).toList == ((x2.nth x5.i.toNat).s).toList)) == false)) then
 bif (bif (!((((x3.nth x5.i.toNat).fld 0).s).toList == ((x2.nth x5.i.toNat).s).toList)) then true else ((!((((x3.nth x5.i.toNat).fld 0).s).toList == ((x2.nth x5.i.toNat).s).toList)) == false)) then
 bif (bif (!((((x3.nth x5.i.toNat).fld 0).s).toList == ((x2.nth x5.i.toNat).s).toList)) then (T.bool true) else (T.bool (!(rt r1 0).b))).b then
 some [(T.bool false)]
 else
 l_impl_valueFits_0 H x1 x2 x3 x4 (T.int (IntKind.wrap .i64 (x5.i + (1 : Int))))
 else
 none
 else
 none
 else
 none
 else
 none
 else
 none
 else
 none
 else
 none
 else
 some [(T.bool true)] := by kernel_rfl
theorem q_impl_valueFits_0 (H : List Item → CS → R) (C : CallsE) (x1 : T) (x2 : T) (x3 : T) (x4 : T) (x5 : T) : headE fi_impl_valueFits env H C (hdAt fi_impl_valueFits.body 0) ([(0, .val 27 x1), (5, .val 57 x2), (86, .val 45 x3), (87, .val 3 x4), (88, .val 3 x5)], []) = b_impl_valueFits_0 H C x1 x2 x3 x4 x5 := by
 refine (e_impl_valueFits_0 H C x1 x2 x3 x4 x5).trans ?_
 unfold b_impl_valueFits_0
 all_goals cases hc : ((decide (x5.i < x4.i))) with
 | true =>
  try simp only [bs]
  all_goals cases hc : ((decide (0 ≤ x5.i) && decide (x5.i.toNat < x3.es.length))) with
  | true =>
   try simp only [bs]
   all_goals cases hc : ((decide (0 ≤ x5.i) && decide (x5.i.toNat < x2.es.length))) with
   | true =>
    try simp only [bs]
    all_goals cases hc : ((!((((x3.nth x5.i.toNat).fld 0).s).toList == ((x2.nth x5.i.toNat).s).toList))) with
    | true =>
     try simp only [bs]
     all_goals kernel_rfl
    | false =>
     try simp only [bs]
     all_goals refine obind_congr fun r1 => ?_
     all_goals try simp only [bs]
     all_goals cases hc : ((!(rt r1 0).b)) with
     | true =>
      try simp only [bs]
      all_goals kernel_rfl
     | false =>
      try simp only [bs]
      all_goals kernel_rfl
   | false =>
    try simp only [bs]
    all_goals kernel_rfl
  | false =>
   try simp only [bs]
   all_goals kernel_rfl
 | false =>
  try simp only [bs]
  all_goals kernel_rfl
theorem y_impl_valueFits_0 (x1 : T) (x2 : T) (x3 : T) (x4 : T) (x5 : T) {r : List T} (h : Yields (fun k => b_impl_valueFits_0 (hl env k fi_impl_valueFits) (cl env k) x1 x2 x3 x4 x5) r) : Yields (fun k => l_impl_valueFits_0 (hl env k fi_impl_valueFits) x1 x2 x3 x4 x5) r := Yields.head (fun H C => q_impl_valueFits_0 H C x1 x2 x3 x4 x5) h
noncomputable def l_laws_eqStringS_0 (H : List Item → CS → R) (x1 : T) (x2 : T) (x3 : T) : R := H (hdAt fi_laws_eqStringS.body 0) ([(0, .val 57 x1), (1, .val 57 x2), (5, .val 3 x3)], [])
/- loop.example/heirlooms/laws.eqStringS -/
noncomputable abbrev b_laws_eqStringS (H : List Item → CS → R) (C : CallsE) (a0 a1 : T) : R :=
 bif ((a0.es.length : Int) != (a1.es.length : Int)) then
 some [(T.bool false)]
 else
 l_laws_eqStringS_0 H a0 a1 (T.int (0 : Int))
theorem q_laws_eqStringS (H : List Item → CS → R) (C : CallsE) (a0 a1 : T) : enterE fi_laws_eqStringS env H C [a0, a1] = b_laws_eqStringS H C a0 a1 := by kernel_rfl
theorem y_laws_eqStringS (a0 a1 : T) {r : List T} (h : Yields (fun k => b_laws_eqStringS (hl env k fi_laws_eqStringS) (cl env k) a0 a1) r) : Yields (fun k => cl env k F_laws_eqStringS [a0, a1]) r := Yields.call (fi := fi_laws_eqStringS) rfl rfl (fun H C => q_laws_eqStringS H C a0 a1) h
noncomputable abbrev b_laws_eqStringS_0 (H : List Item → CS → R) (C : CallsE) (x1 : T) (x2 : T) (x3 : T) : R :=
 bif (decide (x3.i < (x1.es.length : Int))) then
 bif (decide (0 ≤ x3.i) && decide (x3.i.toNat < x1.es.length)) then
 bif (decide (0 ≤ x3.i) && decide (x3.i.toNat < x2.es.length)) then
 bif (!(((x1.nth x3.i.toNat).s).toList == ((x2.nth x3.i.toNat).s).toList)) then
 some [(T.bool false)]
 else
 l_laws_eqStringS_0 H x1 x2 (T.int (IntKind.wrap .i64 (x3.i + (1 : Int))))
 else
 none
 else
 none
 else
 some [(T.bool true)]
theorem q_laws_eqStringS_0 (H : List Item → CS → R) (C : CallsE) (x1 : T) (x2 : T) (x3 : T) : headE fi_laws_eqStringS env H C (hdAt fi_laws_eqStringS.body 0) ([(0, .val 57 x1), (1, .val 57 x2), (5, .val 3 x3)], []) = b_laws_eqStringS_0 H C x1 x2 x3 := by kernel_rfl
theorem y_laws_eqStringS_0 (x1 : T) (x2 : T) (x3 : T) {r : List T} (h : Yields (fun k => b_laws_eqStringS_0 (hl env k fi_laws_eqStringS) (cl env k) x1 x2 x3) r) : Yields (fun k => l_laws_eqStringS_0 (hl env k fi_laws_eqStringS) x1 x2 x3) r := Yields.head (fun H C => q_laws_eqStringS_0 H C x1 x2 x3) h
noncomputable def l_laws_eqValueS_0 (H : List Item → CS → R) (x1 : T) (x2 : T) (x3 : T) : R := H (hdAt fi_laws_eqValueS.body 0) ([(0, .val 45 x1), (1, .val 45 x2), (5, .val 3 x3)], [])
/- loop.example/heirlooms/laws.eqValueS -/
noncomputable abbrev b_laws_eqValueS (H : List Item → CS → R) (C : CallsE) (a0 a1 : T) : R :=
 bif ((a0.es.length : Int) != (a1.es.length : Int)) then
 some [(T.bool false)]
 else
 l_laws_eqValueS_0 H a0 a1 (T.int (0 : Int))
theorem q_laws_eqValueS (H : List Item → CS → R) (C : CallsE) (a0 a1 : T) : enterE fi_laws_eqValueS env H C [a0, a1] = b_laws_eqValueS H C a0 a1 := by kernel_rfl
theorem y_laws_eqValueS (a0 a1 : T) {r : List T} (h : Yields (fun k => b_laws_eqValueS (hl env k fi_laws_eqValueS) (cl env k) a0 a1) r) : Yields (fun k => cl env k F_laws_eqValueS [a0, a1]) r := Yields.call (fi := fi_laws_eqValueS) rfl rfl (fun H C => q_laws_eqValueS H C a0 a1) h
noncomputable abbrev b_laws_eqValueS_0 (H : List Item → CS → R) (C : CallsE) (x1 : T) (x2 : T) (x3 : T) : R :=
 bif (decide (x3.i < (x1.es.length : Int))) then
 bif (decide (0 ≤ x3.i) && decide (x3.i.toNat < x1.es.length)) then
 bif (decide (0 ≤ x3.i) && decide (x3.i.toNat < x2.es.length)) then
 obind (C F_laws_eqValue [(x1.nth x3.i.toNat), (x2.nth x3.i.toNat)]) fun r1 =>
 bif (!(rt r1 0).b) then
 some [(T.bool false)]
 else
 l_laws_eqValueS_0 H x1 x2 (T.int (IntKind.wrap .i64 (x3.i + (1 : Int))))
 else
 none
 else
 none
 else
 some [(T.bool true)]
theorem q_laws_eqValueS_0 (H : List Item → CS → R) (C : CallsE) (x1 : T) (x2 : T) (x3 : T) : headE fi_laws_eqValueS env H C (hdAt fi_laws_eqValueS.body 0) ([(0, .val 45 x1), (1, .val 45 x2), (5, .val 3 x3)], []) = b_laws_eqValueS_0 H C x1 x2 x3 := by kernel_rfl
theorem y_laws_eqValueS_0 (x1 : T) (x2 : T) (x3 : T) {r : List T} (h : Yields (fun k => b_laws_eqValueS_0 (hl env k fi_laws_eqValueS) (cl env k) x1 x2 x3) r) : Yields (fun k => l_laws_eqValueS_0 (hl env k fi_laws_eqValueS) x1 x2 x3) r := Yields.head (fun H C => q_laws_eqValueS_0 H C x1 x2 x3) h
noncomputable def l_laws_eqIntS_0 (H : List Item → CS → R) (x1 : T) (x2 : T) (x3 : T) : R := H (hdAt fi_laws_eqIntS.body 0) ([(0, .val 38 x1), (1, .val 38 x2), (5, .val 3 x3)], [])
/- loop.example/heirlooms/laws.eqIntS -/
noncomputable abbrev b_laws_eqIntS (H : List Item → CS → R) (C : CallsE) (a0 a1 : T) : R :=
 bif ((a0.es.length : Int) != (a1.es.length : Int)) then
 some [(T.bool false)]
 else
 l_laws_eqIntS_0 H a0 a1 (T.int (0 : Int))
theorem q_laws_eqIntS (H : List Item → CS → R) (C : CallsE) (a0 a1 : T) : enterE fi_laws_eqIntS env H C [a0, a1] = b_laws_eqIntS H C a0 a1 := by kernel_rfl
theorem y_laws_eqIntS (a0 a1 : T) {r : List T} (h : Yields (fun k => b_laws_eqIntS (hl env k fi_laws_eqIntS) (cl env k) a0 a1) r) : Yields (fun k => cl env k F_laws_eqIntS [a0, a1]) r := Yields.call (fi := fi_laws_eqIntS) rfl rfl (fun H C => q_laws_eqIntS H C a0 a1) h
noncomputable abbrev b_laws_eqIntS_0 (H : List Item → CS → R) (C : CallsE) (x1 : T) (x2 : T) (x3 : T) : R :=
 bif (decide (x3.i < (x1.es.length : Int))) then
 bif (decide (0 ≤ x3.i) && decide (x3.i.toNat < x1.es.length)) then
 bif (decide (0 ≤ x3.i) && decide (x3.i.toNat < x2.es.length)) then
 bif ((x1.nth x3.i.toNat).i != (x2.nth x3.i.toNat).i) then
 some [(T.bool false)]
 else
 l_laws_eqIntS_0 H x1 x2 (T.int (IntKind.wrap .i64 (x3.i + (1 : Int))))
 else
 none
 else
 none
 else
 some [(T.bool true)]
theorem q_laws_eqIntS_0 (H : List Item → CS → R) (C : CallsE) (x1 : T) (x2 : T) (x3 : T) : headE fi_laws_eqIntS env H C (hdAt fi_laws_eqIntS.body 0) ([(0, .val 38 x1), (1, .val 38 x2), (5, .val 3 x3)], []) = b_laws_eqIntS_0 H C x1 x2 x3 := by kernel_rfl
theorem y_laws_eqIntS_0 (x1 : T) (x2 : T) (x3 : T) {r : List T} (h : Yields (fun k => b_laws_eqIntS_0 (hl env k fi_laws_eqIntS) (cl env k) x1 x2 x3) r) : Yields (fun k => l_laws_eqIntS_0 (hl env k fi_laws_eqIntS) x1 x2 x3) r := Yields.head (fun H C => q_laws_eqIntS_0 H C x1 x2 x3) h
noncomputable def l_spec_l1Record_0 (H : List Item → CS → R) (x1 : T) (x2 : T) (x3 : T) (x4 : T) (x5 : T) : R := H (hdAt fi_spec_l1Record.body 0) ([(0, .val 27 x1), (1, .val 3 x2), (2, .val 3 x3), (7, .pref 63 7 []), (8, .val 3 x4)], [(7, ⟨63, x5, .fz, true⟩)])
/- loop.example/heirlooms/spec.l1Record -/
noncomputable abbrev b_spec_l1Record (H : List Item → CS → R) (C : CallsE) (a0 a1 a2 : T) : R :=
 bif (decide (0 ≤ a1.i) && decide (a1.i.toNat < a0.es.length)) then
 bif (decide (0 ≤ a2.i) && decide (a2.i.toNat < ((a0.nth a1.i.toNat).es).length)) then
 obind (C F_spec_l6In [(((a0.nth a1.i.toNat).nth a2.i.toNat).fld 0), (T.int (0 : Int)), (T.int (15 : Int))]) fun r1 =>
 bif (!(rt r1 0).b) then
 some [(T.bool false)]
 else
 bif (decide ((((((a0.nth a1.i.toNat).nth a2.i.toNat).fld 1).es).length : Int) > (3 : Int))) then
 some [(T.bool false)]
 else
 l_spec_l1Record_0 H a0 a1 a2 (T.int (0 : Int)) ((a0.nth a1.i.toNat).nth a2.i.toNat)
 else
 none
 else
 none
theorem e_spec_l1Record (H : List Item → CS → R) (C : CallsE) (a0 a1 a2 : T) : enterE fi_spec_l1Record env H C [a0, a1, a2] =
 bif (decide (0 ≤ a1.i) && decide (a1.i.toNat < a0.es.length)) then
 bif (decide (0 ≤ a2.i) && decide (a2.i.toNat < ((a0.nth a1.i.toNat).es).length)) then
 obind (C F_spec_l6In [(((a0.nth a1.i.toNat).nth a2.i.toNat).fld 0), (T.int (0 : Int)), (T.int (15 : Int))]) fun r1 =>
 bif ((!((!(rt r1 0).b) == false)) || true) then
 bif ((!((!(rt r1 0).b) == false)) || ((!(rt r1 0).b) == false)) then
 bif ((!((!(rt r1 0).b) == false)) || ((!(rt r1 0).b) == false)) then
 bif ((!((!(rt r1 0).b) == false)) || ((((!(rt r1 0).b) == false) && true) && true)) then
 bif (bif (!(rt r1 0).b) then true else ((!(rt r1 0).b) == false)) then
 bif (bif (!(rt r1 0).b) then (T.bool true) else (T.bool (decide ((((((a0.nth a1.i.toNat).nth a2.i.toNat).fld 1).es).length : Int) > (3 : Int))))).b then
 some [(T.bool false)]
 else
 l_spec_l1Record_0 H a0 a1 a2 (T.int (0 : Int)) ((a0.nth a1.i.toNat).nth a2.i.toNat)
 else
 none
 else
 none
 else
 none
 else
 none
 else
 none
 else
 none
 else
 none := by kernel_rfl
theorem q_spec_l1Record (H : List Item → CS → R) (C : CallsE) (a0 a1 a2 : T) : enterE fi_spec_l1Record env H C [a0, a1, a2] = b_spec_l1Record H C a0 a1 a2 := by
 refine (e_spec_l1Record H C a0 a1 a2).trans ?_
 unfold b_spec_l1Record
 all_goals cases hc : ((decide (0 ≤ a1.i) && decide (a1.i.toNat < a0.es.length))) with
 | true =>
  try simp only [bs]
  all_goals cases hc : ((decide (0 ≤ a2.i) && decide (a2.i.toNat < ((a0.nth a1.i.toNat).es).length))) with
  | true =>
   try simp only [bs]
   all_goals refine obind_congr fun r1 => ?_
   all_goals try simp only [bs]
   all_goals cases hc : ((!(rt r1 0).b)) with
   | true =>
    try simp only [bs]
    all_goals kernel_rfl
   | false =>
    try simp only [bs]
    all_goals cases hc : ((decide ((((((a0.nth a1.i.toNat).nth a2.i.toNat).fld 1).es).length : Int) > (3 : Int)))) with
    | true =>
     try simp only [bs]
     all_goals kernel_rfl
    | false =>
     try simp only [bs]
     all_goals kernel_rfl
  | false =>
   try simp only [bs]
   all_goals kernel_rfl
 | false =>
  try simp only [bs]
  all_goals kernel_rfl
theorem y_spec_l1Record (a0 a1 a2 : T) {r : List T} (h : Yields (fun k => b_spec_l1Record (hl env k fi_spec_l1Record) (cl env k) a0 a1 a2) r) : Yields (fun k => cl env k F_spec_l1Record [a0, a1, a2]) r := Yields.call (fi := fi_spec_l1Record) rfl rfl (fun H C => q_spec_l1Record H C a0 a1 a2) h
noncomputable abbrev b_spec_l1Record_0 (H : List Item → CS → R) (C : CallsE) (x1 : T) (x2 : T) (x3 : T) (x4 : T) (x5 : T) : R :=
 bif (decide (x4.i < (((x5.fld 1).es).length : Int))) then
 bif (decide (0 ≤ x4.i) && decide (x4.i.toNat < ((x5.fld 1).es).length)) then
 obind (C F_spec_l1Field [x1, x2, x3, ((x5.fld 1).nth x4.i.toNat)]) fun r1 =>
 bif (!(rt r1 0).b) then
 some [(T.bool false)]
 else
 obind (C F_spec_l1Able [x1, ((x5.fld 1).nth x4.i.toNat)]) fun r2 =>
 obind (C F_spec_l1Can [(x5.fld 0), (T.int (1 : Int))]) fun r3 =>
 bif (rt r3 0).b then
 obind (C F_spec_l1Can [(rt r2 0), (T.int (1 : Int))]) fun r4 =>
 bif (!(rt r4 0).b) then
 some [(T.bool false)]
 else
 obind (C F_spec_l1Can [(x5.fld 0), (T.int (2 : Int))]) fun r5 =>
 bif (rt r5 0).b then
 obind (C F_spec_l1Can [(rt r2 0), (T.int (2 : Int))]) fun r6 =>
 bif (!(rt r6 0).b) then
 some [(T.bool false)]
 else
 bif (decide ((x5.fld 0).i ≥ (4 : Int))) then
 obind (C F_spec_l1Can [(rt r2 0), (T.int (4 : Int))]) fun r7 =>
 bif (!(rt r7 0).b) then
 some [(T.bool false)]
 else
 l_spec_l1Record_0 H x1 x2 x3 (T.int (IntKind.wrap .i64 (x4.i + (1 : Int)))) x5
 else
 l_spec_l1Record_0 H x1 x2 x3 (T.int (IntKind.wrap .i64 (x4.i + (1 : Int)))) x5
 else
 bif (decide ((x5.fld 0).i ≥ (4 : Int))) then
 obind (C F_spec_l1Can [(rt r2 0), (T.int (4 : Int))]) fun r6 =>
 bif (!(rt r6 0).b) then
 some [(T.bool false)]
 else
 l_spec_l1Record_0 H x1 x2 x3 (T.int (IntKind.wrap .i64 (x4.i + (1 : Int)))) x5
 else
 l_spec_l1Record_0 H x1 x2 x3 (T.int (IntKind.wrap .i64 (x4.i + (1 : Int)))) x5
 else
 obind (C F_spec_l1Can [(x5.fld 0), (T.int (2 : Int))]) fun r4 =>
 bif (rt r4 0).b then
 obind (C F_spec_l1Can [(rt r2 0), (T.int (2 : Int))]) fun r5 =>
 bif (!(rt r5 0).b) then
 some [(T.bool false)]
 else
 bif (decide ((x5.fld 0).i ≥ (4 : Int))) then
 obind (C F_spec_l1Can [(rt r2 0), (T.int (4 : Int))]) fun r6 =>
 bif (!(rt r6 0).b) then
 some [(T.bool false)]
 else
 l_spec_l1Record_0 H x1 x2 x3 (T.int (IntKind.wrap .i64 (x4.i + (1 : Int)))) x5
 else
 l_spec_l1Record_0 H x1 x2 x3 (T.int (IntKind.wrap .i64 (x4.i + (1 : Int)))) x5
 else
 bif (decide ((x5.fld 0).i ≥ (4 : Int))) then
 obind (C F_spec_l1Can [(rt r2 0), (T.int (4 : Int))]) fun r5 =>
 bif (!(rt r5 0).b) then
 some [(T.bool false)]
 else
 l_spec_l1Record_0 H x1 x2 x3 (T.int (IntKind.wrap .i64 (x4.i + (1 : Int)))) x5
 else
 l_spec_l1Record_0 H x1 x2 x3 (T.int (IntKind.wrap .i64 (x4.i + (1 : Int)))) x5
 else
 none
 else
 some [(T.bool true)]
theorem e_spec_l1Record_0 (H : List Item → CS → R) (C : CallsE) (x1 : T) (x2 : T) (x3 : T) (x4 : T) (x5 : T) : headE fi_spec_l1Record env H C (hdAt fi_spec_l1Record.body 0) ([(0, .val 27 x1), (1, .val 3 x2), (2, .val 3 x3), (7, .pref 63 7 []), (8, .val 3 x4)], [(7, ⟨63, x5, .fz, true⟩)]) =
 bif (decide (x4.i < (((x5.fld 1).es).length : Int))) then
 bif (decide (0 ≤ x4.i) && decide (x4.i.toNat < ((x5.fld 1).es).length)) then
 obind (C F_spec_l1Field [x1, x2, x3, ((x5.fld 1).nth x4.i.toNat)]) fun r1 =>
 bif (!(rt r1 0).b) then
 some [(T.bool false)]
 else
 bif (decide (0 ≤ x4.i) && decide (x4.i.toNat < ((x5.fld 1).es).length)) then
 obind (C F_spec_l1Able [x1, ((x5.fld 1).nth x4.i.toNat)]) fun r2 =>
 obind (C F_spec_l1Can [(x5.fld 0), (T.int (1 : Int))]) fun r3 =>
 bif ((!((rt r3 0).b == true)) || true) then
 bif ((!((rt r3 0).b == true)) || (((rt r3 0).b == true) && true)) then
 obind ((bif ((rt r3 0).b == true) then C F_spec_l1Can [(rt r2 0), (T.int (1 : Int))] else some [])) fun r4 =>
 bif ((!((rt r3 0).b == true)) || ((rt r3 0).b == true)) then
 bif (bif (rt r3 0).b then ((rt r3 0).b == true) else true) then
 bif ((!((bif (rt r3 0).b then (T.bool (!(rt r4 0).b)) else (T.bool false)).b == false)) || true) then
 bif ((!((bif (rt r3 0).b then (T.bool (!(rt r4 0).b)) else (T.bool false)).b == false)) || ((bif (rt r3 0).b then (T.bool (!(rt r4 0).b)) else (T.bool false)).b == false)) then
 bif ((!((bif (rt r3 0).b then (T.bool (!(rt r4 0).b)) else (T.bool false)).b == false)) || (((bif (rt r3 0).b then (T.bool (!(rt r4 0).b)) else (T.bool false)).b == false) && true)) then
 obind ((bif ((bif (rt r3 0).b then (T.bool (!(rt r4 0).b)) else (T.bool false)).b == false) then C F_spec_l1Can [(x5.fld 0), (T.int (2 : Int))] else some [])) fun r5 =>
 bif ((!((bif (rt r3 0).b then (T.bool (!(rt r4 0).b)) else (T.bool false)).b == false)) || ((bif (rt r3 0).b then (T.bool (!(rt r4 0).b)) else (T.bool false)).b == false)) then
 bif ((!(((bif (rt r3 0).b then (T.bool (!(rt r4 0).b)) else (T.bool false)).b == false) && ((rt r5 0).b == true))) || true) then
 bif ((!(((bif (rt r3 0).b then (T.bool (!(rt r4 0).b)) else (T.bool false)).b == false) && ((rt r5 0).b == true))) || ((((bif (rt r3 0).b then (T.bool (!(rt r4 0).b)) else (T.bool false)).b == false) && ((rt r5 0).b == true)) && true)) then
 obind ((bif (((bif (rt r3 0).b then (T.bool (!(rt r4 0).b)) else (T.bool false)).b == false) && ((rt r5 0).b == true)) then C F_spec_l1Can [(rt r2 0), (T.int (2 : Int))] else some [])) fun r6 =>
 bif ((!(((bif (rt r3 0).b then (T.bool (!(rt r4 0).b)) else (T.bool false)).b == false) && ((rt r5 0).b == true))) || (((bif (rt r3 0).b then (T.bool (!(rt r4 0).b)) else (T.bool false)).b == false) && ((rt r5 0).b == true))) then
 bif ((!((bif (rt r3 0).b then (T.bool (!(rt r4 0).b)) else (T.bool false)).b == false)) || (((bif (rt r3 0).b then (T.bool (!(rt r4 0).b)) else (T.bool false)).b == false) && (bif (rt r5 0).b then (((bif (rt r3 0).b then (T.bool (!(rt r4 0).b)) else (T.bool false)).b == false) && ((rt r5 0).b == true)) else true))) then
 bif (bif (bif (rt r3 0).b then (T.bool (!(rt r4 0).b)) else (T.bool false)).b then true else ((bif (rt r3 0).b then (T.bool (!(rt r4 0).b)) else (T.bool false)).b == false)) then
 bif (bif (bif (rt r3 0).b then (T.bool (!(rt r4 0).b)) else (T.bool false)).b then (T.bool true) else (bif (rt r5 0).b then (T.bool (!(rt r6 0).b)) else (T.bool false))).b then
 some [(T.bool false)]
 else
 bif ((!((decide ((x5.fld 0).i ≥ (4 : Int))) == true)) || true) then
 bif ((!((decide ((x5.fld 0).i ≥ (4 : Int))) == true)) || (((decide ((x5.fld 0).i ≥ (4 : Int))) == true) && true)) then
 obind ((bif ((decide ((x5.fld 0).i ≥ (4 : Int))) == true) then C F_spec_l1Can [(rt r2 0), (T.int (4 : Int))] else some [])) fun r7 =>
 bif ((!((decide ((x5.fld 0).i ≥ (4 : Int))) == true)) || ((decide ((x5.fld 0).i ≥ (4 : Int))) == true)) then
 bif (bif (decide ((x5.fld 0).i ≥ (4 : Int))) then ((decide ((x5.fld 0).i ≥ (4 : Int))) == true) else true) then
 bif (bif (decide ((x5.fld 0).i ≥ (4 : Int))) then (T.bool (!(rt r7 0).b)) else (T.bool false)).b then
 some [(T.bool false)]
 else
 l_spec_l1Record_0 H x1 x2 x3 (T.int (IntKind.wrap .i64 (x4.i + (1 : Int)))) x5
 else
 none
 else
 none
 else
 none
 else
 none
 else
 none
 else
 none
 else
 none
 else
 none
 else
 none
 else
 none
 else
 none
 else
 none
 else
 none
 else
 none
 else
 none
 else
 none
 else
 none
 else
 none
 else
 none
 else
 some [(T.bool true)] := by kernel_rfl
theorem q_spec_l1Record_0 (H : List Item → CS → R) (C : CallsE) (x1 : T) (x2 : T) (x3 : T) (x4 : T) (x5 : T) : headE fi_spec_l1Record env H C (hdAt fi_spec_l1Record.body 0) ([(0, .val 27 x1), (1, .val 3 x2), (2, .val 3 x3), (7, .pref 63 7 []), (8, .val 3 x4)], [(7, ⟨63, x5, .fz, true⟩)]) = b_spec_l1Record_0 H C x1 x2 x3 x4 x5 := by
 refine (e_spec_l1Record_0 H C x1 x2 x3 x4 x5).trans ?_
 unfold b_spec_l1Record_0
 all_goals cases hc : ((decide (x4.i < (((x5.fld 1).es).length : Int)))) with
 | true =>
  try simp only [bs]
  all_goals cases hc : ((decide (0 ≤ x4.i) && decide (x4.i.toNat < ((x5.fld 1).es).length))) with
  | true =>
   try simp only [bs]
   all_goals refine obind_congr fun r1 => ?_
   all_goals try simp only [bs]
   all_goals cases hc : ((!(rt r1 0).b)) with
   | true =>
    try simp only [bs]
    all_goals kernel_rfl
   | false =>
    try simp only [bs]
    all_goals refine obind_congr fun r2 => ?_
    all_goals try simp only [bs]
    all_goals refine obind_congr fun r3 => ?_
    all_goals try simp only [bs]
    all_goals cases hc : ((rt r3 0).b) with
    | true =>
     try simp only [bs]
     all_goals refine obind_congr fun r4 => ?_
     all_goals try simp only [bs]
     all_goals cases hc : ((!(rt r4 0).b)) with
     | true =>
      try simp only [bs]
      all_goals cases hc : ((T.int (0 : Int)).b) with
      | true =>
       try simp only [bs]
       all_goals kernel_rfl
      | false =>
       try simp only [bs]
       all_goals kernel_rfl
     | false =>
      try simp only [bs]
      all_goals refine obind_congr fun r5 => ?_
      all_goals try simp only [bs]
      all_goals cases hc : ((rt r5 0).b) with
      | true =>
       try simp only [bs]
       all_goals refine obind_congr fun r6 => ?_
       all_goals try simp only [bs]
       all_goals cases hc : ((!(rt r6 0).b)) with
       | true =>
        try simp only [bs]
        all_goals kernel_rfl
       | false =>
        try simp only [bs]
        all_goals cases hc : ((decide ((x5.fld 0).i ≥ (4 : Int)))) with
        | true =>
         try simp only [bs]
         all_goals refine obind_congr fun r7 => ?_
         all_goals try simp only [bs]
         all_goals cases hc : ((!(rt r7 0).b)) with
         | true =>
          try simp only [bs]
          all_goals kernel_rfl
         | false =>
          try simp only [bs]
          all_goals kernel_rfl
        | false =>
         try simp only [bs]
         all_goals kernel_rfl
      | false =>
       try simp only [bs]
       all_goals cases hc : ((decide ((x5.fld 0).i ≥ (4 : Int)))) with
       | true =>
        try simp only [bs]
        all_goals refine obind_congr fun r6 => ?_
        all_goals try simp only [bs]
        all_goals cases hc : ((!(rt r6 0).b)) with
        | true =>
         try simp only [bs]
         all_goals kernel_rfl
        | false =>
         try simp only [bs]
         all_goals kernel_rfl
       | false =>
        try simp only [bs]
        all_goals kernel_rfl
    | false =>
     try simp only [bs]
     all_goals refine obind_congr fun r4 => ?_
     all_goals try simp only [bs]
     all_goals cases hc : ((rt r4 0).b) with
     | true =>
      try simp only [bs]
      all_goals refine obind_congr fun r5 => ?_
      all_goals try simp only [bs]
      all_goals cases hc : ((!(rt r5 0).b)) with
      | true =>
       try simp only [bs]
       all_goals kernel_rfl
      | false =>
       try simp only [bs]
       all_goals cases hc : ((decide ((x5.fld 0).i ≥ (4 : Int)))) with
       | true =>
        try simp only [bs]
        all_goals refine obind_congr fun r6 => ?_
        all_goals try simp only [bs]
        all_goals cases hc : ((!(rt r6 0).b)) with
        | true =>
         try simp only [bs]
         all_goals kernel_rfl
        | false =>
         try simp only [bs]
         all_goals kernel_rfl
       | false =>
        try simp only [bs]
        all_goals kernel_rfl
     | false =>
      try simp only [bs]
      all_goals cases hc : ((decide ((x5.fld 0).i ≥ (4 : Int)))) with
      | true =>
       try simp only [bs]
       all_goals refine obind_congr fun r5 => ?_
       all_goals try simp only [bs]
       all_goals cases hc : ((!(rt r5 0).b)) with
       | true =>
        try simp only [bs]
        all_goals kernel_rfl
       | false =>
        try simp only [bs]
        all_goals kernel_rfl
      | false =>
       try simp only [bs]
       all_goals kernel_rfl
  | false =>
   try simp only [bs]
   all_goals kernel_rfl
 | false =>
  try simp only [bs]
  all_goals kernel_rfl
theorem y_spec_l1Record_0 (x1 : T) (x2 : T) (x3 : T) (x4 : T) (x5 : T) {r : List T} (h : Yields (fun k => b_spec_l1Record_0 (hl env k fi_spec_l1Record) (cl env k) x1 x2 x3 x4 x5) r) : Yields (fun k => l_spec_l1Record_0 (hl env k fi_spec_l1Record) x1 x2 x3 x4 x5) r := Yields.head (fun H C => q_spec_l1Record_0 H C x1 x2 x3 x4 x5) h
/- loop.example/heirlooms/spec.l1Kind -/
noncomputable abbrev b_spec_l1Kind (H : List Item → CS → R) (C : CallsE) (a0 : T) : R :=
 bif ((a0.s.size : Int) != (3 : Int)) then
 some [(T.int (0 : Int)), (T.int (0 : Int)), (T.bool false)]
 else
 bif (decide (0 ≤ (0 : Int)) && decide (0 < a0.s.size)) then
 bif ((a0.s.data.getD 0 0).toNat != (83 : Int)) then
 some [(T.int (0 : Int)), (T.int (0 : Int)), (T.bool false)]
 else
 bif (decide (0 ≤ (1 : Int)) && decide (1 < a0.s.size)) then
 bif (decide ((a0.s.data.getD 1 0).toNat < (48 : Int))) then
 some [(T.int (0 : Int)), (T.int (0 : Int)), (T.bool false)]
 else
 bif (decide ((a0.s.data.getD 1 0).toNat > (57 : Int))) then
 some [(T.int (0 : Int)), (T.int (0 : Int)), (T.bool false)]
 else
 bif (decide (0 ≤ (2 : Int)) && decide (2 < a0.s.size)) then
 bif (decide ((a0.s.data.getD 2 0).toNat < (48 : Int))) then
 some [(T.int (0 : Int)), (T.int (0 : Int)), (T.bool false)]
 else
 bif (decide ((a0.s.data.getD 2 0).toNat > (57 : Int))) then
 some [(T.int (0 : Int)), (T.int (0 : Int)), (T.bool false)]
 else
 some [(T.int (IntKind.wrap .i64 (IntKind.wrap .u8 ((a0.s.data.getD 1 0).toNat - (48 : Int))))), (T.int (IntKind.wrap .i64 (IntKind.wrap .u8 ((a0.s.data.getD 2 0).toNat - (48 : Int))))), (T.bool true)]
 else
 none
 else
 none
 else
 none
theorem e_spec_l1Kind (H : List Item → CS → R) (C : CallsE) (a0 : T) : enterE fi_spec_l1Kind env H C [a0] =
 bif ((!(((a0.s.size : Int) != (3 : Int)) == false)) || true) then
 bif ((!(((a0.s.size : Int) != (3 : Int)) == false)) || (((((a0.s.size : Int) != (3 : Int)) == false) && true) && (decide (0 ≤ (0 : Int)) && decide (0 < a0.s.size)))) then
 bif ((!(((a0.s.size : Int) != (3 : Int)) == false)) || (((((a0.s.size : Int) != (3 : Int)) == false) && true) && true)) then
 bif (bif ((a0.s.size : Int) != (3 : Int)) then true else (((a0.s.size : Int) != (3 : Int)) == false)) then
 bif ((!((bif ((a0.s.size : Int) != (3 : Int)) then (T.bool true) else (T.bool ((a0.s.data.getD 0 0).toNat != (83 : Int)))).b == false)) || true) then
 bif ((!((bif ((a0.s.size : Int) != (3 : Int)) then (T.bool true) else (T.bool ((a0.s.data.getD 0 0).toNat != (83 : Int)))).b == false)) || ((((bif ((a0.s.size : Int) != (3 : Int)) then (T.bool true) else (T.bool ((a0.s.data.getD 0 0).toNat != (83 : Int)))).b == false) && true) && (decide (0 ≤ (1 : Int)) && decide (1 < a0.s.size)))) then
 bif ((!((bif ((a0.s.size : Int) != (3 : Int)) then (T.bool true) else (T.bool ((a0.s.data.getD 0 0).toNat != (83 : Int)))).b == false)) || ((((bif ((a0.s.size : Int) != (3 : Int)) then (T.bool true) else (T.bool ((a0.s.data.getD 0 0).toNat != (83 : Int)))).b == false) && true) && true)) then
 bif (bif (bif ((a0.s.size : Int) != (3 : Int)) then (T.bool true) else (T.bool ((a0.s.data.getD 0 0).toNat != (83 : Int)))).b then true else ((bif ((a0.s.size : Int) != (3 : Int)) then (T.bool true) else (T.bool ((a0.s.data.getD 0 0).toNat != (83 : Int)))).b == false)) then
 bif ((!((bif (bif ((a0.s.size : Int) != (3 : Int)) then (T.bool true) else (T.bool ((a0.s.data.getD 0 0).toNat != (83 : Int)))).b then (T.bool true) else (T.bool (decide ((a0.s.data.getD 1 0).toNat < (48 : Int))))).b == false)) || true) then
 bif ((!((bif (bif ((a0.s.size : Int) != (3 : Int)) then (T.bool true) else (T.bool ((a0.s.data.getD 0 0).toNat != (83 : Int)))).b then (T.bool true) else (T.bool (decide ((a0.s.data.getD 1 0).toNat < (48 : Int))))).b == false)) || ((((bif (bif ((a0.s.size : Int) != (3 : Int)) then (T.bool true) else (T.bool ((a0.s.data.getD 0 0).toNat != (83 : Int)))).b then (T.bool true) else (T.bool (decide ((a0.s.data.getD 1 0).toNat < (48 : Int))))).b == false) && true) && (decide (0 ≤ (1 : Int)) && decide (1 < a0.s.size)))) then
 bif ((!((bif (bif ((a0.s.size : Int) != (3 : Int)) then (T.bool true) else (T.bool ((a0.s.data.getD 0 0).toNat != (83 : Int)))).b then (T.bool true) else (T.bool (decide ((a0.s.data.getD 1 0).toNat < (48 : Int))))).b == false)) || ((((bif (bif ((a0.s.size : Int) != (3 : Int)) then (T.bool true) else (T.bool ((a0.s.data.getD 0 0).toNat != (83 : Int)))).b then (T.bool true) else (T.bool (decide ((a0.s.data.getD 1 0).toNat < (48 : Int))))).b == false) && true) && true)) then
 bif (bif (bif (bif ((a0.s.size : Int) != (3 : Int)) then (T.bool true) else (T.bool ((a0.s.data.getD 0 0).toNat != (83 : Int)))).b then (T.bool true) else (T.bool (decide ((a0.s.data.getD 1 0).toNat < (48 : Int))))).b then true else ((bif (bif ((a0.s.size : Int) != (3 : Int)) then (T.bool true) else (T.bool ((a0.s.data.getD 0 0).toNat != (83 : Int)))).b then (T.bool true) else (T.bool (decide ((a0.s.data.getD 1 0).toNat < (48 : Int))))).b == false)) then
 bif ((!((bif (bif (bif ((a0.s.size : Int) != (3 : Int)) then (T.bool true) else (T.bool ((a0.s.data.getD 0 0).toNat != (83 : Int)))).b then (T.bool true) else (T.bool (decide ((a0.s.data.getD 1 0).toNat < (48 : Int))))).b then (T.bool true) else (T.bool (decide ((a0.s.data.getD 1 0).toNat > (57 : Int))))).b == false)) || true) then
 bif ((!((bif (bif (bif ((a0.s.size : Int) != (3 : Int)) then (T.bool true) else (T.bool ((a0.s.data.getD 0 0).toNat != (83 : Int)))).b then (T.bool true) else (T.bool (decide ((a0.s.data.getD 1 0).toNat < (48 : Int))))).b then (T.bool true) else (T.bool (decide ((a0.s.data.getD 1 0).toNat > (57 : Int))))).b == false)) || ((((bif (bif (bif ((a0.s.size : Int) != (3 : Int)) then (T.bool true) else (T.bool ((a0.s.data.getD 0 0).toNat != (83 : Int)))).b then (T.bool true) else (T.bool (decide ((a0.s.data.getD 1 0).toNat < (48 : Int))))).b then (T.bool true) else (T.bool (decide ((a0.s.data.getD 1 0).toNat > (57 : Int))))).b == false) && true) && (decide (0 ≤ (2 : Int)) && decide (2 < a0.s.size)))) then
 bif ((!((bif (bif (bif ((a0.s.size : Int) != (3 : Int)) then (T.bool true) else (T.bool ((a0.s.data.getD 0 0).toNat != (83 : Int)))).b then (T.bool true) else (T.bool (decide ((a0.s.data.getD 1 0).toNat < (48 : Int))))).b then (T.bool true) else (T.bool (decide ((a0.s.data.getD 1 0).toNat > (57 : Int))))).b == false)) || ((((bif (bif (bif ((a0.s.size : Int) != (3 : Int)) then (T.bool true) else (T.bool ((a0.s.data.getD 0 0).toNat != (83 : Int)))).b then (T.bool true) else (T.bool (decide ((a0.s.data.getD 1 0).toNat < (48 : Int))))).b then (T.bool true) else (T.bool (decide ((a0.s.data.getD 1 0).toNat > (57 : Int))))).b == false) && true) && true)) then
 bif (bif (bif (bif (bif ((a0.s.size : Int) != (3 : Int)) then (T.bool true) else (T.bool ((a0.s.data.getD 0 0).toNat != (83 : Int)))).b then (T.bool true) else (T.bool (decide ((a0.s.data.getD 1 0).toNat < (48 : Int))))).b then (T.bool true) else (T.bool (decide ((a0.s.data.getD 1 0).toNat > (57 : Int))))).b then true else ((bif (bif (bif ((a0.s.size : Int) != (3 : Int)) then (T.bool true) else (T.bool ((a0.s.data.getD 0 0).toNat != (83 : Int)))).b then (T.bool true) else (T.bool (decide ((a0.s.data.getD 1 0).toNat < (48 : Int))))).b then (T.bool true) else (T.bool (decide ((a0.s.data.getD 1 0).toNat > (57 : Int))))).b == false)) then
 bif ((!((bif (bif (bif (bif ((a0.s.size : Int) != (3 : Int)) then (T.bool true) else (T.bool ((a0.s.data.getD 0 0).toNat != (83 : Int)))).b then (T.bool true) else (T.bool (decide ((a0.s.data.getD 1 0).toNat < (48 : Int))))).b then (T.bool true) else (T.bool (decide ((a0.s.data.getD 1 0).toNat > (57 : Int))))).b then (T.bool true) else (T.bool (decide ((a0.s.data.getD 2 0).toNat < (48 : Int))))).b == false)) || true) then
 bif ((!((bif (bif (bif (bif ((a0.s.size : Int) != (3 : Int)) then (T.bool true) else (T.bool ((a0.s.data.getD 0 0).toNat != (83 : Int)))).b then (T.bool true) else (T.bool (decide ((a0.s.data.getD 1 0).toNat < (48 : Int))))).b then (T.bool true) else (T.bool (decide ((a0.s.data.getD 1 0).toNat > (57 : Int))))).b then (T.bool true) else (T.bool (decide ((a0.s.data.getD 2 0).toNat < (48 : Int))))).b == false)) || ((((bif (bif (bif (bif ((a0.s.size : Int) != (3 : Int)) then (T.bool true) else (T.bool ((a0.s.data.getD 0 0).toNat != (83 : Int)))).b then (T.bool true) else (T.bool (decide ((a0.s.data.getD 1 0).toNat < (48 : Int))))).b then (T.bool true) else (T.bool (decide ((a0.s.data.getD 1 0).toNat > (57 : Int))))).b then (T.bool true) else (T.bool (decide ((a0.s.data.getD 2 0).toNat < (48 : Int))))).b == false) && true) && (decide (0 ≤ (2 : Int)) && decide (2 < a0.s.size)))) then
 bif ((!((bif (bif (bif (bif ((a0.s.size : Int) != (3 : Int)) then (T.bool true) else (T.bool ((a0.s.data.getD 0 0).toNat != (83 : Int)))).b then (T.bool true) else (T.bool (decide ((a0.s.data.getD 1 0).toNat < (48 : Int))))).b then (T.bool true) else (T.bool (decide ((a0.s.data.getD 1 0).toNat > (57 : Int))))).b then (T.bool true) else (T.bool (decide ((a0.s.data.getD 2 0).toNat < (48 : Int))))).b == false)) || ((((bif (bif (bif (bif ((a0.s.size : Int) != (3 : Int)) then (T.bool true) else (T.bool ((a0.s.data.getD 0 0).toNat != (83 : Int)))).b then (T.bool true) else (T.bool (decide ((a0.s.data.getD 1 0).toNat < (48 : Int))))).b then (T.bool true) else (T.bool (decide ((a0.s.data.getD 1 0).toNat > (57 : Int))))).b then (T.bool true) else (T.bool (decide ((a0.s.data.getD 2 0).toNat < (48 : Int))))).b == false) && true) && true)) then
 bif (bif (bif (bif (bif (bif ((a0.s.size : Int) != (3 : Int)) then (T.bool true) else (T.bool ((a0.s.data.getD 0 0).toNat != (83 : Int)))).b then (T.bool true) else (T.bool (decide ((a0.s.data.getD 1 0).toNat < (48 : Int))))).b then (T.bool true) else (T.bool (decide ((a0.s.data.getD 1 0).toNat > (57 : Int))))).b then (T.bool true) else (T.bool (decide ((a0.s.data.getD 2 0).toNat < (48 : Int))))).b then true else ((bif (bif (bif (bif ((a0.s.size : Int) != (3 : Int)) then (T.bool true) else (T.bool ((a0.s.data.getD 0 0).toNat != (83 : Int)))).b then (T.bool true) else (T.bool (decide ((a0.s.data.getD 1 0).toNat < (48 : Int))))).b then (T.bool true) else (T.bool (decide ((a0.s.data.getD 1 0).toNat > (57 : Int))))).b then (T.bool true) else (T.bool (decide ((a0.s.data.getD 2 0).toNat < (48 : Int))))).b == false)) then
 bif (bif (bif (bif (bif (bif ((a0.s.size : Int) != (3 : Int)) then (T.bool true) else (T.bool ((a0.s.data.getD 0 0).toNat != (83 : Int)))).b then (T.bool true) else (T.bool (decide ((a0.s.data.getD 1 0).toNat < (48 : Int))))).b then (T.bool true) else (T.bool (decide ((a0.s.data.getD 1 0).toNat > (57 : Int))))).b then (T.bool true) else (T.bool (decide ((a0.s.data.getD 2 0).toNat < (48 : Int))))).b then (T.bool true) else (T.bool (decide ((a0.s.data.getD 2 0).toNat > (57 : Int))))).b then
 some [(T.int (0 : Int)), (T.int (0 : Int)), (T.bool false)]
 else
 bif (decide (0 ≤ (1 : Int)) && decide (1 < a0.s.size)) then
 bif (decide (0 ≤ (2 : Int)) && decide (2 < a0.s.size)) then
 some [(T.int (IntKind.wrap .i64 (IntKind.wrap .u8 ((a0.s.data.getD 1 0).toNat - (48 : Int))))), (T.int (IntKind.wrap .i64 (IntKind.wrap .u8 ((a0.s.data.getD 2 0).toNat - (48 : Int))))), (T.bool true)]
 else
 none
 else
 none
 else
 none
 else
 none
 else
 none
 else
 none
 else
 none
 else
 none
 else
 none
 else
 none
 else
 none
 else
 none
 else
 none
 else
 none
 else
 none
 else
 none
 else
 none
 else
 none
 else
 none
 else
 none
 else
 none
 else
 none := by kernel_rfl
theorem q_spec_l1Kind (H : List Item → CS → R) (C : CallsE) (a0 : T) : enterE fi_spec_l1Kind env H C [a0] = b_spec_l1Kind H C a0 := by
 refine (e_spec_l1Kind H C a0).trans ?_
 unfold b_spec_l1Kind
 all_goals cases hc : (((a0.s.size : Int) != (3 : Int))) with
 | true =>
  try simp only [bs]
  all_goals kernel_rfl
 | false =>
  try simp only [bs]
  all_goals cases hc : ((decide (0 ≤ (0 : Int)) && decide (0 < a0.s.size))) with
  | true =>
   try simp only [bs]
   all_goals cases hc : (((a0.s.data.getD 0 0).toNat != (83 : Int))) with
   | true =>
    try simp only [bs]
    all_goals kernel_rfl
   | false =>
    try simp only [bs]
    all_goals cases hc : ((decide (0 ≤ (1 : Int)) && decide (1 < a0.s.size))) with
    | true =>
     try simp only [bs]
     all_goals cases hc : ((decide ((a0.s.data.getD 1 0).toNat < (48 : Int)))) with
     | true =>
      try simp only [bs]
      all_goals kernel_rfl
     | false =>
      try simp only [bs]
      all_goals cases hc : ((decide ((a0.s.data.getD 1 0).toNat > (57 : Int)))) with
      | true =>
       try simp only [bs]
       all_goals kernel_rfl
      | false =>
       try simp only [bs]
       all_goals cases hc : ((decide (0 ≤ (2 : Int)) && decide (2 < a0.s.size))) with
       | true =>
        try simp only [bs]
        all_goals cases hc : ((decide ((a0.s.data.getD 2 0).toNat < (48 : Int)))) with
        | true =>
         try simp only [bs]
         all_goals kernel_rfl
        | false =>
         try simp only [bs]
         all_goals cases hc : ((decide ((a0.s.data.getD 2 0).toNat > (57 : Int)))) with
         | true =>
          try simp only [bs]
          all_goals kernel_rfl
         | false =>
          try simp only [bs]
          all_goals kernel_rfl
       | false =>
        try simp only [bs]
        all_goals kernel_rfl
    | false =>
     try simp only [bs]
     all_goals kernel_rfl
  | false =>
   try simp only [bs]
   all_goals kernel_rfl
theorem y_spec_l1Kind (a0 : T) {r : List T} (h : Yields (fun k => b_spec_l1Kind (hl env k fi_spec_l1Kind) (cl env k) a0) r) : Yields (fun k => cl env k F_spec_l1Kind [a0]) r := Yields.call (fi := fi_spec_l1Kind) rfl rfl (fun H C => q_spec_l1Kind H C a0) h
noncomputable def l_spec_l2Ok_0 (H : List Item → CS → R) (x1 : T) (x2 : T) (x3 : T) (x4 : T) (x5 : T) : R := H (hdAt fi_spec_l2Ok.body 0) ([(0, .val 27 x1), (3, .pref 47 3 []), (5, .val 3 x2), (6, .val 3 x3), (8, .val 3 x4)], [(3, ⟨47, x5, .fz, true⟩)])
/- loop.example/heirlooms/spec.l2Ok -/
noncomputable abbrev b_spec_l2Ok (H : List Item → CS → R) (C : CallsE) (a0 a1 : T) : R :=
 bif (((a1.fld 0).s).toList == (⟨#[110]⟩ : ByteArray).toList) then
 obind (C F_spec_l2Plain [a1]) fun r1 =>
 bif (rt r1 0).b then
 obind (C F_spec_l6In [(a1.fld 1), (T.int (0 : Int)), (T.int (1000000 : Int))]) fun r2 =>
 some [(rt r2 0)]
 else
 some [(T.bool false)]
 else
 bif (((a1.fld 0).s).toList == (⟨#[98]⟩ : ByteArray).toList) then
 obind (C F_spec_l2Plain [a1]) fun r1 =>
 bif (rt r1 0).b then
 obind (C F_spec_l6In [(a1.fld 1), (T.int (0 : Int)), (T.int (1 : Int))]) fun r2 =>
 some [(rt r2 0)]
 else
 some [(T.bool false)]
 else
 bif (((a1.fld 0).s).toList == (⟨#[111]⟩ : ByteArray).toList) then
 obind (C F_spec_l2Plain [a1]) fun r1 =>
 bif (rt r1 0).b then
 obind (C F_spec_l6In [(a1.fld 1), (T.int (0 : Int)), (T.int (3 : Int))]) fun r2 =>
 some [(rt r2 0)]
 else
 some [(T.bool false)]
 else
 obind (C F_spec_l1Kind [(a1.fld 0)]) fun r1 =>
 bif (!(rt r1 2).b) then
 some [(T.bool false)]
 else
 obind (C F_spec_l1Has [a0, (rt r1 0), (rt r1 1)]) fun r2 =>
 bif (!(rt r2 0).b) then
 some [(T.bool false)]
 else
 bif ((a1.fld 1).i != (0 : Int)) then
 some [(T.bool false)]
 else
 bif (decide ((((a1.fld 3).es).length : Int) > (0 : Int))) then
 some [(T.bool false)]
 else
 bif (decide (0 ≤ (rt r1 0).i) && decide (((rt r1 0).i).toNat < a0.es.length)) then
 bif (decide (0 ≤ (rt r1 1).i) && decide (((rt r1 1).i).toNat < ((a0.nth (((rt r1 0).i).toNat)).es).length)) then
 bif ((((a1.fld 2).es).length : Int) != (((((a0.nth (((rt r1 0).i).toNat)).nth (((rt r1 1).i).toNat)).fld 1).es).length : Int)) then
 some [(T.bool false)]
 else
 l_spec_l2Ok_0 H a0 (rt r1 0) (rt r1 1) (T.int (0 : Int)) a1
 else
 none
 else
 none
theorem e_spec_l2Ok (H : List Item → CS → R) (C : CallsE) (a0 a1 : T) : enterE fi_spec_l2Ok env H C [a0, a1] =
 bif (((a1.fld 0).s).toList == (⟨#[110]⟩ : ByteArray).toList) then
 obind (C F_spec_l2Plain [a1]) fun r1 =>
 bif ((!((rt r1 0).b == true)) || true) then
 bif ((!((rt r1 0).b == true)) || ((rt r1 0).b == true)) then
 bif ((!((rt r1 0).b == true)) || (((rt r1 0).b == true) && true)) then
 obind ((bif ((rt r1 0).b == true) then C F_spec_l6In [(a1.fld 1), (T.int (0 : Int)), (T.int (1000000 : Int))] else some [])) fun r2 =>
 bif (bif (rt r1 0).b then ((rt r1 0).b == true) else true) then
 some [(bif (rt r1 0).b then (rt r2 0) else (T.bool false))]
 else
 none
 else
 none
 else
 none
 else
 none
 else
 bif (((a1.fld 0).s).toList == (⟨#[98]⟩ : ByteArray).toList) then
 obind (C F_spec_l2Plain [a1]) fun r3 =>
 bif ((!((rt r3 0).b == true)) || true) then
 bif ((!((rt r3 0).b == true)) || ((rt r3 0).b == true)) then
 bif ((!((rt r3 0).b == true)) || (((rt r3 0).b == true) && true)) then
 obind ((bif ((rt r3 0).b == true) then C F_spec_l6In [(a1.fld 1), (T.int (0 : Int)), (T.int (1 : Int))] else some [])) fun r4 =>
 bif (bif (rt r3 0).b then ((rt r3 0).b == true) else true) then
 some [(bif (rt r3 0).b then (rt r4 0) else (T.bool false))]
 else
 none
 else
 none
 else
 none
 else
 none
 else
 bif (((a1.fld 0).s).toList == (⟨#[111]⟩ : ByteArray).toList) then
 obind (C F_spec_l2Plain [a1]) fun r5 =>
 bif ((!((rt r5 0).b == true)) || true) then
 bif ((!((rt r5 0).b == true)) || ((rt r5 0).b == true)) then
 bif ((!((rt r5 0).b == true)) || (((rt r5 0).b == true) && true)) then
 obind ((bif ((rt r5 0).b == true) then C F_spec_l6In [(a1.fld 1), (T.int (0 : Int)), (T.int (3 : Int))] else some [])) fun r6 =>
 bif (bif (rt r5 0).b then ((rt r5 0).b == true) else true) then
 some [(bif (rt r5 0).b then (rt r6 0) else (T.bool false))]
 else
 none
 else
 none
 else
 none
 else
 none
 else
 obind (C F_spec_l1Kind [(a1.fld 0)]) fun r7 =>
 bif ((!((!(rt r7 2).b) == false)) || true) then
 bif ((!((!(rt r7 2).b) == false)) || true) then
 bif ((!((!(rt r7 2).b) == false)) || true) then
 bif ((!((!(rt r7 2).b) == false)) || (((!(rt r7 2).b) == false) && (((!(rt r7 2).b) == false) && (((!(rt r7 2).b) == false) && true)))) then
 obind ((bif ((!(rt r7 2).b) == false) then C F_spec_l1Has [a0, (rt r7 0), (rt r7 1)] else some [])) fun r8 =>
 bif ((!((!(rt r7 2).b) == false)) || ((!(rt r7 2).b) == false)) then
 bif (bif (!(rt r7 2).b) then true else ((!(rt r7 2).b) == false)) then
 bif ((!((bif (!(rt r7 2).b) then (T.bool true) else (T.bool (!(rt r8 0).b))).b == false)) || true) then
 bif ((!((bif (!(rt r7 2).b) then (T.bool true) else (T.bool (!(rt r8 0).b))).b == false)) || ((bif (!(rt r7 2).b) then (T.bool true) else (T.bool (!(rt r8 0).b))).b == false)) then
 bif ((!((bif (!(rt r7 2).b) then (T.bool true) else (T.bool (!(rt r8 0).b))).b == false)) || ((((bif (!(rt r7 2).b) then (T.bool true) else (T.bool (!(rt r8 0).b))).b == false) && true) && true)) then
 bif (bif (bif (!(rt r7 2).b) then (T.bool true) else (T.bool (!(rt r8 0).b))).b then true else ((bif (!(rt r7 2).b) then (T.bool true) else (T.bool (!(rt r8 0).b))).b == false)) then
 bif ((!((bif (bif (!(rt r7 2).b) then (T.bool true) else (T.bool (!(rt r8 0).b))).b then (T.bool true) else (T.bool ((a1.fld 1).i != (0 : Int)))).b == false)) || true) then
 bif ((!((bif (bif (!(rt r7 2).b) then (T.bool true) else (T.bool (!(rt r8 0).b))).b then (T.bool true) else (T.bool ((a1.fld 1).i != (0 : Int)))).b == false)) || ((bif (bif (!(rt r7 2).b) then (T.bool true) else (T.bool (!(rt r8 0).b))).b then (T.bool true) else (T.bool ((a1.fld 1).i != (0 : Int)))).b == false)) then
 bif ((!((bif (bif (!(rt r7 2).b) then (T.bool true) else (T.bool (!(rt r8 0).b))).b then (T.bool true) else (T.bool ((a1.fld 1).i != (0 : Int)))).b == false)) || ((bif (bif (!(rt r7 2).b) then (T.bool true) else (T.bool (!(rt r8 0).b))).b then (T.bool true) else (T.bool ((a1.fld 1).i != (0 : Int)))).b == false)) then
 bif ((!((bif (bif (!(rt r7 2).b) then (T.bool true) else (T.bool (!(rt r8 0).b))).b then (T.bool true) else (T.bool ((a1.fld 1).i != (0 : Int)))).b == false)) || ((((bif (bif (!(rt r7 2).b) then (T.bool true) else (T.bool (!(rt r8 0).b))).b then (T.bool true) else (T.bool ((a1.fld 1).i != (0 : Int)))).b == false) && true) && true)) then
 bif (bif (bif (bif (!(rt r7 2).b) then (T.bool true) else (T.bool (!(rt r8 0).b))).b then (T.bool true) else (T.bool ((a1.fld 1).i != (0 : Int)))).b then true else ((bif (bif (!(rt r7 2).b) then (T.bool true) else (T.bool (!(rt r8 0).b))).b then (T.bool true) else (T.bool ((a1.fld 1).i != (0 : Int)))).b == false)) then
 bif ((!((bif (bif (bif (!(rt r7 2).b) then (T.bool true) else (T.bool (!(rt r8 0).b))).b then (T.bool true) else (T.bool ((a1.fld 1).i != (0 : Int)))).b then (T.bool true) else (T.bool (decide ((((a1.fld 3).es).length : Int) > (0 : Int))))).b == false)) || true) then
 bif ((!((bif (bif (bif (!(rt r7 2).b) then (T.bool true) else (T.bool (!(rt r8 0).b))).b then (T.bool true) else (T.bool ((a1.fld 1).i != (0 : Int)))).b then (T.bool true) else (T.bool (decide ((((a1.fld 3).es).length : Int) > (0 : Int))))).b == false)) || ((bif (bif (bif (!(rt r7 2).b) then (T.bool true) else (T.bool (!(rt r8 0).b))).b then (T.bool true) else (T.bool ((a1.fld 1).i != (0 : Int)))).b then (T.bool true) else (T.bool (decide ((((a1.fld 3).es).length : Int) > (0 : Int))))).b == false)) then
 bif ((!((bif (bif (bif (!(rt r7 2).b) then (T.bool true) else (T.bool (!(rt r8 0).b))).b then (T.bool true) else (T.bool ((a1.fld 1).i != (0 : Int)))).b then (T.bool true) else (T.bool (decide ((((a1.fld 3).es).length : Int) > (0 : Int))))).b == false)) || ((bif (bif (bif (!(rt r7 2).b) then (T.bool true) else (T.bool (!(rt r8 0).b))).b then (T.bool true) else (T.bool ((a1.fld 1).i != (0 : Int)))).b then (T.bool true) else (T.bool (decide ((((a1.fld 3).es).length : Int) > (0 : Int))))).b == false)) then
 bif ((!((bif (bif (bif (!(rt r7 2).b) then (T.bool true) else (T.bool (!(rt r8 0).b))).b then (T.bool true) else (T.bool ((a1.fld 1).i != (0 : Int)))).b then (T.bool true) else (T.bool (decide ((((a1.fld 3).es).length : Int) > (0 : Int))))).b == false)) || true) then
 bif ((!((bif (bif (bif (!(rt r7 2).b) then (T.bool true) else (T.bool (!(rt r8 0).b))).b then (T.bool true) else (T.bool ((a1.fld 1).i != (0 : Int)))).b then (T.bool true) else (T.bool (decide ((((a1.fld 3).es).length : Int) > (0 : Int))))).b == false)) || true) then
 bif ((!((bif (bif (bif (!(rt r7 2).b) then (T.bool true) else (T.bool (!(rt r8 0).b))).b then (T.bool true) else (T.bool ((a1.fld 1).i != (0 : Int)))).b then (T.bool true) else (T.bool (decide ((((a1.fld 3).es).length : Int) > (0 : Int))))).b == false)) || ((((bif (bif (bif (!(rt r7 2).b) then (T.bool true) else (T.bool (!(rt r8 0).b))).b then (T.bool true) else (T.bool ((a1.fld 1).i != (0 : Int)))).b then (T.bool true) else (T.bool (decide ((((a1.fld 3).es).length : Int) > (0 : Int))))).b == false) && (((bif (bif (bif (!(rt r7 2).b) then (T.bool true) else (T.bool (!(rt r8 0).b))).b then (T.bool true) else (T.bool ((a1.fld 1).i != (0 : Int)))).b then (T.bool true) else (T.bool (decide ((((a1.fld 3).es).length : Int) > (0 : Int))))).b == false) && true)) && (decide (0 ≤ (rt r7 0).i) && decide (((rt r7 0).i).toNat < a0.es.length)))) then
 bif ((!((bif (bif (bif (!(rt r7 2).b) then (T.bool true) else (T.bool (!(rt r8 0).b))).b then (T.bool true) else (T.bool ((a1.fld 1).i != (0 : Int)))).b then (T.bool true) else (T.bool (decide ((((a1.fld 3).es).length : Int) > (0 : Int))))).b == false)) || ((bif (bif (bif (!(rt r7 2).b) then (T.bool true) else (T.bool (!(rt r8 0).b))).b then (T.bool true) else (T.bool ((a1.fld 1).i != (0 : Int)))).b then (T.bool true) else (T.bool (decide ((((a1.fld 3).es).length : Int) > (0 : Int))))).b == false)) then
 bif ((!((bif (bif (bif (!(rt r7 2).b) then (T.bool true) else (T.bool (!(rt r8 0).b))).b then (T.bool true) else (T.bool ((a1.fld 1).i != (0 : Int)))).b then (T.bool true) else (T.bool (decide ((((a1.fld 3).es).length : Int) > (0 : Int))))).b == false)) || true) then
 bif ((!((bif (bif (bif (!(rt r7 2).b) then (T.bool true) else (T.bool (!(rt r8 0).b))).b then (T.bool true) else (T.bool ((a1.fld 1).i != (0 : Int)))).b then (T.bool true) else (T.bool (decide ((((a1.fld 3).es).length : Int) > (0 : Int))))).b == false)) || ((((bif (bif (bif (!(rt r7 2).b) then (T.bool true) else (T.bool (!(rt r8 0).b))).b then (T.bool true) else (T.bool ((a1.fld 1).i != (0 : Int)))).b then (T.bool true) else (T.bool (decide ((((a1.fld 3).es).length : Int) > (0 : Int))))).b == false) && (((bif (bif (bif (!(rt r7 2).b) then (T.bool true) else (T.bool (!(rt r8 0).b))).b then (T.bool true) else (T.bool ((a1.fld 1).i != (0 : Int)))).b then (T.bool true) else (T.bool (decide ((((a1.fld 3).es).length : Int) > (0 : Int))))).b == false) && true)) && (decide (0 ≤ (rt r7 1).i) && decide (((rt r7 1).i).toNat < ((a0.nth (((rt r7 0).i).toNat)).es).length)))) then
 bif ((!((bif (bif (bif (!(rt r7 2).b) then (T.bool true) else (T.bool (!(rt r8 0).b))).b then (T.bool true) else (T.bool ((a1.fld 1).i != (0 : Int)))).b then (T.bool true) else (T.bool (decide ((((a1.fld 3).es).length : Int) > (0 : Int))))).b == false)) || ((bif (bif (bif (!(rt r7 2).b) then (T.bool true) else (T.bool (!(rt r8 0).b))).b then (T.bool true) else (T.bool ((a1.fld 1).i != (0 : Int)))).b then (T.bool true) else (T.bool (decide ((((a1.fld 3).es).length : Int) > (0 : Int))))).b == false)) then
 bif ((!((bif (bif (bif (!(rt r7 2).b) then (T.bool true) else (T.bool (!(rt r8 0).b))).b then (T.bool true) else (T.bool ((a1.fld 1).i != (0 : Int)))).b then (T.bool true) else (T.bool (decide ((((a1.fld 3).es).length : Int) > (0 : Int))))).b == false)) || ((bif (bif (bif (!(rt r7 2).b) then (T.bool true) else (T.bool (!(rt r8 0).b))).b then (T.bool true) else (T.bool ((a1.fld 1).i != (0 : Int)))).b then (T.bool true) else (T.bool (decide ((((a1.fld 3).es).length : Int) > (0 : Int))))).b == false)) then
 bif ((!((bif (bif (bif (!(rt r7 2).b) then (T.bool true) else (T.bool (!(rt r8 0).b))).b then (T.bool true) else (T.bool ((a1.fld 1).i != (0 : Int)))).b then (T.bool true) else (T.bool (decide ((((a1.fld 3).es).length : Int) > (0 : Int))))).b == false)) || ((bif (bif (bif (!(rt r7 2).b) then (T.bool true) else (T.bool (!(rt r8 0).b))).b then (T.bool true) else (T.bool ((a1.fld 1).i != (0 : Int)))).b then (T.bool true) else (T.bool (decide ((((a1.fld 3).es).length : Int) > (0 : Int))))).b == false)) then
 bif ((!((bif (bif (bif (!(rt r7 2).b) then (T.bool true) else (T.bool (!(rt r8 0).b))).b then (T.bool true) else (T.bool ((a1.fld 1).i != (0 : Int)))).b then (T.bool true) else (T.bool (decide ((((a1.fld 3).es).length : Int) > (0 : Int))))).b == false)) || ((((bif (bif (bif (!(rt r7 2).b) then (T.bool true) else (T.bool (!(rt r8 0).b))).b then (T.bool true) else (T.bool ((a1.fld 1).i != (0 : Int)))).b then (T.bool true) else (T.bool (decide ((((a1.fld 3).es).length : Int) > (0 : Int))))).b == false) && ((bif (bif (bif (!(rt r7 2).b) then (T.bool true) else (T.bool (!(rt r8 0).b))).b then (T.bool true) else (T.bool ((a1.fld 1).i != (0 : Int)))).b then (T.bool true) else (T.bool (decide ((((a1.fld 3).es).length : Int) > (0 : Int))))).b == false)) && true)) then
 bif (bif (bif (bif (bif (!(rt r7 2).b) then (T.bool true) else (T.bool (!(rt r8 0).b))).b then (T.bool true) else (T.bool ((a1.fld 1).i != (0 : Int)))).b then (T.bool true) else (T.bool (decide ((((a1.fld 3).es).length : Int) > (0 : Int))))).b then true else ((bif (bif (bif (!(rt r7 2).b) then (T.bool true) else (T.bool (!(rt r8 0).b))).b then (T.bool true) else (T.bool ((a1.fld 1).i != (0 : Int)))).b then (T.bool true) else (T.bool (decide ((((a1.fld 3).es).length : Int) > (0 : Int))))).b == false)) then
 bif (bif (bif (bif (bif (!(rt r7 2).b) then (T.bool true) else (T.bool (!(rt r8 0).b))).b then (T.bool true) else (T.bool ((a1.fld 1).i != (0 : Int)))).b then (T.bool true) else (T.bool (decide ((((a1.fld 3).es).length : Int) > (0 : Int))))).b then (T.bool true) else (T.bool ((((a1.fld 2).es).length : Int) != (((((a0.nth (((rt r7 0).i).toNat)).nth (((rt r7 1).i).toNat)).fld 1).es).length : Int)))).b then
 some [(T.bool false)]
 else
 l_spec_l2Ok_0 H a0 (rt r7 0) (rt r7 1) (T.int (0 : Int)) a1
 else
 none
 else
 none
 else
 none
 else
 none
 else
 none
 else
 none
 else
 none
 else
 none
 else
 none
 else
 none
 else
 none
 else
 none
 else
 none
 else
 none
 else
 none
 else
 none
 else
 none
 else
 none
 else
 none
 else
 none
 else
 none
 else
 none
 else
 none
 else
 none
 else
 none
 else
 none
 else
 none
 else
 none
 else
 none := by kernel_rfl
theorem q_spec_l2Ok (H : List Item → CS → R) (C : CallsE) (a0 a1 : T) : enterE fi_spec_l2Ok env H C [a0, a1] = b_spec_l2Ok H C a0 a1 := by
 refine (e_spec_l2Ok H C a0 a1).trans ?_
 unfold b_spec_l2Ok
 all_goals cases hc : ((((a1.fld 0).s).toList == (⟨#[110]⟩ : ByteArray).toList)) with
 | true =>
  try simp only [bs]
  all_goals refine obind_congr fun r1 => ?_
  all_goals try simp only [bs]
  all_goals cases hc : ((rt r1 0).b) with
  | true =>
   try simp only [bs]
   all_goals refine obind_congr fun r2 => ?_
   all_goals try simp only [bs]
   all_goals kernel_rfl
  | false =>
   try simp only [bs]
   all_goals kernel_rfl
 | false =>
  try simp only [bs]
  all_goals cases hc : ((((a1.fld 0).s).toList == (⟨#[98]⟩ : ByteArray).toList)) with
  | true =>
   try simp only [bs]
   all_goals refine obind_congr fun r1 => ?_
   all_goals try simp only [bs]
   all_goals cases hc : ((rt r1 0).b) with
   | true =>
    try simp only [bs]
    all_goals refine obind_congr fun r2 => ?_
    all_goals try simp only [bs]
    all_goals kernel_rfl
   | false =>
    try simp only [bs]
    all_goals kernel_rfl
  | false =>
   try simp only [bs]
   all_goals cases hc : ((((a1.fld 0).s).toList == (⟨#[111]⟩ : ByteArray).toList)) with
   | true =>
    try simp only [bs]
    all_goals refine obind_congr fun r1 => ?_
    all_goals try simp only [bs]
    all_goals cases hc : ((rt r1 0).b) with
    | true =>
     try simp only [bs]
     all_goals refine obind_congr fun r2 => ?_
     all_goals try simp only [bs]
     all_goals kernel_rfl
    | false =>
     try simp only [bs]
     all_goals kernel_rfl
   | false =>
    try simp only [bs]
    all_goals refine obind_congr fun r1 => ?_
    all_goals try simp only [bs]
    all_goals cases hc : ((!(rt r1 2).b)) with
    | true =>
     try simp only [bs]
     all_goals kernel_rfl
    | false =>
     try simp only [bs]
     all_goals refine obind_congr fun r2 => ?_
     all_goals try simp only [bs]
     all_goals cases hc : ((!(rt r2 0).b)) with
     | true =>
      try simp only [bs]
      all_goals kernel_rfl
     | false =>
      try simp only [bs]
      all_goals cases hc : (((a1.fld 1).i != (0 : Int))) with
      | true =>
       try simp only [bs]
       all_goals kernel_rfl
      | false =>
       try simp only [bs]
       all_goals cases hc : ((decide ((((a1.fld 3).es).length : Int) > (0 : Int)))) with
       | true =>
        try simp only [bs]
        all_goals kernel_rfl
       | false =>
        try simp only [bs]
        all_goals cases hc : ((decide (0 ≤ (rt r1 0).i) && decide (((rt r1 0).i).toNat < a0.es.length))) with
        | true =>
         try simp only [bs]
         all_goals cases hc : ((decide (0 ≤ (rt r1 1).i) && decide (((rt r1 1).i).toNat < ((a0.nth (((rt r1 0).i).toNat)).es).length))) with
         | true =>
          try simp only [bs]
          all_goals cases hc : (((((a1.fld 2).es).length : Int) != (((((a0.nth (((rt r1 0).i).toNat)).nth (((rt r1 1).i).toNat)).fld 1).es).length : Int))) with
          | true =>
           try simp only [bs]
           all_goals kernel_rfl
          | false =>
           try simp only [bs]
           all_goals kernel_rfl
         | false =>
          try simp only [bs]
          all_goals kernel_rfl
        | false =>
         try simp only [bs]
         all_goals kernel_rfl
theorem y_spec_l2Ok (a0 a1 : T) {r : List T} (h : Yields (fun k => b_spec_l2Ok (hl env k fi_spec_l2Ok) (cl env k) a0 a1) r) : Yields (fun k => cl env k F_spec_l2Ok [a0, a1]) r := Yields.call (fi := fi_spec_l2Ok) rfl rfl (fun H C => q_spec_l2Ok H C a0 a1) h
noncomputable abbrev b_spec_l2Ok_0 (H : List Item → CS → R) (C : CallsE) (x1 : T) (x2 : T) (x3 : T) (x4 : T) (x5 : T) : R :=
 bif (decide (x4.i < (((x5.fld 2).es).length : Int))) then
 bif (decide (0 ≤ x4.i) && decide (x4.i.toNat < ((x5.fld 2).es).length)) then
 bif (decide (0 ≤ x2.i) && decide (x2.i.toNat < x1.es.length)) then
 bif (decide (0 ≤ x3.i) && decide (x3.i.toNat < ((x1.nth x2.i.toNat).es).length)) then
 bif (decide (0 ≤ x4.i) && decide (x4.i.toNat < ((((x1.nth x2.i.toNat).nth x3.i.toNat).fld 1).es).length)) then
 bif (!(((((x5.fld 2).nth x4.i.toNat).fld 0).s).toList == (((((x1.nth x2.i.toNat).nth x3.i.toNat).fld 1).nth x4.i.toNat).s).toList)) then
 some [(T.bool false)]
 else
 obind (C F_spec_l2Ok [x1, ((x5.fld 2).nth x4.i.toNat)]) fun r1 =>
 bif (!(rt r1 0).b) then
 some [(T.bool false)]
 else
 l_spec_l2Ok_0 H x1 x2 x3 (T.int (IntKind.wrap .i64 (x4.i + (1 : Int)))) x5
 else
 none
 else
 none
 else
 none
 else
 none
 else
 some [(T.bool true)]
theorem e_spec_l2Ok_0 (H : List Item → CS → R) (C : CallsE) (x1 : T) (x2 : T) (x3 : T) (x4 : T) (x5 : T) : headE fi_spec_l2Ok env H C (hdAt fi_spec_l2Ok.body 0) ([(0, .val 27 x1), (3, .pref 47 3 []), (5, .val 3 x2), (6, .val 3 x3), (8, .val 3 x4)], [(3, ⟨47, x5, .fz, true⟩)]) =
 bif (decide (x4.i < (((x5.fld 2).es).length : Int))) then
 bif (decide (0 ≤ x4.i) && decide (x4.i.toNat < ((x5.fld 2).es).length)) then
 bif (decide (0 ≤ x2.i) && decide (x2.i.toNat < x1.es.length)) then
 bif (decide (0 ≤ x3.i) && decide (x3.i.toNat < ((x1.nth x2.i.toNat).es).length)) then
 bif (decide (0 ≤ x4.i) && decide (x4.i.toNat < ((((x1.nth x2.i.toNat).nth x3.i.toNat).fld 1).es).length)) then
 bif ((!((!(((((x5.fld 2).nth x4.i.toNat).fld 0).s).toList == (((((x1.nth x2.i.toNat).nth x3.i.toNat).fld 1).nth x4.i.toNat).s).toList)) == false)) || true) then
 bif ((!((!(((((x5.fld 2).nth x4.i.toNat).fld 0).s).toList == (((((x1.nth x2.i.toNat).nth x3.i.toNat).fld 1).nth x4.i.toNat).s).toList)) == false)) || true) then
 bif ((!((!(((((x5.fld 2).nth x4.i.toNat).fld 0).s).toList == (((((x1.nth x2.i.toNat).nth x3.i.toNat).fld 1).nth x4.i.toNat).s).toList)) == false)) || ((!(((((x5.fld 2).nth x4.i.toNat).fld 0).s).toList == (((((x1.nth x2.i.toNat).nth x3.i.toNat).fld 1).nth x4.i.toNat).s).toList)) == false)) then
 bif ((!((!(((((x5.fld 2).nth x4.i.toNat).fld 0).s).toList == (((((x1.nth x2.i.toNat).nth x3.i.toNat).fld 1).nth x4.i.toNat).s).toList)) == false)) || true) then
 bif ((!((!(((((x5.fld 2).nth x4.i.toNat).fld 0).s).toList == (((((x1.nth x2.i.toNat).nth x3.i.toNat).fld 1).nth x4.i.toNat).s).toList)) == false)) || ((((!(((((x5.fld 2).nth x4.i.toNat).fld 0).s).toList == (((((x1.nth x2.i.toNat).nth x3.i.toNat).fld 1).nth x4.i.toNat).s).toList)) == false) && (((!(((((x5.fld 2).nth x4.i.toNat).fld 0).s).toList == (((((x1.nth x2.i.toNat).nth x3.i.toNat).fld 1).nth x4.i.toNat).s).toList)) == false) && true)) && (decide (0 ≤ x4.i) && decide (x4.i.toNat < ((x5.fld 2).es).length)))) then
 bif ((!((!(((((x5.fld 2).nth x4.i.toNat).fld 0).s).toList == (((((x1.nth x2.i.toNat).nth x3.i.toNat).fld 1).nth x4.i.toNat).s).toList)) == false)) || ((!(((((x5.fld 2).nth x4.i.toNat).fld 0).s).toList == (((((x1.nth x2.i.toNat).nth x3.i.toNat).fld 1).nth x4.i.toNat).s).toList)) == false)) then
 bif ((!((!(((((x5.fld 2).nth x4.i.toNat).fld 0).s).toList == (((((x1.nth x2.i.toNat).nth x3.i.toNat).fld 1).nth x4.i.toNat).s).toList)) == false)) || (((!(((((x5.fld 2).nth x4.i.toNat).fld 0).s).toList == (((((x1.nth x2.i.toNat).nth x3.i.toNat).fld 1).nth x4.i.toNat).s).toList)) == false) && (((!(((((x5.fld 2).nth x4.i.toNat).fld 0).s).toList == (((((x1.nth x2.i.toNat).nth x3.i.toNat).fld 1).nth x4.i.toNat).s).toList)) == false) && true))) then
 obind ((bif ((!(((((x5.fld 2).nth x4.i.toNat).fld 0).s).toList == (((((x1.nth x2.i.toNat).nth x3.i.toNat).fld 1).nth x4.i.toNat).s).toList)) == false) then C F_spec_l2Ok [x1, ((x5.fld 2).nth x4.i.toNat)] else some [])) fun r1 =>
 bif ((!((!(((((x5.fld 2).nth x4.i.toNat).fld 0).s).toList == (((((x1.nth x2.i.toNat).nth x3.i.toNat).fld 1).nth x4.i.toNat).s).toList)) == false)) || ((!(((((x5.fld 2).nth x4.i.toNat).fld 0).s).toList == (((((x1.nth x2.i.toNat).nth x3.i.toNat).fld 1).nth x4.i.toNat).s).toList)) == false)) then
 bif (bif (!(((((x5.fld 2).nth x4.i.toNat).fld 0).s).toList == (((((x1.nth x2.i.toNat).nth x3.i.toNat).fld 1).nth x4.i.toNat).s).toList)) then true else ((!(((((x5.fld 2).nth x4.i.toNat).fld 0).s).toList == (((((x1.nth x2.i.toNat).nth x3.i.toNat).fld 1).nth x4.i.toNat).s).toList)) == false)) then
 bif (bif (!(((((x5.fld 2).nth x4.i.toNat).fld 0).s).toList == (((((x1.nth x2.i.toNat).nth x3.i.toNat).fld 1).nth x4.i.toNat).s).toList)) then (T.bool true) else (T.bool (!(rt r1 0).b))).b then
 some [(T.bool false)]
 else
 l_spec_l2Ok_0 H x1 x2 x3 (T.int (IntKind.wrap .i64 (x4.i + (1 : Int)))) x5
 else
 none
 else
 none
 else
 none
 else
 none
 else
 none
 else
 none
 else
 none
 else
 none
 else
 none
 else
 none
 else
 none
 else
 none
 else
 none
 else
 some [(T.bool true)] := by kernel_rfl
theorem q_spec_l2Ok_0 (H : List Item → CS → R) (C : CallsE) (x1 : T) (x2 : T) (x3 : T) (x4 : T) (x5 : T) : headE fi_spec_l2Ok env H C (hdAt fi_spec_l2Ok.body 0) ([(0, .val 27 x1), (3, .pref 47 3 []), (5, .val 3 x2), (6, .val 3 x3), (8, .val 3 x4)], [(3, ⟨47, x5, .fz, true⟩)]) = b_spec_l2Ok_0 H C x1 x2 x3 x4 x5 := by
 refine (e_spec_l2Ok_0 H C x1 x2 x3 x4 x5).trans ?_
 unfold b_spec_l2Ok_0
 all_goals cases hc : ((decide (x4.i < (((x5.fld 2).es).length : Int)))) with
 | true =>
  try simp only [bs]
  all_goals cases hc : ((decide (0 ≤ x4.i) && decide (x4.i.toNat < ((x5.fld 2).es).length))) with
  | true =>
   try simp only [bs]
   all_goals cases hc : ((decide (0 ≤ x2.i) && decide (x2.i.toNat < x1.es.length))) with
   | true =>
    try simp only [bs]
    all_goals cases hc : ((decide (0 ≤ x3.i) && decide (x3.i.toNat < ((x1.nth x2.i.toNat).es).length))) with
    | true =>
     try simp only [bs]
     all_goals cases hc : ((decide (0 ≤ x4.i) && decide (x4.i.toNat < ((((x1.nth x2.i.toNat).nth x3.i.toNat).fld 1).es).length))) with
     | true =>
      try simp only [bs]
      all_goals cases hc : ((!(((((x5.fld 2).nth x4.i.toNat).fld 0).s).toList == (((((x1.nth x2.i.toNat).nth x3.i.toNat).fld 1).nth x4.i.toNat).s).toList))) with
      | true =>
       try simp only [bs]
       all_goals kernel_rfl
      | false =>
       try simp only [bs]
       all_goals refine obind_congr fun r1 => ?_
       all_goals try simp only [bs]
       all_goals cases hc : ((!(rt r1 0).b)) with
       | true =>
        try simp only [bs]
        all_goals kernel_rfl
       | false =>
        try simp only [bs]
        all_goals kernel_rfl
     | false =>
      try simp only [bs]
      all_goals kernel_rfl
    | false =>
     try simp only [bs]
     all_goals kernel_rfl
   | false =>
    try simp only [bs]
    all_goals kernel_rfl
  | false =>
   try simp only [bs]
   all_goals kernel_rfl
 | false =>
  try simp only [bs]
  all_goals kernel_rfl
theorem y_spec_l2Ok_0 (x1 : T) (x2 : T) (x3 : T) (x4 : T) (x5 : T) {r : List T} (h : Yields (fun k => b_spec_l2Ok_0 (hl env k fi_spec_l2Ok) (cl env k) x1 x2 x3 x4 x5) r) : Yields (fun k => l_spec_l2Ok_0 (hl env k fi_spec_l2Ok) x1 x2 x3 x4 x5) r := Yields.head (fun H C => q_spec_l2Ok_0 H C x1 x2 x3 x4 x5) h
/- loop.example/heirlooms/spec.l1Can -/
noncomputable abbrev b_spec_l1Can (H : List Item → CS → R) (C : CallsE) (a0 a1 : T) : R :=
 bif (!(a1.i == 0)) then
 bif (!((2 : Int) == 0)) then
 some [(T.bool ((((IntKind.wrap .i64 ((a0.i).tdiv a1.i)) : Int).tmod (2 : Int)) == (1 : Int)))]
 else
 none
 else
 none
theorem q_spec_l1Can (H : List Item → CS → R) (C : CallsE) (a0 a1 : T) : enterE fi_spec_l1Can env H C [a0, a1] = b_spec_l1Can H C a0 a1 := by kernel_rfl
theorem y_spec_l1Can (a0 a1 : T) {r : List T} (h : Yields (fun k => b_spec_l1Can (hl env k fi_spec_l1Can) (cl env k) a0 a1) r) : Yields (fun k => cl env k F_spec_l1Can [a0, a1]) r := Yields.call (fi := fi_spec_l1Can) rfl rfl (fun H C => q_spec_l1Can H C a0 a1) h
/- loop.example/heirlooms/spec.l1Able -/
noncomputable abbrev b_spec_l1Able (H : List Item → CS → R) (C : CallsE) (a0 a1 : T) : R :=
 obind (C F_spec_l1Ref [a1]) fun r1 =>
 bif (rt r1 0).b then
 bif (decide (0 ≤ (0 : Int)) && decide (0 < a1.s.size)) then
 bif ((a1.s.data.getD 0 0).toNat == (38 : Int)) then
 some [(T.int (3 : Int))]
 else
 obind (C F_spec_l1Ref [a1]) fun r2 =>
 bif (rt r2 0).b then
 some [(T.int (2 : Int))]
 else
 obind (C F_spec_l1Kind [a1]) fun r3 =>
 bif (rt r3 2).b then
 bif (decide (0 ≤ (rt r3 0).i) && decide (((rt r3 0).i).toNat < a0.es.length)) then
 bif (decide (0 ≤ (rt r3 1).i) && decide (((rt r3 1).i).toNat < ((a0.nth (((rt r3 0).i).toNat)).es).length)) then
 some [(((a0.nth (((rt r3 0).i).toNat)).nth (((rt r3 1).i).toNat)).fld 0)]
 else
 none
 else
 none
 else
 some [(T.int (7 : Int))]
 else
 none
 else
 obind (C F_spec_l1Ref [a1]) fun r2 =>
 bif (rt r2 0).b then
 some [(T.int (2 : Int))]
 else
 obind (C F_spec_l1Kind [a1]) fun r3 =>
 bif (rt r3 2).b then
 bif (decide (0 ≤ (rt r3 0).i) && decide (((rt r3 0).i).toNat < a0.es.length)) then
 bif (decide (0 ≤ (rt r3 1).i) && decide (((rt r3 1).i).toNat < ((a0.nth (((rt r3 0).i).toNat)).es).length)) then
 some [(((a0.nth (((rt r3 0).i).toNat)).nth (((rt r3 1).i).toNat)).fld 0)]
 else
 none
 else
 none
 else
 some [(T.int (7 : Int))]
theorem e_spec_l1Able (H : List Item → CS → R) (C : CallsE) (a0 a1 : T) : enterE fi_spec_l1Able env H C [a0, a1] =
 obind (C F_spec_l1Ref [a1]) fun r1 =>
 bif ((!((rt r1 0).b == true)) || true) then
 bif ((!((rt r1 0).b == true)) || ((((rt r1 0).b == true) && true) && (decide (0 ≤ (0 : Int)) && decide (0 < a1.s.size)))) then
 bif ((!((rt r1 0).b == true)) || ((((rt r1 0).b == true) && true) && true)) then
 bif (bif (rt r1 0).b then ((rt r1 0).b == true) else true) then
 bif (bif (rt r1 0).b then (T.bool ((a1.s.data.getD 0 0).toNat == (38 : Int))) else (T.bool false)).b then
 some [(T.int (3 : Int))]
 else
 obind (C F_spec_l1Ref [a1]) fun r2 =>
 bif (rt r2 0).b then
 some [(T.int (2 : Int))]
 else
 obind (C F_spec_l1Kind [a1]) fun r3 =>
 bif (rt r3 2).b then
 bif (decide (0 ≤ (rt r3 0).i) && decide (((rt r3 0).i).toNat < a0.es.length)) then
 bif (decide (0 ≤ (rt r3 1).i) && decide (((rt r3 1).i).toNat < ((a0.nth (((rt r3 0).i).toNat)).es).length)) then
 some [(((a0.nth (((rt r3 0).i).toNat)).nth (((rt r3 1).i).toNat)).fld 0)]
 else
 none
 else
 none
 else
 some [(T.int (7 : Int))]
 else
 none
 else
 none
 else
 none
 else
 none := by kernel_rfl
theorem q_spec_l1Able (H : List Item → CS → R) (C : CallsE) (a0 a1 : T) : enterE fi_spec_l1Able env H C [a0, a1] = b_spec_l1Able H C a0 a1 := by
 refine (e_spec_l1Able H C a0 a1).trans ?_
 unfold b_spec_l1Able
 all_goals refine obind_congr fun r1 => ?_
 all_goals try simp only [bs]
 all_goals cases hc : ((rt r1 0).b) with
 | true =>
  try simp only [bs]
  all_goals cases hc : ((decide (0 ≤ (0 : Int)) && decide (0 < a1.s.size))) with
  | true =>
   try simp only [bs]
   all_goals cases hc : (((a1.s.data.getD 0 0).toNat == (38 : Int))) with
   | true =>
    try simp only [bs]
    all_goals kernel_rfl
   | false =>
    try simp only [bs]
    all_goals refine obind_congr fun r2 => ?_
    all_goals try simp only [bs]
    all_goals cases hc : ((rt r2 0).b) with
    | true =>
     try simp only [bs]
     all_goals kernel_rfl
    | false =>
     try simp only [bs]
     all_goals refine obind_congr fun r3 => ?_
     all_goals try simp only [bs]
     all_goals cases hc : ((rt r3 2).b) with
     | true =>
      try simp only [bs]
      all_goals cases hc : ((decide (0 ≤ (rt r3 0).i) && decide (((rt r3 0).i).toNat < a0.es.length))) with
      | true =>
       try simp only [bs]
       all_goals cases hc : ((decide (0 ≤ (rt r3 1).i) && decide (((rt r3 1).i).toNat < ((a0.nth (((rt r3 0).i).toNat)).es).length))) with
       | true =>
        try simp only [bs]
        all_goals kernel_rfl
       | false =>
        try simp only [bs]
        all_goals kernel_rfl
      | false =>
       try simp only [bs]
       all_goals kernel_rfl
     | false =>
      try simp only [bs]
      all_goals kernel_rfl
  | false =>
   try simp only [bs]
   all_goals kernel_rfl
 | false =>
  try simp only [bs]
  all_goals refine obind_congr fun r2 => ?_
  all_goals try simp only [bs]
  all_goals cases hc : ((rt r2 0).b) with
  | true =>
   try simp only [bs]
   all_goals kernel_rfl
  | false =>
   try simp only [bs]
   all_goals refine obind_congr fun r3 => ?_
   all_goals try simp only [bs]
   all_goals cases hc : ((rt r3 2).b) with
   | true =>
    try simp only [bs]
    all_goals cases hc : ((decide (0 ≤ (rt r3 0).i) && decide (((rt r3 0).i).toNat < a0.es.length))) with
    | true =>
     try simp only [bs]
     all_goals cases hc : ((decide (0 ≤ (rt r3 1).i) && decide (((rt r3 1).i).toNat < ((a0.nth (((rt r3 0).i).toNat)).es).length))) with
     | true =>
      try simp only [bs]
      all_goals kernel_rfl
     | false =>
      try simp only [bs]
      all_goals kernel_rfl
    | false =>
     try simp only [bs]
     all_goals kernel_rfl
   | false =>
    try simp only [bs]
    all_goals kernel_rfl
theorem y_spec_l1Able (a0 a1 : T) {r : List T} (h : Yields (fun k => b_spec_l1Able (hl env k fi_spec_l1Able) (cl env k) a0 a1) r) : Yields (fun k => cl env k F_spec_l1Able [a0, a1]) r := Yields.call (fi := fi_spec_l1Able) rfl rfl (fun H C => q_spec_l1Able H C a0 a1) h
noncomputable def l_impl_recordOk_0 (H : List Item → CS → R) (x1 : T) (x2 : T) (x3 : T) (x4 : T) (x5 : T) (x6 : T) (x7 : T) : R := H (hdAt fi_impl_recordOk.body 0) ([(0, .val 27 x1), (1, .val 3 x2), (2, .val 3 x3), (7, .pref 63 7 []), (36, .val 57 x4), (37, .val 3 x5), (38, .val 3 x6)], [(7, ⟨63, x7, .fz, true⟩)])
/- loop.example/heirlooms/impl.recordOk -/
noncomputable abbrev b_impl_recordOk (H : List Item → CS → R) (C : CallsE) (a0 a1 a2 : T) : R :=
 bif (decide (0 ≤ a1.i) && decide (a1.i.toNat < a0.es.length)) then
 bif (decide (0 ≤ a2.i) && decide (a2.i.toNat < ((a0.nth a1.i.toNat).es).length)) then
 bif (decide ((((a0.nth a1.i.toNat).nth a2.i.toNat).fld 0).i < (0 : Int))) then
 some [(T.bool false)]
 else
 bif (decide ((((a0.nth a1.i.toNat).nth a2.i.toNat).fld 0).i > (15 : Int))) then
 some [(T.bool false)]
 else
 bif (decide ((((((a0.nth a1.i.toNat).nth a2.i.toNat).fld 1).es).length : Int) > (3 : Int))) then
 some [(T.bool false)]
 else
 l_impl_recordOk_0 H a0 a1 a2 (((a0.nth a1.i.toNat).nth a2.i.toNat).fld 1) (T.int (((((a0.nth a1.i.toNat).nth a2.i.toNat).fld 1).es).length : Int)) (T.int (0 : Int)) ((a0.nth a1.i.toNat).nth a2.i.toNat)
 else
 none
 else
 none
theorem e_impl_recordOk (H : List Item → CS → R) (C : CallsE) (a0 a1 a2 : T) : enterE fi_impl_recordOk env H C [a0, a1, a2] =
 bif (decide (0 ≤ a1.i) && decide (a1.i.toNat < a0.es.length)) then
 bif (decide (0 ≤ a2.i) && decide (a2.i.toNat < ((a0.nth a1.i.toNat).es).length)) then
 bif ((!((decide ((((a0.nth a1.i.toNat).nth a2.i.toNat).fld 0).i < (0 : Int))) == false)) || true) then
 bif ((!((decide ((((a0.nth a1.i.toNat).nth a2.i.toNat).fld 0).i < (0 : Int))) == false)) || ((decide ((((a0.nth a1.i.toNat).nth a2.i.toNat).fld 0).i < (0 : Int))) == false)) then
 bif ((!((decide ((((a0.nth a1.i.toNat).nth a2.i.toNat).fld 0).i < (0 : Int))) == false)) || ((((decide ((((a0.nth a1.i.toNat).nth a2.i.toNat).fld 0).i < (0 : Int))) == false) && true) && true)) then
 bif (bif (decide ((((a0.nth a1.i.toNat).nth a2.i.toNat).fld 0).i < (0 : Int))) then true else ((decide ((((a0.nth a1.i.toNat).nth a2.i.toNat).fld 0).i < (0 : Int))) == false)) then
 bif ((!((bif (decide ((((a0.nth a1.i.toNat).nth a2.i.toNat).fld 0).i < (0 : Int))) then (T.bool true) else (T.bool (decide ((((a0.nth a1.i.toNat).nth a2.i.toNat).fld 0).i > (15 : Int))))).b == false)) || true) then
 bif ((!((bif (decide ((((a0.nth a1.i.toNat).nth a2.i.toNat).fld 0).i < (0 : Int))) then (T.bool true) else (T.bool (decide ((((a0.nth a1.i.toNat).nth a2.i.toNat).fld 0).i > (15 : Int))))).b == false)) || ((bif (decide ((((a0.nth a1.i.toNat).nth a2.i.toNat).fld 0).i < (0 : Int))) then (T.bool true) else (T.bool (decide ((((a0.nth a1.i.toNat).nth a2.i.toNat).fld 0).i > (15 : Int))))).b == false)) then
 bif ((!((bif (decide ((((a0.nth a1.i.toNat).nth a2.i.toNat).fld 0).i < (0 : Int))) then (T.bool true) else (T.bool (decide ((((a0.nth a1.i.toNat).nth a2.i.toNat).fld 0).i > (15 : Int))))).b == false)) || ((bif (decide ((((a0.nth a1.i.toNat).nth a2.i.toNat).fld 0).i < (0 : Int))) then (T.bool true) else (T.bool (decide ((((a0.nth a1.i.toNat).nth a2.i.toNat).fld 0).i > (15 : Int))))).b == false)) then
 bif ((!((bif (decide ((((a0.nth a1.i.toNat).nth a2.i.toNat).fld 0).i < (0 : Int))) then (T.bool true) else (T.bool (decide ((((a0.nth a1.i.toNat).nth a2.i.toNat).fld 0).i > (15 : Int))))).b == false)) || ((((bif (decide ((((a0.nth a1.i.toNat).nth a2.i.toNat).fld 0).i < (0 : Int))) then (T.bool true) else (T.bool (decide ((((a0.nth a1.i.toNat).nth a2.i.toNat).fld 0).i > (15 : Int))))).b == false) && true) && true)) then
 bif (bif (bif (decide ((((a0.nth a1.i.toNat).nth a2.i.toNat).fld 0).i < (0 : Int))) then (T.bool true) else (T.bool (decide ((((a0.nth a1.i.toNat).nth a2.i.toNat).fld 0).i > (15 : Int))))).b then true else ((bif (decide ((((a0.nth a1.i.toNat).nth a2.i.toNat).fld 0).i < (0 : Int))) then (T.bool true) else (T.bool (decide ((((a0.nth a1.i.toNat).nth a2.i.toNat).fld 0).i > (15 : Int))))).b == false)) then
 bif (bif (bif (decide ((((a0.nth a1.i.toNat).nth a2.i.toNat).fld 0).i < (0 : Int))) then (T.bool true) else (T.bool (decide ((((a0.nth a1.i.toNat).nth a2.i.toNat).fld 0).i > (15 : Int))))).b then (T.bool true) else (T.bool (decide ((((((a0.nth a1.i.toNat).nth a2.i.toNat).fld 1).es).length : Int) > (3 : Int))))).b then
 some [(T.bool false)]
 else
 l_impl_recordOk_0 H a0 a1 a2 (((a0.nth a1.i.toNat).nth a2.i.toNat).fld 1) (T.int (((((a0.nth a1.i.toNat).nth a2.i.toNat).fld 1).es).length : Int)) (T.int (0 : Int)) ((a0.nth a1.i.toNat).nth a2.i.toNat)
 else
 none
 else
 none
 else
 none
 else
 none
 else
 none
 else
 none
 else
 none
 else
 none
 else
 none
 else
 none
 else
 none := by kernel_rfl
theorem q_impl_recordOk (H : List Item → CS → R) (C : CallsE) (a0 a1 a2 : T) : enterE fi_impl_recordOk env H C [a0, a1, a2] = b_impl_recordOk H C a0 a1 a2 := by
 refine (e_impl_recordOk H C a0 a1 a2).trans ?_
 unfold b_impl_recordOk
 all_goals cases hc : ((decide (0 ≤ a1.i) && decide (a1.i.toNat < a0.es.length))) with
 | true =>
  try simp only [bs]
  all_goals cases hc : ((decide (0 ≤ a2.i) && decide (a2.i.toNat < ((a0.nth a1.i.toNat).es).length))) with
  | true =>
   try simp only [bs]
   all_goals cases hc : ((decide ((((a0.nth a1.i.toNat).nth a2.i.toNat).fld 0).i < (0 : Int)))) with
   | true =>
    try simp only [bs]
    all_goals kernel_rfl
   | false =>
    try simp only [bs]
    all_goals cases hc : ((decide ((((a0.nth a1.i.toNat).nth a2.i.toNat).fld 0).i > (15 : Int)))) with
    | true =>
     try simp only [bs]
     all_goals kernel_rfl
    | false =>
     try simp only [bs]
     all_goals cases hc : ((decide ((((((a0.nth a1.i.toNat).nth a2.i.toNat).fld 1).es).length : Int) > (3 : Int)))) with
     | true =>
      try simp only [bs]
      all_goals kernel_rfl
     | false =>
      try simp only [bs]
      all_goals kernel_rfl
  | false =>
   try simp only [bs]
   all_goals kernel_rfl
 | false =>
  try simp only [bs]
  all_goals kernel_rfl
theorem y_impl_recordOk (a0 a1 a2 : T) {r : List T} (h : Yields (fun k => b_impl_recordOk (hl env k fi_impl_recordOk) (cl env k) a0 a1 a2) r) : Yields (fun k => cl env k F_impl_recordOk [a0, a1, a2]) r := Yields.call (fi := fi_impl_recordOk) rfl rfl (fun H C => q_impl_recordOk H C a0 a1 a2) h
noncomputable abbrev b_impl_recordOk_0 (H : List Item → CS → R) (C : CallsE) (x1 : T) (x2 : T) (x3 : T) (x4 : T) (x5 : T) (x6 : T) (x7 : T) : R :=
 bif (decide (x6.i < x5.i)) then
 bif (decide (0 ≤ x6.i) && decide (x6.i.toNat < x4.es.length)) then
 obind (C F_impl_kindAt [(x4.nth x6.i.toNat)]) fun r1 =>
 bif (rt r1 2).b then
 bif (decide ((rt r1 0).i > x2.i)) then
 some [(T.bool false)]
 else
 bif ((rt r1 0).i == x2.i) then
 bif (decide ((rt r1 1).i ≥ x3.i)) then
 some [(T.bool false)]
 else
 obind (C F_impl_plainOk [x1, (x4.nth x6.i.toNat)]) fun r2 =>
 bif (!(rt r2 0).b) then
 some [(T.bool false)]
 else
 obind (C F_impl_ableOf [x1, (x4.nth x6.i.toNat)]) fun r3 =>
 bif ((IntKind.wrap .i64 ((BitVec.ofInt (IntKind.i64).bits (IntKind.wrap .i64 ((BitVec.ofInt (IntKind.i64).bits ((x7.fld 0).i) &&& BitVec.ofInt (IntKind.i64).bits (7 : Int)).toNat : Nat)) &&& ~~~ BitVec.ofInt (IntKind.i64).bits ((rt r3 0).i)).toNat : Nat)) != (0 : Int)) then
 some [(T.bool false)]
 else
 bif ((IntKind.wrap .i64 ((BitVec.ofInt (IntKind.i64).bits ((x7.fld 0).i) &&& BitVec.ofInt (IntKind.i64).bits (8 : Int)).toNat : Nat)) != (0 : Int)) then
 bif ((IntKind.wrap .i64 ((BitVec.ofInt (IntKind.i64).bits ((rt r3 0).i) &&& BitVec.ofInt (IntKind.i64).bits (4 : Int)).toNat : Nat)) == (0 : Int)) then
 some [(T.bool false)]
 else
 l_impl_recordOk_0 H x1 x2 x3 x4 x5 (T.int (IntKind.wrap .i64 (x6.i + (1 : Int)))) x7
 else
 l_impl_recordOk_0 H x1 x2 x3 x4 x5 (T.int (IntKind.wrap .i64 (x6.i + (1 : Int)))) x7
 else
 obind (C F_impl_plainOk [x1, (x4.nth x6.i.toNat)]) fun r2 =>
 bif (!(rt r2 0).b) then
 some [(T.bool false)]
 else
 obind (C F_impl_ableOf [x1, (x4.nth x6.i.toNat)]) fun r3 =>
 bif ((IntKind.wrap .i64 ((BitVec.ofInt (IntKind.i64).bits (IntKind.wrap .i64 ((BitVec.ofInt (IntKind.i64).bits ((x7.fld 0).i) &&& BitVec.ofInt (IntKind.i64).bits (7 : Int)).toNat : Nat)) &&& ~~~ BitVec.ofInt (IntKind.i64).bits ((rt r3 0).i)).toNat : Nat)) != (0 : Int)) then
 some [(T.bool false)]
 else
 bif ((IntKind.wrap .i64 ((BitVec.ofInt (IntKind.i64).bits ((x7.fld 0).i) &&& BitVec.ofInt (IntKind.i64).bits (8 : Int)).toNat : Nat)) != (0 : Int)) then
 bif ((IntKind.wrap .i64 ((BitVec.ofInt (IntKind.i64).bits ((rt r3 0).i) &&& BitVec.ofInt (IntKind.i64).bits (4 : Int)).toNat : Nat)) == (0 : Int)) then
 some [(T.bool false)]
 else
 l_impl_recordOk_0 H x1 x2 x3 x4 x5 (T.int (IntKind.wrap .i64 (x6.i + (1 : Int)))) x7
 else
 l_impl_recordOk_0 H x1 x2 x3 x4 x5 (T.int (IntKind.wrap .i64 (x6.i + (1 : Int)))) x7
 else
 obind (C F_impl_plainOk [x1, (x4.nth x6.i.toNat)]) fun r2 =>
 bif (!(rt r2 0).b) then
 some [(T.bool false)]
 else
 obind (C F_impl_ableOf [x1, (x4.nth x6.i.toNat)]) fun r3 =>
 bif ((IntKind.wrap .i64 ((BitVec.ofInt (IntKind.i64).bits (IntKind.wrap .i64 ((BitVec.ofInt (IntKind.i64).bits ((x7.fld 0).i) &&& BitVec.ofInt (IntKind.i64).bits (7 : Int)).toNat : Nat)) &&& ~~~ BitVec.ofInt (IntKind.i64).bits ((rt r3 0).i)).toNat : Nat)) != (0 : Int)) then
 some [(T.bool false)]
 else
 bif ((IntKind.wrap .i64 ((BitVec.ofInt (IntKind.i64).bits ((x7.fld 0).i) &&& BitVec.ofInt (IntKind.i64).bits (8 : Int)).toNat : Nat)) != (0 : Int)) then
 bif ((IntKind.wrap .i64 ((BitVec.ofInt (IntKind.i64).bits ((rt r3 0).i) &&& BitVec.ofInt (IntKind.i64).bits (4 : Int)).toNat : Nat)) == (0 : Int)) then
 some [(T.bool false)]
 else
 l_impl_recordOk_0 H x1 x2 x3 x4 x5 (T.int (IntKind.wrap .i64 (x6.i + (1 : Int)))) x7
 else
 l_impl_recordOk_0 H x1 x2 x3 x4 x5 (T.int (IntKind.wrap .i64 (x6.i + (1 : Int)))) x7
 else
 none
 else
 some [(T.bool true)]
theorem e_impl_recordOk_0 (H : List Item → CS → R) (C : CallsE) (x1 : T) (x2 : T) (x3 : T) (x4 : T) (x5 : T) (x6 : T) (x7 : T) : headE fi_impl_recordOk env H C (hdAt fi_impl_recordOk.body 0) ([(0, .val 27 x1), (1, .val 3 x2), (2, .val 3 x3), (7, .pref 63 7 []), (36, .val 57 x4), (37, .val 3 x5), (38, .val 3 x6)], [(7, ⟨63, x7, .fz, true⟩)]) =
 bif (decide (x6.i < x5.i)) then
 bif (decide (0 ≤ x6.i) && decide (x6.i.toNat < x4.es.length)) then
 obind (C F_impl_kindAt [(x4.nth x6.i.toNat)]) fun r1 =>
 bif ((!((rt r1 2).b == true)) || true) then
 bif ((!((rt r1 2).b == true)) || true) then
 bif ((!((rt r1 2).b == true)) || ((((rt r1 2).b == true) && ((rt r1 2).b == true)) && true)) then
 bif ((!((rt r1 2).b == true)) || ((rt r1 2).b == true)) then
 bif ((!(((rt r1 2).b == true) && ((decide ((rt r1 0).i > x2.i)) == false))) || true) then
 bif ((!(((rt r1 2).b == true) && ((decide ((rt r1 0).i > x2.i)) == false))) || true) then
 bif ((!(((rt r1 2).b == true) && ((decide ((rt r1 0).i > x2.i)) == false))) || (((((rt r1 2).b == true) && ((decide ((rt r1 0).i > x2.i)) == false)) && (((rt r1 2).b == true) && ((decide ((rt r1 0).i > x2.i)) == false))) && true)) then
 bif ((!(((rt r1 2).b == true) && ((decide ((rt r1 0).i > x2.i)) == false))) || (((rt r1 2).b == true) && ((decide ((rt r1 0).i > x2.i)) == false))) then
 bif ((!((((rt r1 2).b == true) && ((decide ((rt r1 0).i > x2.i)) == false)) && (((rt r1 0).i == x2.i) == true))) || true) then
 bif ((!((((rt r1 2).b == true) && ((decide ((rt r1 0).i > x2.i)) == false)) && (((rt r1 0).i == x2.i) == true))) || true) then
 bif ((!((((rt r1 2).b == true) && ((decide ((rt r1 0).i > x2.i)) == false)) && (((rt r1 0).i == x2.i) == true))) || ((((((rt r1 2).b == true) && ((decide ((rt r1 0).i > x2.i)) == false)) && (((rt r1 0).i == x2.i) == true)) && ((((rt r1 2).b == true) && ((decide ((rt r1 0).i > x2.i)) == false)) && (((rt r1 0).i == x2.i) == true))) && true)) then
 bif ((!(((rt r1 2).b == true) && ((decide ((rt r1 0).i > x2.i)) == false))) || ((((rt r1 2).b == true) && ((decide ((rt r1 0).i > x2.i)) == false)) && (bif ((rt r1 0).i == x2.i) then ((((rt r1 2).b == true) && ((decide ((rt r1 0).i > x2.i)) == false)) && (((rt r1 0).i == x2.i) == true)) else true))) then
 bif ((!((rt r1 2).b == true)) || (((rt r1 2).b == true) && (bif (decide ((rt r1 0).i > x2.i)) then true else (((rt r1 2).b == true) && ((decide ((rt r1 0).i > x2.i)) == false))))) then
 bif (bif (rt r1 2).b then ((rt r1 2).b == true) else true) then
 bif ((!((bif (rt r1 2).b then (bif (decide ((rt r1 0).i > x2.i)) then (T.bool true) else (bif ((rt r1 0).i == x2.i) then (T.bool (decide ((rt r1 1).i ≥ x3.i))) else (T.bool false))) else (T.bool false)).b == false)) || true) then
 bif ((!((bif (rt r1 2).b then (bif (decide ((rt r1 0).i > x2.i)) then (T.bool true) else (bif ((rt r1 0).i == x2.i) then (T.bool (decide ((rt r1 1).i ≥ x3.i))) else (T.bool false))) else (T.bool false)).b == false)) || true) then
 bif ((!((bif (rt r1 2).b then (bif (decide ((rt r1 0).i > x2.i)) then (T.bool true) else (bif ((rt r1 0).i == x2.i) then (T.bool (decide ((rt r1 1).i ≥ x3.i))) else (T.bool false))) else (T.bool false)).b == false)) || (((bif (rt r1 2).b then (bif (decide ((rt r1 0).i > x2.i)) then (T.bool true) else (bif ((rt r1 0).i == x2.i) then (T.bool (decide ((rt r1 1).i ≥ x3.i))) else (T.bool false))) else (T.bool false)).b == false) && (((bif (rt r1 2).b then (bif (decide ((rt r1 0).i > x2.i)) then (T.bool true) else (bif ((rt r1 0).i == x2.i) then (T.bool (decide ((rt r1 1).i ≥ x3.i))) else (T.bool false))) else (T.bool false)).b == false) && true))) then
 obind ((bif ((bif (rt r1 2).b then (bif (decide ((rt r1 0).i > x2.i)) then (T.bool true) else (bif ((rt r1 0).i == x2.i) then (T.bool (decide ((rt r1 1).i ≥ x3.i))) else (T.bool false))) else (T.bool false)).b == false) then C F_impl_plainOk [x1, (x4.nth x6.i.toNat)] else some [])) fun r2 =>
 bif ((!((bif (rt r1 2).b then (bif (decide ((rt r1 0).i > x2.i)) then (T.bool true) else (bif ((rt r1 0).i == x2.i) then (T.bool (decide ((rt r1 1).i ≥ x3.i))) else (T.bool false))) else (T.bool false)).b == false)) || ((bif (rt r1 2).b then (bif (decide ((rt r1 0).i > x2.i)) then (T.bool true) else (bif ((rt r1 0).i == x2.i) then (T.bool (decide ((rt r1 1).i ≥ x3.i))) else (T.bool false))) else (T.bool false)).b == false)) then
 bif (bif (bif (rt r1 2).b then (bif (decide ((rt r1 0).i > x2.i)) then (T.bool true) else (bif ((rt r1 0).i == x2.i) then (T.bool (decide ((rt r1 1).i ≥ x3.i))) else (T.bool false))) else (T.bool false)).b then true else ((bif (rt r1 2).b then (bif (decide ((rt r1 0).i > x2.i)) then (T.bool true) else (bif ((rt r1 0).i == x2.i) then (T.bool (decide ((rt r1 1).i ≥ x3.i))) else (T.bool false))) else (T.bool false)).b == false)) then
 bif (bif (bif (rt r1 2).b then (bif (decide ((rt r1 0).i > x2.i)) then (T.bool true) else (bif ((rt r1 0).i == x2.i) then (T.bool (decide ((rt r1 1).i ≥ x3.i))) else (T.bool false))) else (T.bool false)).b then (T.bool true) else (T.bool (!(rt r2 0).b))).b then
 some [(T.bool false)]
 else
 obind (C F_impl_ableOf [x1, (x4.nth x6.i.toNat)]) fun r3 =>
 bif ((!(((IntKind.wrap .i64 ((BitVec.ofInt (IntKind.i64).bits (IntKind.wrap .i64 ((BitVec.ofInt (IntKind.i64).bits ((x7.fld 0).i) &&& BitVec.ofInt (IntKind.i64).bits (7 : Int)).toNat : Nat)) &&& ~~~ BitVec.ofInt (IntKind.i64).bits ((rt r3 0).i)).toNat : Nat)) != (0 : Int)) == false)) || true) then
 bif ((!(((IntKind.wrap .i64 ((BitVec.ofInt (IntKind.i64).bits (IntKind.wrap .i64 ((BitVec.ofInt (IntKind.i64).bits ((x7.fld 0).i) &&& BitVec.ofInt (IntKind.i64).bits (7 : Int)).toNat : Nat)) &&& ~~~ BitVec.ofInt (IntKind.i64).bits ((rt r3 0).i)).toNat : Nat)) != (0 : Int)) == false)) || (((IntKind.wrap .i64 ((BitVec.ofInt (IntKind.i64).bits (IntKind.wrap .i64 ((BitVec.ofInt (IntKind.i64).bits ((x7.fld 0).i) &&& BitVec.ofInt (IntKind.i64).bits (7 : Int)).toNat : Nat)) &&& ~~~ BitVec.ofInt (IntKind.i64).bits ((rt r3 0).i)).toNat : Nat)) != (0 : Int)) == false)) then
 bif ((!(((IntKind.wrap .i64 ((BitVec.ofInt (IntKind.i64).bits (IntKind.wrap .i64 ((BitVec.ofInt (IntKind.i64).bits ((x7.fld 0).i) &&& BitVec.ofInt (IntKind.i64).bits (7 : Int)).toNat : Nat)) &&& ~~~ BitVec.ofInt (IntKind.i64).bits ((rt r3 0).i)).toNat : Nat)) != (0 : Int)) == false)) || (((((IntKind.wrap .i64 ((BitVec.ofInt (IntKind.i64).bits (IntKind.wrap .i64 ((BitVec.ofInt (IntKind.i64).bits ((x7.fld 0).i) &&& BitVec.ofInt (IntKind.i64).bits (7 : Int)).toNat : Nat)) &&& ~~~ BitVec.ofInt (IntKind.i64).bits ((rt r3 0).i)).toNat : Nat)) != (0 : Int)) == false) && true) && true)) then
 bif ((!(((IntKind.wrap .i64 ((BitVec.ofInt (IntKind.i64).bits (IntKind.wrap .i64 ((BitVec.ofInt (IntKind.i64).bits ((x7.fld 0).i) &&& BitVec.ofInt (IntKind.i64).bits (7 : Int)).toNat : Nat)) &&& ~~~ BitVec.ofInt (IntKind.i64).bits ((rt r3 0).i)).toNat : Nat)) != (0 : Int)) == false)) || (((((IntKind.wrap .i64 ((BitVec.ofInt (IntKind.i64).bits (IntKind.wrap .i64 ((BitVec.ofInt (IntKind.i64).bits ((x7.fld 0).i) &&& BitVec.ofInt (IntKind.i64).bits (7 : Int)).toNat : Nat)) &&& ~~~ BitVec.ofInt (IntKind.i64).bits ((rt r3 0).i)).toNat : Nat)) != (0 : Int)) == false) && true) && true)) then
 bif ((!(((IntKind.wrap .i64 ((BitVec.ofInt (IntKind.i64).bits (IntKind.wrap .i64 ((BitVec.ofInt (IntKind.i64).bits ((x7.fld 0).i) &&& BitVec.ofInt (IntKind.i64).bits (7 : Int)).toNat : Nat)) &&& ~~~ BitVec.ofInt (IntKind.i64).bits ((rt r3 0).i)).toNat : Nat)) != (0 : Int)) == false)) || (((IntKind.wrap .i64 ((BitVec.ofInt (IntKind.i64).bits (IntKind.wrap .i64 ((BitVec.ofInt (IntKind.i64).bits ((x7.fld 0).i) &&& BitVec.ofInt (IntKind.i64).bits (7 : Int)).toNat : Nat)) &&& ~~~ BitVec.ofInt (IntKind.i64).bits ((rt r3 0).i)).toNat : Nat)) != (0 : Int)) == false)) then
 bif ((!((((IntKind.wrap .i64 ((BitVec.ofInt (IntKind.i64).bits (IntKind.wrap .i64 ((BitVec.ofInt (IntKind.i64).bits ((x7.fld 0).i) &&& BitVec.ofInt (IntKind.i64).bits (7 : Int)).toNat : Nat)) &&& ~~~ BitVec.ofInt (IntKind.i64).bits ((rt r3 0).i)).toNat : Nat)) != (0 : Int)) == false) && (((IntKind.wrap .i64 ((BitVec.ofInt (IntKind.i64).bits ((x7.fld 0).i) &&& BitVec.ofInt (IntKind.i64).bits (8 : Int)).toNat : Nat)) != (0 : Int)) == true))) || true) then
 bif ((!((((IntKind.wrap .i64 ((BitVec.ofInt (IntKind.i64).bits (IntKind.wrap .i64 ((BitVec.ofInt (IntKind.i64).bits ((x7.fld 0).i) &&& BitVec.ofInt (IntKind.i64).bits (7 : Int)).toNat : Nat)) &&& ~~~ BitVec.ofInt (IntKind.i64).bits ((rt r3 0).i)).toNat : Nat)) != (0 : Int)) == false) && (((IntKind.wrap .i64 ((BitVec.ofInt (IntKind.i64).bits ((x7.fld 0).i) &&& BitVec.ofInt (IntKind.i64).bits (8 : Int)).toNat : Nat)) != (0 : Int)) == true))) || ((((((IntKind.wrap .i64 ((BitVec.ofInt (IntKind.i64).bits (IntKind.wrap .i64 ((BitVec.ofInt (IntKind.i64).bits ((x7.fld 0).i) &&& BitVec.ofInt (IntKind.i64).bits (7 : Int)).toNat : Nat)) &&& ~~~ BitVec.ofInt (IntKind.i64).bits ((rt r3 0).i)).toNat : Nat)) != (0 : Int)) == false) && (((IntKind.wrap .i64 ((BitVec.ofInt (IntKind.i64).bits ((x7.fld 0).i) &&& BitVec.ofInt (IntKind.i64).bits (8 : Int)).toNat : Nat)) != (0 : Int)) == true)) && true) && true)) then
 bif ((!((((IntKind.wrap .i64 ((BitVec.ofInt (IntKind.i64).bits (IntKind.wrap .i64 ((BitVec.ofInt (IntKind.i64).bits ((x7.fld 0).i) &&& BitVec.ofInt (IntKind.i64).bits (7 : Int)).toNat : Nat)) &&& ~~~ BitVec.ofInt (IntKind.i64).bits ((rt r3 0).i)).toNat : Nat)) != (0 : Int)) == false) && (((IntKind.wrap .i64 ((BitVec.ofInt (IntKind.i64).bits ((x7.fld 0).i) &&& BitVec.ofInt (IntKind.i64).bits (8 : Int)).toNat : Nat)) != (0 : Int)) == true))) || ((((((IntKind.wrap .i64 ((BitVec.ofInt (IntKind.i64).bits (IntKind.wrap .i64 ((BitVec.ofInt (IntKind.i64).bits ((x7.fld 0).i) &&& BitVec.ofInt (IntKind.i64).bits (7 : Int)).toNat : Nat)) &&& ~~~ BitVec.ofInt (IntKind.i64).bits ((rt r3 0).i)).toNat : Nat)) != (0 : Int)) == false) && (((IntKind.wrap .i64 ((BitVec.ofInt (IntKind.i64).bits ((x7.fld 0).i) &&& BitVec.ofInt (IntKind.i64).bits (8 : Int)).toNat : Nat)) != (0 : Int)) == true)) && true) && true)) then
 bif ((!(((IntKind.wrap .i64 ((BitVec.ofInt (IntKind.i64).bits (IntKind.wrap .i64 ((BitVec.ofInt (IntKind.i64).bits ((x7.fld 0).i) &&& BitVec.ofInt (IntKind.i64).bits (7 : Int)).toNat : Nat)) &&& ~~~ BitVec.ofInt (IntKind.i64).bits ((rt r3 0).i)).toNat : Nat)) != (0 : Int)) == false)) || ((((IntKind.wrap .i64 ((BitVec.ofInt (IntKind.i64).bits (IntKind.wrap .i64 ((BitVec.ofInt (IntKind.i64).bits ((x7.fld 0).i) &&& BitVec.ofInt (IntKind.i64).bits (7 : Int)).toNat : Nat)) &&& ~~~ BitVec.ofInt (IntKind.i64).bits ((rt r3 0).i)).toNat : Nat)) != (0 : Int)) == false) && (bif ((IntKind.wrap .i64 ((BitVec.ofInt (IntKind.i64).bits ((x7.fld 0).i) &&& BitVec.ofInt (IntKind.i64).bits (8 : Int)).toNat : Nat)) != (0 : Int)) then ((((IntKind.wrap .i64 ((BitVec.ofInt (IntKind.i64).bits (IntKind.wrap .i64 ((BitVec.ofInt (IntKind.i64).bits ((x7.fld 0).i) &&& BitVec.ofInt (IntKind.i64).bits (7 : Int)).toNat : Nat)) &&& ~~~ BitVec.ofInt (IntKind.i64).bits ((rt r3 0).i)).toNat : Nat)) != (0 : Int)) == false) && (((IntKind.wrap .i64 ((BitVec.ofInt (IntKind.i64).bits ((x7.fld 0).i) &&& BitVec.ofInt (IntKind.i64).bits (8 : Int)).toNat : Nat)) != (0 : Int)) == true)) else true))) then
 bif (bif ((IntKind.wrap .i64 ((BitVec.ofInt (IntKind.i64).bits (IntKind.wrap .i64 ((BitVec.ofInt (IntKind.i64).bits ((x7.fld 0).i) &&& BitVec.ofInt (IntKind.i64).bits (7 : Int)).toNat : Nat)) &&& ~~~ BitVec.ofInt (IntKind.i64).bits ((rt r3 0).i)).toNat : Nat)) != (0 : Int)) then true else (((IntKind.wrap .i64 ((BitVec.ofInt (IntKind.i64).bits (IntKind.wrap .i64 ((BitVec.ofInt (IntKind.i64).bits ((x7.fld 0).i) &&& BitVec.ofInt (IntKind.i64).bits (7 : Int)).toNat : Nat)) &&& ~~~ BitVec.ofInt (IntKind.i64).bits ((rt r3 0).i)).toNat : Nat)) != (0 : Int)) == false)) then
 bif (bif ((IntKind.wrap .i64 ((BitVec.ofInt (IntKind.i64).bits (IntKind.wrap .i64 ((BitVec.ofInt (IntKind.i64).bits ((x7.fld 0).i) &&& BitVec.ofInt (IntKind.i64).bits (7 : Int)).toNat : Nat)) &&& ~~~ BitVec.ofInt (IntKind.i64).bits ((rt r3 0).i)).toNat : Nat)) != (0 : Int)) then (T.bool true) else (bif ((IntKind.wrap .i64 ((BitVec.ofInt (IntKind.i64).bits ((x7.fld 0).i) &&& BitVec.ofInt (IntKind.i64).bits (8 : Int)).toNat : Nat)) != (0 : Int)) then (T.bool ((IntKind.wrap .i64 ((BitVec.ofInt (IntKind.i64).bits ((rt r3 0).i) &&& BitVec.ofInt (IntKind.i64).bits (4 : Int)).toNat : Nat)) == (0 : Int))) else (T.bool false))).b then
 some [(T.bool false)]
 else
 l_impl_recordOk_0 H x1 x2 x3 x4 x5 (T.int (IntKind.wrap .i64 (x6.i + (1 : Int)))) x7
 else
 none
 else
 none
 else
 none
 else
 none
 else
 none
 else
 none
 else
 none
 else
 none
 else
 none
 else
 none
 else
 none
 else
 none
 else
 none
 else
 none
 else
 none
 else
 none
 else
 none
 else
 none
 else
 none
 else
 none
 else
 none
 else
 none
 else
 none
 else
 none
 else
 none
 else
 none
 else
 none
 else
 none
 else
 none
 else
 none
 else
 some [(T.bool true)] := by kernel_rfl
theorem q_impl_recordOk_0 (H : List Item → CS → R) (C : CallsE) (x1 : T) (x2 : T) (x3 : T) (x4 : T) (x5 : T) (x6 : T) (x7 : T) : headE fi_impl_recordOk env H C (hdAt fi_impl_recordOk.body 0) ([(0, .val 27 x1), (1, .val 3 x2), (2, .val 3 x3), (7, .pref 63 7 []), (36, .val 57 x4), (37, .val 3 x5), (38, .val 3 x6)], [(7, ⟨63, x7, .fz, true⟩)]) = b_impl_recordOk_0 H C x1 x2 x3 x4 x5 x6 x7 := by
 refine (e_impl_recordOk_0 H C x1 x2 x3 x4 x5 x6 x7).trans ?_
 unfold b_impl_recordOk_0
 all_goals cases hc : ((decide (x6.i < x5.i))) with
 | true =>
  try simp only [bs]
  all_goals cases hc : ((decide (0 ≤ x6.i) && decide (x6.i.toNat < x4.es.length))) with
  | true =>
   try simp only [bs]
   all_goals refine obind_congr fun r1 => ?_
   all_goals try simp only [bs]
   all_goals cases hc : ((rt r1 2).b) with
   | true =>
    try simp only [bs]
    all_goals cases hc : ((decide ((rt r1 0).i > x2.i))) with
    | true =>
     try simp only [bs]
     all_goals cases hc : (((rt r1 0).i == x2.i)) with
     | true =>
      try simp only [bs]
      all_goals kernel_rfl
     | false =>
      try simp only [bs]
      all_goals kernel_rfl
    | false =>
     try simp only [bs]
     all_goals cases hc : (((rt r1 0).i == x2.i)) with
     | true =>
      try simp only [bs]
      all_goals cases hc : ((decide ((rt r1 1).i ≥ x3.i))) with
      | true =>
       try simp only [bs]
       all_goals kernel_rfl
      | false =>
       try simp only [bs]
       all_goals refine obind_congr fun r2 => ?_
       all_goals try simp only [bs]
       all_goals cases hc : ((!(rt r2 0).b)) with
       | true =>
        try simp only [bs]
        all_goals kernel_rfl
       | false =>
        try simp only [bs]
        all_goals refine obind_congr fun r3 => ?_
        all_goals try simp only [bs]
        all_goals cases hc : (((IntKind.wrap .i64 ((BitVec.ofInt (IntKind.i64).bits (IntKind.wrap .i64 ((BitVec.ofInt (IntKind.i64).bits ((x7.fld 0).i) &&& BitVec.ofInt (IntKind.i64).bits (7 : Int)).toNat : Nat)) &&& ~~~ BitVec.ofInt (IntKind.i64).bits ((rt r3 0).i)).toNat : Nat)) != (0 : Int))) with
        | true =>
         try simp only [bs]
         all_goals cases hc : (((IntKind.wrap .i64 ((BitVec.ofInt (IntKind.i64).bits ((x7.fld 0).i) &&& BitVec.ofInt (IntKind.i64).bits (8 : Int)).toNat : Nat)) != (0 : Int))) with
         | true =>
          try simp only [bs]
          all_goals kernel_rfl
         | false =>
          try simp only [bs]
          all_goals kernel_rfl
        | false =>
         try simp only [bs]
         all_goals cases hc : (((IntKind.wrap .i64 ((BitVec.ofInt (IntKind.i64).bits ((x7.fld 0).i) &&& BitVec.ofInt (IntKind.i64).bits (8 : Int)).toNat : Nat)) != (0 : Int))) with
         | true =>
          try simp only [bs]
          all_goals cases hc : (((IntKind.wrap .i64 ((BitVec.ofInt (IntKind.i64).bits ((rt r3 0).i) &&& BitVec.ofInt (IntKind.i64).bits (4 : Int)).toNat : Nat)) == (0 : Int))) with
          | true =>
           try simp only [bs]
           all_goals kernel_rfl
          | false =>
           try simp only [bs]
           all_goals kernel_rfl
         | false =>
          try simp only [bs]
          all_goals kernel_rfl
     | false =>
      try simp only [bs]
      all_goals refine obind_congr fun r2 => ?_
      all_goals try simp only [bs]
      all_goals cases hc : ((!(rt r2 0).b)) with
      | true =>
       try simp only [bs]
       all_goals kernel_rfl
      | false =>
       try simp only [bs]
       all_goals refine obind_congr fun r3 => ?_
       all_goals try simp only [bs]
       all_goals cases hc : (((IntKind.wrap .i64 ((BitVec.ofInt (IntKind.i64).bits (IntKind.wrap .i64 ((BitVec.ofInt (IntKind.i64).bits ((x7.fld 0).i) &&& BitVec.ofInt (IntKind.i64).bits (7 : Int)).toNat : Nat)) &&& ~~~ BitVec.ofInt (IntKind.i64).bits ((rt r3 0).i)).toNat : Nat)) != (0 : Int))) with
       | true =>
        try simp only [bs]
        all_goals cases hc : (((IntKind.wrap .i64 ((BitVec.ofInt (IntKind.i64).bits ((x7.fld 0).i) &&& BitVec.ofInt (IntKind.i64).bits (8 : Int)).toNat : Nat)) != (0 : Int))) with
        | true =>
         try simp only [bs]
         all_goals kernel_rfl
        | false =>
         try simp only [bs]
         all_goals kernel_rfl
       | false =>
        try simp only [bs]
        all_goals cases hc : (((IntKind.wrap .i64 ((BitVec.ofInt (IntKind.i64).bits ((x7.fld 0).i) &&& BitVec.ofInt (IntKind.i64).bits (8 : Int)).toNat : Nat)) != (0 : Int))) with
        | true =>
         try simp only [bs]
         all_goals cases hc : (((IntKind.wrap .i64 ((BitVec.ofInt (IntKind.i64).bits ((rt r3 0).i) &&& BitVec.ofInt (IntKind.i64).bits (4 : Int)).toNat : Nat)) == (0 : Int))) with
         | true =>
          try simp only [bs]
          all_goals kernel_rfl
         | false =>
          try simp only [bs]
          all_goals kernel_rfl
        | false =>
         try simp only [bs]
         all_goals kernel_rfl
   | false =>
    try simp only [bs]
    all_goals cases hc : ((decide ((rt r1 0).i > x2.i))) with
    | true =>
     try simp only [bs]
     all_goals cases hc : (((rt r1 0).i == x2.i)) with
     | true =>
      try simp only [bs]
      all_goals refine obind_congr fun r2 => ?_
      all_goals try simp only [bs]
      all_goals cases hc : ((!(rt r2 0).b)) with
      | true =>
       try simp only [bs]
       all_goals kernel_rfl
      | false =>
       try simp only [bs]
       all_goals refine obind_congr fun r3 => ?_
       all_goals try simp only [bs]
       all_goals cases hc : (((IntKind.wrap .i64 ((BitVec.ofInt (IntKind.i64).bits (IntKind.wrap .i64 ((BitVec.ofInt (IntKind.i64).bits ((x7.fld 0).i) &&& BitVec.ofInt (IntKind.i64).bits (7 : Int)).toNat : Nat)) &&& ~~~ BitVec.ofInt (IntKind.i64).bits ((rt r3 0).i)).toNat : Nat)) != (0 : Int))) with
       | true =>
        try simp only [bs]
        all_goals cases hc : (((IntKind.wrap .i64 ((BitVec.ofInt (IntKind.i64).bits ((x7.fld 0).i) &&& BitVec.ofInt (IntKind.i64).bits (8 : Int)).toNat : Nat)) != (0 : Int))) with
        | true =>
         try simp only [bs]
         all_goals kernel_rfl
        | false =>
         try simp only [bs]
         all_goals kernel_rfl
       | false =>
        try simp only [bs]
        all_goals cases hc : (((IntKind.wrap .i64 ((BitVec.ofInt (IntKind.i64).bits ((x7.fld 0).i) &&& BitVec.ofInt (IntKind.i64).bits (8 : Int)).toNat : Nat)) != (0 : Int))) with
        | true =>
         try simp only [bs]
         all_goals cases hc : (((IntKind.wrap .i64 ((BitVec.ofInt (IntKind.i64).bits ((rt r3 0).i) &&& BitVec.ofInt (IntKind.i64).bits (4 : Int)).toNat : Nat)) == (0 : Int))) with
         | true =>
          try simp only [bs]
          all_goals kernel_rfl
         | false =>
          try simp only [bs]
          all_goals kernel_rfl
        | false =>
         try simp only [bs]
         all_goals kernel_rfl
     | false =>
      try simp only [bs]
      all_goals refine obind_congr fun r2 => ?_
      all_goals try simp only [bs]
      all_goals cases hc : ((!(rt r2 0).b)) with
      | true =>
       try simp only [bs]
       all_goals kernel_rfl
      | false =>
       try simp only [bs]
       all_goals refine obind_congr fun r3 => ?_
       all_goals try simp only [bs]
       all_goals cases hc : (((IntKind.wrap .i64 ((BitVec.ofInt (IntKind.i64).bits (IntKind.wrap .i64 ((BitVec.ofInt (IntKind.i64).bits ((x7.fld 0).i) &&& BitVec.ofInt (IntKind.i64).bits (7 : Int)).toNat : Nat)) &&& ~~~ BitVec.ofInt (IntKind.i64).bits ((rt r3 0).i)).toNat : Nat)) != (0 : Int))) with
       | true =>
        try simp only [bs]
        all_goals cases hc : (((IntKind.wrap .i64 ((BitVec.ofInt (IntKind.i64).bits ((x7.fld 0).i) &&& BitVec.ofInt (IntKind.i64).bits (8 : Int)).toNat : Nat)) != (0 : Int))) with
        | true =>
         try simp only [bs]
         all_goals kernel_rfl
        | false =>
         try simp only [bs]
         all_goals kernel_rfl
       | false =>
        try simp only [bs]
        all_goals cases hc : (((IntKind.wrap .i64 ((BitVec.ofInt (IntKind.i64).bits ((x7.fld 0).i) &&& BitVec.ofInt (IntKind.i64).bits (8 : Int)).toNat : Nat)) != (0 : Int))) with
        | true =>
         try simp only [bs]
         all_goals cases hc : (((IntKind.wrap .i64 ((BitVec.ofInt (IntKind.i64).bits ((rt r3 0).i) &&& BitVec.ofInt (IntKind.i64).bits (4 : Int)).toNat : Nat)) == (0 : Int))) with
         | true =>
          try simp only [bs]
          all_goals kernel_rfl
         | false =>
          try simp only [bs]
          all_goals kernel_rfl
        | false =>
         try simp only [bs]
         all_goals kernel_rfl
    | false =>
     try simp only [bs]
     all_goals cases hc : (((rt r1 0).i == x2.i)) with
     | true =>
      try simp only [bs]
      all_goals refine obind_congr fun r2 => ?_
      all_goals try simp only [bs]
      all_goals cases hc : ((!(rt r2 0).b)) with
      | true =>
       try simp only [bs]
       all_goals kernel_rfl
      | false =>
       try simp only [bs]
       all_goals refine obind_congr fun r3 => ?_
       all_goals try simp only [bs]
       all_goals cases hc : (((IntKind.wrap .i64 ((BitVec.ofInt (IntKind.i64).bits (IntKind.wrap .i64 ((BitVec.ofInt (IntKind.i64).bits ((x7.fld 0).i) &&& BitVec.ofInt (IntKind.i64).bits (7 : Int)).toNat : Nat)) &&& ~~~ BitVec.ofInt (IntKind.i64).bits ((rt r3 0).i)).toNat : Nat)) != (0 : Int))) with
       | true =>
        try simp only [bs]
        all_goals cases hc : (((IntKind.wrap .i64 ((BitVec.ofInt (IntKind.i64).bits ((x7.fld 0).i) &&& BitVec.ofInt (IntKind.i64).bits (8 : Int)).toNat : Nat)) != (0 : Int))) with
        | true =>
         try simp only [bs]
         all_goals kernel_rfl
        | false =>
         try simp only [bs]
         all_goals kernel_rfl
       | false =>
        try simp only [bs]
        all_goals cases hc : (((IntKind.wrap .i64 ((BitVec.ofInt (IntKind.i64).bits ((x7.fld 0).i) &&& BitVec.ofInt (IntKind.i64).bits (8 : Int)).toNat : Nat)) != (0 : Int))) with
        | true =>
         try simp only [bs]
         all_goals cases hc : (((IntKind.wrap .i64 ((BitVec.ofInt (IntKind.i64).bits ((rt r3 0).i) &&& BitVec.ofInt (IntKind.i64).bits (4 : Int)).toNat : Nat)) == (0 : Int))) with
         | true =>
          try simp only [bs]
          all_goals kernel_rfl
         | false =>
          try simp only [bs]
          all_goals kernel_rfl
        | false =>
         try simp only [bs]
         all_goals kernel_rfl
     | false =>
      try simp only [bs]
      all_goals refine obind_congr fun r2 => ?_
      all_goals try simp only [bs]
      all_goals cases hc : ((!(rt r2 0).b)) with
      | true =>
       try simp only [bs]
       all_goals kernel_rfl
      | false =>
       try simp only [bs]
       all_goals refine obind_congr fun r3 => ?_
       all_goals try simp only [bs]
       all_goals cases hc : (((IntKind.wrap .i64 ((BitVec.ofInt (IntKind.i64).bits (IntKind.wrap .i64 ((BitVec.ofInt (IntKind.i64).bits ((x7.fld 0).i) &&& BitVec.ofInt (IntKind.i64).bits (7 : Int)).toNat : Nat)) &&& ~~~ BitVec.ofInt (IntKind.i64).bits ((rt r3 0).i)).toNat : Nat)) != (0 : Int))) with
       | true =>
        try simp only [bs]
        all_goals cases hc : (((IntKind.wrap .i64 ((BitVec.ofInt (IntKind.i64).bits ((x7.fld 0).i) &&& BitVec.ofInt (IntKind.i64).bits (8 : Int)).toNat : Nat)) != (0 : Int))) with
        | true =>
         try simp only [bs]
         all_goals kernel_rfl
        | false =>
         try simp only [bs]
         all_goals kernel_rfl
       | false =>
        try simp only [bs]
        all_goals cases hc : (((IntKind.wrap .i64 ((BitVec.ofInt (IntKind.i64).bits ((x7.fld 0).i) &&& BitVec.ofInt (IntKind.i64).bits (8 : Int)).toNat : Nat)) != (0 : Int))) with
        | true =>
         try simp only [bs]
         all_goals cases hc : (((IntKind.wrap .i64 ((BitVec.ofInt (IntKind.i64).bits ((rt r3 0).i) &&& BitVec.ofInt (IntKind.i64).bits (4 : Int)).toNat : Nat)) == (0 : Int))) with
         | true =>
          try simp only [bs]
          all_goals kernel_rfl
         | false =>
          try simp only [bs]
          all_goals kernel_rfl
        | false =>
         try simp only [bs]
         all_goals kernel_rfl
  | false =>
   try simp only [bs]
   all_goals kernel_rfl
 | false =>
  try simp only [bs]
  all_goals kernel_rfl
theorem y_impl_recordOk_0 (x1 : T) (x2 : T) (x3 : T) (x4 : T) (x5 : T) (x6 : T) (x7 : T) {r : List T} (h : Yields (fun k => b_impl_recordOk_0 (hl env k fi_impl_recordOk) (cl env k) x1 x2 x3 x4 x5 x6 x7) r) : Yields (fun k => l_impl_recordOk_0 (hl env k fi_impl_recordOk) x1 x2 x3 x4 x5 x6 x7) r := Yields.head (fun H C => q_impl_recordOk_0 H C x1 x2 x3 x4 x5 x6 x7) h
/- loop.example/heirlooms/impl.kindAt -/
noncomputable abbrev b_impl_kindAt (H : List Item → CS → R) (C : CallsE) (a0 : T) : R :=
 bif ((a0.s.size : Int) != (3 : Int)) then
 some [(T.int (0 : Int)), (T.int (0 : Int)), (T.bool false)]
 else
 bif (decide (0 ≤ (0 : Int)) && decide (0 < a0.s.size)) then
 bif ((a0.s.data.getD 0 0).toNat != (83 : Int)) then
 some [(T.int (0 : Int)), (T.int (0 : Int)), (T.bool false)]
 else
 bif (decide (0 ≤ (1 : Int)) && decide (1 < a0.s.size)) then
 bif (decide ((a0.s.data.getD 1 0).toNat < (48 : Int))) then
 some [(T.int (0 : Int)), (T.int (0 : Int)), (T.bool false)]
 else
 bif (decide ((a0.s.data.getD 1 0).toNat > (57 : Int))) then
 some [(T.int (0 : Int)), (T.int (0 : Int)), (T.bool false)]
 else
 bif (decide (0 ≤ (2 : Int)) && decide (2 < a0.s.size)) then
 bif (decide ((a0.s.data.getD 2 0).toNat < (48 : Int))) then
 some [(T.int (0 : Int)), (T.int (0 : Int)), (T.bool false)]
 else
 bif (decide ((a0.s.data.getD 2 0).toNat > (57 : Int))) then
 some [(T.int (0 : Int)), (T.int (0 : Int)), (T.bool false)]
 else
 some [(T.int (IntKind.wrap .i64 (IntKind.wrap .u8 ((a0.s.data.getD 1 0).toNat - (48 : Int))))), (T.int (IntKind.wrap .i64 (IntKind.wrap .u8 ((a0.s.data.getD 2 0).toNat - (48 : Int))))), (T.bool true)]
 else
 none
 else
 none
 else
 none
theorem e_impl_kindAt (H : List Item → CS → R) (C : CallsE) (a0 : T) : enterE fi_impl_kindAt env H C [a0] =
 bif ((!(((a0.s.size : Int) != (3 : Int)) == false)) || true) then
 bif ((!(((a0.s.size : Int) != (3 : Int)) == false)) || (((((a0.s.size : Int) != (3 : Int)) == false) && true) && (decide (0 ≤ (0 : Int)) && decide (0 < a0.s.size)))) then
 bif ((!(((a0.s.size : Int) != (3 : Int)) == false)) || (((((a0.s.size : Int) != (3 : Int)) == false) && true) && true)) then
 bif (bif ((a0.s.size : Int) != (3 : Int)) then true else (((a0.s.size : Int) != (3 : Int)) == false)) then
 bif ((!((bif ((a0.s.size : Int) != (3 : Int)) then (T.bool true) else (T.bool ((a0.s.data.getD 0 0).toNat != (83 : Int)))).b == false)) || true) then
 bif ((!((bif ((a0.s.size : Int) != (3 : Int)) then (T.bool true) else (T.bool ((a0.s.data.getD 0 0).toNat != (83 : Int)))).b == false)) || ((((bif ((a0.s.size : Int) != (3 : Int)) then (T.bool true) else (T.bool ((a0.s.data.getD 0 0).toNat != (83 : Int)))).b == false) && true) && (decide (0 ≤ (1 : Int)) && decide (1 < a0.s.size)))) then
 bif ((!((bif ((a0.s.size : Int) != (3 : Int)) then (T.bool true) else (T.bool ((a0.s.data.getD 0 0).toNat != (83 : Int)))).b == false)) || ((((bif ((a0.s.size : Int) != (3 : Int)) then (T.bool true) else (T.bool ((a0.s.data.getD 0 0).toNat != (83 : Int)))).b == false) && true) && true)) then
 bif (bif (bif ((a0.s.size : Int) != (3 : Int)) then (T.bool true) else (T.bool ((a0.s.data.getD 0 0).toNat != (83 : Int)))).b then true else ((bif ((a0.s.size : Int) != (3 : Int)) then (T.bool true) else (T.bool ((a0.s.data.getD 0 0).toNat != (83 : Int)))).b == false)) then
 bif ((!((bif (bif ((a0.s.size : Int) != (3 : Int)) then (T.bool true) else (T.bool ((a0.s.data.getD 0 0).toNat != (83 : Int)))).b then (T.bool true) else (T.bool (decide ((a0.s.data.getD 1 0).toNat < (48 : Int))))).b == false)) || true) then
 bif ((!((bif (bif ((a0.s.size : Int) != (3 : Int)) then (T.bool true) else (T.bool ((a0.s.data.getD 0 0).toNat != (83 : Int)))).b then (T.bool true) else (T.bool (decide ((a0.s.data.getD 1 0).toNat < (48 : Int))))).b == false)) || ((((bif (bif ((a0.s.size : Int) != (3 : Int)) then (T.bool true) else (T.bool ((a0.s.data.getD 0 0).toNat != (83 : Int)))).b then (T.bool true) else (T.bool (decide ((a0.s.data.getD 1 0).toNat < (48 : Int))))).b == false) && true) && (decide (0 ≤ (1 : Int)) && decide (1 < a0.s.size)))) then
 bif ((!((bif (bif ((a0.s.size : Int) != (3 : Int)) then (T.bool true) else (T.bool ((a0.s.data.getD 0 0).toNat != (83 : Int)))).b then (T.bool true) else (T.bool (decide ((a0.s.data.getD 1 0).toNat < (48 : Int))))).b == false)) || ((((bif (bif ((a0.s.size : Int) != (3 : Int)) then (T.bool true) else (T.bool ((a0.s.data.getD 0 0).toNat != (83 : Int)))).b then (T.bool true) else (T.bool (decide ((a0.s.data.getD 1 0).toNat < (48 : Int))))).b == false) && true) && true)) then
 bif (bif (bif (bif ((a0.s.size : Int) != (3 : Int)) then (T.bool true) else (T.bool ((a0.s.data.getD 0 0).toNat != (83 : Int)))).b then (T.bool true) else (T.bool (decide ((a0.s.data.getD 1 0).toNat < (48 : Int))))).b then true else ((bif (bif ((a0.s.size : Int) != (3 : Int)) then (T.bool true) else (T.bool ((a0.s.data.getD 0 0).toNat != (83 : Int)))).b then (T.bool true) else (T.bool (decide ((a0.s.data.getD 1 0).toNat < (48 : Int))))).b == false)) then
 bif ((!((bif (bif (bif ((a0.s.size : Int) != (3 : Int)) then (T.bool true) else (T.bool ((a0.s.data.getD 0 0).toNat != (83 : Int)))).b then (T.bool true) else (T.bool (decide ((a0.s.data.getD 1 0).toNat < (48 : Int))))).b then (T.bool true) else (T.bool (decide ((a0.s.data.getD 1 0).toNat > (57 : Int))))).b == false)) || true) then
 bif ((!((bif (bif (bif ((a0.s.size : Int) != (3 : Int)) then (T.bool true) else (T.bool ((a0.s.data.getD 0 0).toNat != (83 : Int)))).b then (T.bool true) else (T.bool (decide ((a0.s.data.getD 1 0).toNat < (48 : Int))))).b then (T.bool true) else (T.bool (decide ((a0.s.data.getD 1 0).toNat > (57 : Int))))).b == false)) || ((((bif (bif (bif ((a0.s.size : Int) != (3 : Int)) then (T.bool true) else (T.bool ((a0.s.data.getD 0 0).toNat != (83 : Int)))).b then (T.bool true) else (T.bool (decide ((a0.s.data.getD 1 0).toNat < (48 : Int))))).b then (T.bool true) else (T.bool (decide ((a0.s.data.getD 1 0).toNat > (57 : Int))))).b == false) && true) && (decide (0 ≤ (2 : Int)) && decide (2 < a0.s.size)))) then
 bif ((!((bif (bif (bif ((a0.s.size : Int) != (3 : Int)) then (T.bool true) else (T.bool ((a0.s.data.getD 0 0).toNat != (83 : Int)))).b then (T.bool true) else (T.bool (decide ((a0.s.data.getD 1 0).toNat < (48 : Int))))).b then (T.bool true) else (T.bool (decide ((a0.s.data.getD 1 0).toNat > (57 : Int))))).b == false)) || ((((bif (bif (bif ((a0.s.size : Int) != (3 : Int)) then (T.bool true) else (T.bool ((a0.s.data.getD 0 0).toNat != (83 : Int)))).b then (T.bool true) else (T.bool (decide ((a0.s.data.getD 1 0).toNat < (48 : Int))))).b then (T.bool true) else (T.bool (decide ((a0.s.data.getD 1 0).toNat > (57 : Int))))).b == false) && true) && true)) then
 bif (bif (bif (bif (bif ((a0.s.size : Int) != (3 : Int)) then (T.bool true) else (T.bool ((a0.s.data.getD 0 0).toNat != (83 : Int)))).b then (T.bool true) else (T.bool (decide ((a0.s.data.getD 1 0).toNat < (48 : Int))))).b then (T.bool true) else (T.bool (decide ((a0.s.data.getD 1 0).toNat > (57 : Int))))).b then true else ((bif (bif (bif ((a0.s.size : Int) != (3 : Int)) then (T.bool true) else (T.bool ((a0.s.data.getD 0 0).toNat != (83 : Int)))).b then (T.bool true) else (T.bool (decide ((a0.s.data.getD 1 0).toNat < (48 : Int))))).b then (T.bool true) else (T.bool (decide ((a0.s.data.getD 1 0).toNat > (57 : Int))))).b == false)) then
 bif ((!((bif (bif (bif (bif ((a0.s.size : Int) != (3 : Int)) then (T.bool true) else (T.bool ((a0.s.data.getD 0 0).toNat != (83 : Int)))).b then (T.bool true) else (T.bool (decide ((a0.s.data.getD 1 0).toNat < (48 : Int))))).b then (T.bool true) else (T.bool (decide ((a0.s.data.getD 1 0).toNat > (57 : Int))))).b then (T.bool true) else (T.bool (decide ((a0.s.data.getD 2 0).toNat < (48 : Int))))).b == false)) || true) then
 bif ((!((bif (bif (bif (bif ((a0.s.size : Int) != (3 : Int)) then (T.bool true) else (T.bool ((a0.s.data.getD 0 0).toNat != (83 : Int)))).b then (T.bool true) else (T.bool (decide ((a0.s.data.getD 1 0).toNat < (48 : Int))))).b then (T.bool true) else (T.bool (decide ((a0.s.data.getD 1 0).toNat > (57 : Int))))).b then (T.bool true) else (T.bool (decide ((a0.s.data.getD 2 0).toNat < (48 : Int))))).b == false)) || ((((bif (bif (bif (bif ((a0.s.size : Int) != (3 : Int)) then (T.bool true) else (T.bool ((a0.s.data.getD 0 0).toNat != (83 : Int)))).b then (T.bool true) else (T.bool (decide ((a0.s.data.getD 1 0).toNat < (48 : Int))))).b then (T.bool true) else (T.bool (decide ((a0.s.data.getD 1 0).toNat > (57 : Int))))).b then (T.bool true) else (T.bool (decide ((a0.s.data.getD 2 0).toNat < (48 : Int))))).b == false) && true) && (decide (0 ≤ (2 : Int)) && decide (2 < a0.s.size)))) then
 bif ((!((bif (bif (bif (bif ((a0.s.size : Int) != (3 : Int)) then (T.bool true) else (T.bool ((a0.s.data.getD 0 0).toNat != (83 : Int)))).b then (T.bool true) else (T.bool (decide ((a0.s.data.getD 1 0).toNat < (48 : Int))))).b then (T.bool true) else (T.bool (decide ((a0.s.data.getD 1 0).toNat > (57 : Int))))).b then (T.bool true) else (T.bool (decide ((a0.s.data.getD 2 0).toNat < (48 : Int))))).b == false)) || ((((bif (bif (bif (bif ((a0.s.size : Int) != (3 : Int)) then (T.bool true) else (T.bool ((a0.s.data.getD 0 0).toNat != (83 : Int)))).b then (T.bool true) else (T.bool (decide ((a0.s.data.getD 1 0).toNat < (48 : Int))))).b then (T.bool true) else (T.bool (decide ((a0.s.data.getD 1 0).toNat > (57 : Int))))).b then (T.bool true) else (T.bool (decide ((a0.s.data.getD 2 0).toNat < (48 : Int))))).b == false) && true) && true)) then
 bif (bif (bif (bif (bif (bif ((a0.s.size : Int) != (3 : Int)) then (T.bool true) else (T.bool ((a0.s.data.getD 0 0).toNat != (83 : Int)))).b then (T.bool true) else (T.bool (decide ((a0.s.data.getD 1 0).toNat < (48 : Int))))).b then (T.bool true) else (T.bool (decide ((a0.s.data.getD 1 0).toNat > (57 : Int))))).b then (T.bool true) else (T.bool (decide ((a0.s.data.getD 2 0).toNat < (48 : Int))))).b then true else ((bif (bif (bif (bif ((a0.s.size : Int) != (3 : Int)) then (T.bool true) else (T.bool ((a0.s.data.getD 0 0).toNat != (83 : Int)))).b then (T.bool true) else (T.bool (decide ((a0.s.data.getD 1 0).toNat < (48 : Int))))).b then (T.bool true) else (T.bool (decide ((a0.s.data.getD 1 0).toNat > (57 : Int))))).b then (T.bool true) else (T.bool (decide ((a0.s.data.getD 2 0).toNat < (48 : Int))))).b == false)) then
 bif (bif (bif (bif (bif (bif ((a0.s.size : Int) != (3 : Int)) then (T.bool true) else (T.bool ((a0.s.data.getD 0 0).toNat != (83 : Int)))).b then (T.bool true) else (T.bool (decide ((a0.s.data.getD 1 0).toNat < (48 : Int))))).b then (T.bool true) else (T.bool (decide ((a0.s.data.getD 1 0).toNat > (57 : Int))))).b then (T.bool true) else (T.bool (decide ((a0.s.data.getD 2 0).toNat < (48 : Int))))).b then (T.bool true) else (T.bool (decide ((a0.s.data.getD 2 0).toNat > (57 : Int))))).b then
 some [(T.int (0 : Int)), (T.int (0 : Int)), (T.bool false)]
 else
 bif (decide (0 ≤ (1 : Int)) && decide (1 < a0.s.size)) then
 bif (decide (0 ≤ (2 : Int)) && decide (2 < a0.s.size)) then
 some [(T.int (IntKind.wrap .i64 (IntKind.wrap .u8 ((a0.s.data.getD 1 0).toNat - (48 : Int))))), (T.int (IntKind.wrap .i64 (IntKind.wrap .u8 ((a0.s.data.getD 2 0).toNat - (48 : Int))))), (T.bool true)]
 else
 none
 else
 none
 else
 none
 else
 none
 else
 none
 else
 none
 else
 none
 else
 none
 else
 none
 else
 none
 else
 none
 else
 none
 else
 none
 else
 none
 else
 none
 else
 none
 else
 none
 else
 none
 else
 none
 else
 none
 else
 none
 else
 none := by kernel_rfl
end Go.Proofs.YtfelodpbejdhlaaDoor.Ra
