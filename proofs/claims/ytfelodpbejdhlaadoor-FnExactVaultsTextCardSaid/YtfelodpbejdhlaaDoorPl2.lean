/- A verified evaluator for the program, part Pl2 of this claim. -/
import Derived.Test.YtfelodpbejdhlaaDoorPl1
import Derived.Lib.ItoaLen
set_option linter.unusedSimpArgs false
set_option linter.unusedVariables false
/- Plain side: all kinds; values; vaults; counts: both sides say the same. -/
namespace Go.Proofs.YtfelodpbejdhlaaDoor.Ra
open Go

theorem in_s (x lo hi : Int) : Yields (fun k => cl env k F_spec_l6In [.int x, .int lo, .int hi]) [.bool (decide (x ≥ lo) && decide (x ≤ hi))] := by
  refine y_spec_l6In _ _ _ (Yields.ite (fun h => ?_) (fun h => ?_))
  · rw [show decide (x ≥ lo) = true from h, Bool.true_and]; exact Yields.some _
  · rw [show decide (x ≥ lo) = false from h, Bool.false_and]; exact Yields.some _

section
variable {ks : List T} {b : Nat}
theorem rec_shape (hk : ∀ x ∈ ks, IsRecs b x) {m k : Nat} (hm : m < ks.length) (hkk : k < ((T.sl ks).nth m).es.length) : ∃ (a : Int) (fs : List T), ((T.sl ks).nth m).nth k = .st [.int a, .sl fs] ∧ fs.length ≤ b ∧ ∀ x ∈ fs, IsStr x := by
  obtain ⟨rs, h1, h2, h3⟩ := hk _ (List.getElem_mem hm)
  rw [nth_lt hm, h1] at hkk ⊢
  have hkr : k < rs.length := hkk
  rw [nth_lt hkr]
  obtain ⟨a, fs, e1, _, _, e2, e3⟩ := h3 _ (List.getElem_mem hkr)
  exact ⟨a, fs, e1, e2, e3⟩

theorem rec_same (hk : ∀ x ∈ ks, IsRecs b x) (hb : b ≤ maxLen) {m k : Nat} (hm : m < ks.length) (hkk : k < ((T.sl ks).nth m).es.length) (he : Early ks m k) :
    ∃ c, Yields (fun r => cl env r F_spec_l1Record [.sl ks, .int (m : Int), .int (k : Int)]) [.bool c] ∧ Yields (fun r => cl env r F_impl_recordOk [.sl ks, .int (m : Int), .int (k : Int)]) [.bool c] ∧
      (c = true → ∃ a : Int, (((T.sl ks).nth m).nth k).fld 0 = .int a ∧ 0 ≤ a ∧ a ≤ 15) := by
  obtain ⟨a, fs, hr, hf1, hf2⟩ := rec_shape hk hm hkk
  have hrec : ((T.sl ks).nth (T.int (m : Int)).i.toNat).nth ((T.int (k : Int)).i.toNat) = .st [.int a, .sl fs] := by
    show ((T.sl ks).nth ((m : Int).toNat)).nth ((k : Int).toNat) = _
    rw [Int.toNat_natCast, Int.toNat_natCast]; exact hr
  have spec : ∀ {c : Bool} {Z : Nat → R}, ((decide (a ≥ 0) && decide (a ≤ 15)) = false → c = false) → ((decide (a ≥ 0) && decide (a ≤ 15)) = true → (fs.length : Int) > 3 → c = false) →
      ((decide (a ≥ 0) && decide (a ≤ 15)) = true → ¬ (fs.length : Int) > 3 → Yields (fun r => l_spec_l1Record_0 (Ra.hl env r fi_spec_l1Record) (.sl ks) (.int (m : Int)) (.int (k : Int)) (.int 0) (.st [.int a, .sl fs])) [.bool c]) →
      Yields (fun r => cl env r F_spec_l1Record [.sl ks, .int (m : Int), .int (k : Int)]) [.bool c] := by
    intro c Z h1 h2 h3
    refine y_spec_l1Record _ _ _ (Yields.tt (in_tt hm) (Yields.tt (rec_at hkk) ?_))
    rw [hrec]
    refine Yields.obind (in_s a 0 15) ?_
    cases hin : (decide (a ≥ 0) && decide (a ≤ 15)) with
    | false => rw [h1 hin]; exact Yields.tt rfl (Yields.some _)
    | true =>
      refine Yields.ff rfl (Yields.ite (fun e => ?_) (fun e => h3 hin (of_decide_eq_false e)))
      rw [h2 hin (of_decide_eq_true e)]; exact Yields.some _
  have impl : ∀ {c : Bool} {Z : Nat → R}, ((decide (a ≥ 0) && decide (a ≤ 15)) = false → c = false) → ((decide (a ≥ 0) && decide (a ≤ 15)) = true → (fs.length : Int) > 3 → c = false) →
      ((decide (a ≥ 0) && decide (a ≤ 15)) = true → ¬ (fs.length : Int) > 3 → Yields (fun r => l_impl_recordOk_0 (Ra.hl env r fi_impl_recordOk) (.sl ks) (.int (m : Int)) (.int (k : Int)) (.sl fs) (.int (fs.length : Int)) (.int 0) (.st [.int a, .sl fs])) [.bool c]) →
      Yields (fun r => cl env r F_impl_recordOk [.sl ks, .int (m : Int), .int (k : Int)]) [.bool c] := by
    intro c Z h1 h2 h3
    refine y_impl_recordOk _ _ _ (Yields.tt (in_tt hm) (Yields.tt (rec_at hkk) ?_))
    rw [hrec]
    refine Yields.ite (fun e => ?_) (fun e => Yields.ite (fun e2 => ?_) (fun e2 => ?_))
    · have e' : a < 0 := of_decide_eq_true e
      rw [h1 (by rw [decide_eq_false (by omega : ¬ a ≥ 0)]; rfl)]; exact Yields.some _
    · have e' : a > 15 := of_decide_eq_true e2
      rw [h1 (by rw [decide_eq_false (by omega : ¬ a ≤ 15), Bool.and_false])]; exact Yields.some _
    · have e1' : ¬ a < 0 := of_decide_eq_false e
      have e2' : ¬ a > 15 := of_decide_eq_false e2
      have hin : (decide (a ≥ 0) && decide (a ≤ 15)) = true := by rw [decide_eq_true (by omega : a ≥ 0), decide_eq_true (by omega : a ≤ 15)]; rfl
      refine Yields.ite (fun e3 => ?_) (fun e3 => h3 hin (of_decide_eq_false e3))
      rw [h2 hin (of_decide_eq_true e3)]; exact Yields.some _
  have hfld : (((T.sl ks).nth m).nth k).fld 0 = .int a := by rw [hr]; rfl
  cases hin : (decide (a ≥ 0) && decide (a ≤ 15)) with
  | false => exact ⟨false, spec (Z := fun _ => none) (fun _ => rfl) (fun h => by rw [hin] at h; cases h) (fun h => by rw [hin] at h; cases h), impl (Z := fun _ => none) (fun _ => rfl) (fun h => by rw [hin] at h; cases h) (fun h => by rw [hin] at h; cases h), fun h => by cases h⟩
  | true =>
    have hr2 : 0 ≤ a ∧ a ≤ 15 := by rw [Bool.and_eq_true, decide_eq_true_eq, decide_eq_true_eq] at hin; exact ⟨hin.1, hin.2⟩
    by_cases h3 : (fs.length : Int) > 3
    · exact ⟨false, spec (Z := fun _ => none) (fun _ => rfl) (fun _ _ => rfl) (fun _ h => absurd h3 h), impl (Z := fun _ => none) (fun _ => rfl) (fun _ _ => rfl) (fun _ h => absurd h3 h), fun h => by cases h⟩
    · obtain ⟨c, y1, y2⟩ := fields_same he hr2 (Nat.le_trans hf1 hb) hf2
      exact ⟨c, spec (Z := fun _ => none) (fun h => by rw [hin] at h; cases h) (fun _ h => absurd h h3) (fun _ _ => y1), impl (Z := fun _ => none) (fun h => by rw [hin] at h; cases h) (fun _ h => absurd h h3) (fun _ _ => y2), fun _ => ⟨a, hfld, hr2⟩⟩

/-- Each of the first modules has few records. -/
def Small (ks : List T) (m : Nat) : Prop := ∀ i, i < m → i < ks.length → ((T.sl ks).nth i).es.length ≤ 3
def KRes (ks : List T) (r : List T) : Prop := ∃ p q : Int, r = [.int p, .int q] ∧ ((p = -1 ∧ Early ks ks.length 0 ∧ Small ks ks.length) ∨ 0 ≤ p)
theorem kinds_loop (hk : ∀ x ∈ ks, IsRecs b x) (hb : b ≤ maxLen) (hl : ks.length ≤ b) : ∀ (n m : Nat), m + n = ks.length → Early ks m 0 → Small ks m →
    ∃ r, KRes ks r ∧ Yields (fun k => l_spec_KindsBad_0 (Ra.hl env k fi_spec_KindsBad) (.sl ks) (.int (m : Int))) r ∧
      Yields (fun k => l_impl_KindsBad_0 (Ra.hl env k fi_impl_KindsBad) (.sl ks) (.sl ks) (.int (ks.length : Int)) (.int (m : Int))) r := by
  intro n
  induction n with
  | zero =>
    intro m hm he hsm
    have hmk : m = ks.length := by omega
    subst hmk
    refine ⟨[.int (-1), .int (-1)], ⟨-1, -1, rfl, .inl ⟨rfl, he, hsm⟩⟩, y_spec_KindsBad_0 _ _ (Yields.ff (lt_ff (by omega)) (Yields.some _)), y_impl_KindsBad_0 _ _ _ _ (Yields.ff ?_ (Yields.some _))⟩
    rw [lt_nat]; exact decide_eq_false (by omega)
  | succ n ih =>
    intro m hm he hsm
    have hlt : m < ks.length := by omega
    obtain ⟨rs, hrs, hrl, hrr⟩ := hk _ (List.getElem_mem hlt)
    have hnth : ((T.sl ks).nth (T.int (m : Int)).i.toNat) = .sl rs := by rw [idx_ok hlt, hrs]
    have hnth' : ((T.sl ks).nth m) = .sl rs := by rw [nth_lt hlt, hrs]
    have c1 : decide ((T.int (m : Int)).i < (T.int (ks.length : Int)).i) = true := by rw [lt_nat]; exact decide_eq_true hlt
    have hnx := next_ok hlt (Nat.le_trans hl hb)
    -- the inner loop
    have inner : rs.length ≤ 3 → ∀ (n' k : Nat), k + n' = rs.length → Early ks m k →
        ∃ r, KRes ks r ∧ Yields (fun r => l_spec_KindsBad_1 (Ra.hl env r fi_spec_KindsBad) (.sl ks) (.int (m : Int)) (.int (k : Int))) r ∧
          Yields (fun r => l_impl_KindsBad_1 (Ra.hl env r fi_impl_KindsBad) (.sl ks) (.int (m : Int)) (.sl ks) (.int (ks.length : Int)) (.int (m : Int)) (.int (rs.length : Int)) (.int (k : Int))) r := by
      intro h3 n'
      have hsm' : Small ks (m + 1) := fun i hi hi2 => by
        by_cases him : i < m
        · exact hsm i him hi2
        · have : i = m := by omega
          subst this
          rw [hnth']; exact h3
      induction n' with
      | zero =>
        intro k hkr hek
        have hkk : k = rs.length := by omega
        subst hkk
        have he' : Early ks (m + 1) 0 := by
          intro i j hij hi hj
          rcases hij with h | ⟨_, h⟩
          · by_cases him : i < m
            · exact he i j (.inl him) hi hj
            · have : i = m := by omega
              subst this
              rw [hnth'] at hj
              exact hek i j (.inr ⟨rfl, hj⟩) hi (by rw [hnth']; exact hj)
          · omega
        obtain ⟨r, r1, y1, y2⟩ := ih (m + 1) (by omega) he' hsm'
        refine ⟨r, r1, y_spec_KindsBad_1 _ _ _ (Yields.tt (in_tt hlt) (Yields.ff ?_ ?_)), y_impl_KindsBad_1 _ _ _ _ _ _ _ (Yields.ff ?_ ?_)⟩
        · rw [hnth]; exact lt_ff (by omega)
        · rw [hnx]; exact y1
        · rw [lt_nat]; exact decide_eq_false (by omega)
        · rw [hnx]; exact y2
      | succ n' ihk =>
        intro k hkr hek
        have hkl : k < rs.length := by omega
        have hkk : k < ((T.sl ks).nth m).es.length := by rw [hnth']; exact hkl
        obtain ⟨c, z1, z2, z3⟩ := rec_same hk hb hlt hkk hek
        have c2 : decide ((T.int (k : Int)).i < (T.int (rs.length : Int)).i) = true := by rw [lt_nat]; exact decide_eq_true hkl
        have c3 : decide ((T.int (k : Int)).i < ((((T.sl ks).nth (T.int (m : Int)).i.toNat).es).length : Int)) = true := by rw [hnth]; exact lt_tt hkl
        cases c with
        | false =>
          exact ⟨[.int (m : Int), .int (k : Int)], ⟨m, k, rfl, .inr (by omega)⟩, y_spec_KindsBad_1 _ _ _ (Yields.tt (in_tt hlt) (Yields.tt c3 (Yields.obind z1 (Yields.tt rfl (Yields.some _))))),
            y_impl_KindsBad_1 _ _ _ _ _ _ _ (Yields.tt c2 (Yields.obind z2 (Yields.tt rfl (Yields.some _))))⟩
        | true =>
          have hek' : Early ks m (k + 1) := by
            intro i j hij hi hj
            rcases hij with h | ⟨h1, h2⟩
            · exact hek i j (.inl h) hi hj
            · by_cases hjk : j < k
              · exact hek i j (.inr ⟨h1, hjk⟩) hi hj
              · have : j = k := by omega
                subst this; subst h1
                exact z3 rfl
          obtain ⟨r, r1, y1, y2⟩ := ihk (k + 1) (by omega) hek'
          have hnk := next_ok hkl (Nat.le_trans hrl hb)
          refine ⟨r, r1, y_spec_KindsBad_1 _ _ _ (Yields.tt (in_tt hlt) (Yields.tt c3 (Yields.obind z1 (Yields.ff rfl ?_)))), y_impl_KindsBad_1 _ _ _ _ _ _ _ (Yields.tt c2 (Yields.obind z2 (Yields.ff rfl ?_)))⟩
          · rw [hnk]; exact y1
          · rw [hnk]; exact y2
    by_cases h3 : (rs.length : Int) > 3
    · refine ⟨[.int (m : Int), .int 3], ⟨m, 3, rfl, .inr (by omega)⟩, y_spec_KindsBad_0 _ _ (Yields.tt (lt_tt hlt) (Yields.tt (in_tt hlt) (Yields.tt ?_ (Yields.some _)))),
        y_impl_KindsBad_0 _ _ _ _ (Yields.tt c1 (Yields.tt (in_tt hlt) (Yields.tt ?_ (Yields.some _))))⟩
      · rw [hnth]; exact decide_eq_true h3
      · rw [hnth]; exact decide_eq_true h3
    · obtain ⟨r, r1, y1, y2⟩ := inner (by omega) rs.length 0 (by omega) he
      refine ⟨r, r1, y_spec_KindsBad_0 _ _ (Yields.tt (lt_tt hlt) (Yields.tt (in_tt hlt) (Yields.ff ?_ ?_))), y_impl_KindsBad_0 _ _ _ _ (Yields.tt c1 (Yields.tt (in_tt hlt) (Yields.ff ?_ ?_)))⟩
      · rw [hnth]; exact decide_eq_false h3
      · exact y1
      · rw [hnth]; exact decide_eq_false h3
      · rw [hnth]; exact y2

theorem kindsBad_same (hk : ∀ x ∈ ks, IsRecs b x) (hb : b ≤ maxLen) (hl : ks.length ≤ b) : ∃ r, (KRes ks r ∧ (ks.length ≤ 3 ∨ r = [.int 3, .int 0])) ∧ Yields (fun k => cl env k F_spec_KindsBad [.sl ks]) r ∧ Yields (fun k => cl env k F_impl_KindsBad [.sl ks]) r := by
  by_cases h3 : (ks.length : Int) > 3
  · exact ⟨[.int 3, .int 0], ⟨⟨3, 0, rfl, .inr (by omega)⟩, .inr rfl⟩, y_spec_KindsBad _ (Yields.tt (decide_eq_true h3) (Yields.some _)), y_impl_KindsBad _ (Yields.tt (decide_eq_true h3) (Yields.some _))⟩
  · obtain ⟨r, r1, y1, y2⟩ := kinds_loop hk hb hl ks.length 0 (by omega) (fun i j h => by omega) (fun i h => by omega)
    exact ⟨r, ⟨r1, .inl (by omega)⟩, y_spec_KindsBad _ (Yields.ff (decide_eq_false h3) y1), y_impl_KindsBad _ (Yields.ff (decide_eq_false h3) y2)⟩
theorem kindsOk_small (hk : ∀ x ∈ ks, IsRecs b x) (hb : b ≤ maxLen) (hl : ks.length ≤ b) : ∃ c, Yields (fun k => cl env k F_spec_KindsOk [.sl ks]) [.bool c] ∧ Yields (fun k => cl env k F_impl_KindsOk [.sl ks]) [.bool c] ∧ (c = true → Early ks ks.length 0 ∧ Small ks ks.length ∧ ks.length ≤ 3) := by
  obtain ⟨r, ⟨⟨p, q, rfl, hr⟩, h3⟩, y1, y2⟩ := kindsBad_same hk hb hl
  rcases hr with ⟨rfl, he, hs⟩ | hp
  · exact ⟨true, y_spec_KindsOk _ (Yields.obind y1 (Yields.some _)), y_impl_KindsOk _ (Yields.obind y2 (Yields.some _)), fun _ => ⟨he, hs, h3.elim id fun h => by cases h⟩⟩
  · refine ⟨false, y_spec_KindsOk _ (Yields.obind y1 ?_), y_impl_KindsOk _ (Yields.obind y2 ?_), fun h => by cases h⟩
    · show Yields (fun _ => some [T.bool (decide (p < 0))]) _
      rw [decide_eq_false (by omega)]; exact Yields.some _
    · show Yields (fun _ => some [T.bool (p == -1)]) _
      rw [show (p == -1) = false from beq_eq_false_iff_ne.2 (by omega)]; exact Yields.some _
theorem kindsOk_same (hk : ∀ x ∈ ks, IsRecs b x) (hb : b ≤ maxLen) (hl : ks.length ≤ b) : ∃ c, Yields (fun k => cl env k F_spec_KindsOk [.sl ks]) [.bool c] ∧ Yields (fun k => cl env k F_impl_KindsOk [.sl ks]) [.bool c] ∧ (c = true → Early ks ks.length 0) := by
  obtain ⟨c, y1, y2, y3⟩ := kindsOk_small hk hb hl
  exact ⟨c, y1, y2, fun h => (y3 h).1⟩
end
end Go.Proofs.YtfelodpbejdhlaaDoor.Ra
/- Plain side: values, vaults, counts; the law. -/
namespace Go.Proofs.YtfelodpbejdhlaaDoor.Ra
open Go

theorem val_shape {b : Nat} {v : T} (h : IsVal b v) : ∃ (s : ByteArray) (n : Int) (ps is : List T), v = .st [.str s, .int n, .sl ps, .sl is] ∧ ps.length ≤ b ∧ is.length ≤ b ∧ (∀ x ∈ ps, IsVal b x) ∧ (∀ x ∈ is, ∃ m : Int, x = .int m) ∧ s.size ≤ maxLen ∧ -9223372036854775808 ≤ n ∧ n ≤ 9223372036854775807 := by
  cases h with
  | mk h1 h2 h3 h4 h5 h6 h7 => exact ⟨_, _, _, _, rfl, h4, h5, h7, h6, h1, h2, h3⟩
theorem len0 (l : List T) : (((l.length : Int) == (0 : Int)) : Bool) = l.isEmpty := by
  cases l with
  | nil => rfl
  | cons a l => rw [show (((a :: l).length : Int) == 0) = false from beq_eq_false_iff_ne.2 (by simp; omega)]; rfl
theorem lenpos (l : List T) : decide ((l.length : Int) > (0 : Int)) = !l.isEmpty := by
  cases l with
  | nil => rfl
  | cons a l => rw [decide_eq_true (by simp)]; rfl

/-- A value that is one, of some kinds. -/
inductive FitV : T → Prop
  | num {s : ByteArray} {n : Int} : (s.toList == (⟨#[110]⟩ : ByteArray).toList) = true → 0 ≤ n → n ≤ 1000000 → FitV (.st [.str s, .int n, .sl [], .sl []])
  | bit {s : ByteArray} {n : Int} : (s.toList == (⟨#[110]⟩ : ByteArray).toList) = false → (s.toList == (⟨#[98]⟩ : ByteArray).toList) = true → 0 ≤ n → n ≤ 1 → FitV (.st [.str s, .int n, .sl [], .sl []])
  | own {s : ByteArray} {n : Int} : (s.toList == (⟨#[110]⟩ : ByteArray).toList) = false → (s.toList == (⟨#[98]⟩ : ByteArray).toList) = false → (s.toList == (⟨#[111]⟩ : ByteArray).toList) = true → 0 ≤ n → n ≤ 3 → FitV (.st [.str s, .int n, .sl [], .sl []])
  | made {s : ByteArray} {n : Int} {ps : List T} : (s.toList == (⟨#[110]⟩ : ByteArray).toList) = false → (s.toList == (⟨#[98]⟩ : ByteArray).toList) = false → (s.toList == (⟨#[111]⟩ : ByteArray).toList) = false → s.size = 3 → (∀ x ∈ ps, FitV x) →
      FitV (.st [.str s, .int n, .sl ps, .sl []])
theorem fit_base {ps is : List T} {n hi : Int} (h : (ps.isEmpty && is.isEmpty && (decide (n ≥ 0) && decide (n ≤ hi))) = true) : ps = [] ∧ is = [] ∧ 0 ≤ n ∧ n ≤ hi := by
  simp only [Bool.and_eq_true, decide_eq_true_eq, List.isEmpty_iff] at h
  exact ⟨h.1.1, h.1.2, h.2.1, h.2.2⟩
section
variable {ks : List T} {b : Nat}
theorem l2plain (s : T) (n : T) (ps is : List T) : Yields (fun k => cl env k F_spec_l2Plain [.st [s, n, .sl ps, .sl is]]) [.bool (ps.isEmpty && is.isEmpty)] := by
  have e2 : ((((T.st [s, n, .sl ps, .sl is]).fld 2).es).length : Int) = (ps.length : Int) := rfl
  have e3 : ((((T.st [s, n, .sl ps, .sl is]).fld 3).es).length : Int) = (is.length : Int) := rfl
  refine y_spec_l2Plain _ ?_
  unfold b_spec_l2Plain
  rw [e2, e3, len0, len0]
  cases ps.isEmpty with
  | true => exact Yields.tt rfl (Yields.some _)
  | false => exact Yields.ff rfl (Yields.some _)

theorem fits_fit (hk : ∀ x ∈ ks, IsRecs b x) (hb : b ≤ maxLen) : ∀ v, IsVal b v → ∃ c, Yields (fun k => cl env k F_spec_l2Ok [.sl ks, v]) [.bool c] ∧ Yields (fun k => cl env k F_impl_valueFits [.sl ks, v]) [.bool c] ∧
    (c = true → (baseB (v.fld 0).s || kinB ks (v.fld 0).s) = true) ∧ (c = true → FitV v) := by
  intro v h
  induction h with
  | @mk s n ps is h1 h2 h3 h4 h5 h6 h7 ih =>
    have e0 : ((T.st [.str s, .int n, .sl ps, .sl is]).fld 0).s = s := rfl
    have e2 : ((((T.st [.str s, .int n, .sl ps, .sl is]).fld 2).es).length : Int) = (ps.length : Int) := rfl
    have e3 : decide (((((T.st [.str s, .int n, .sl ps, .sl is]).fld 3).es).length : Int) > (0 : Int)) = !is.isEmpty := lenpos is
    rw [e0]
    -- the base kinds
    have basic : ∀ (hi : Int) (c : Bool), c = (ps.isEmpty && is.isEmpty && (decide (n ≥ 0) && decide (n ≤ hi))) →
        Yields (fun k => obind (cl env k F_spec_l2Plain [T.st [.str s, .int n, .sl ps, .sl is]]) fun r1 =>
          bif (rt r1 0).b then
            obind (cl env k F_spec_l6In [.int n, (T.int (0 : Int)), (T.int hi)]) fun r2 =>
            some [(rt r2 0)]
          else
            some [(T.bool false)]) [.bool c] := by
      intro hi c hc
      subst hc
      refine Yields.obind (l2plain _ _ ps is) ?_
      cases hpi : (ps.isEmpty && is.isEmpty) with
      | true => exact Yields.tt rfl (Yields.obind (in_s n 0 hi) (Yields.some _))
      | false => exact Yields.ff rfl (Yields.some _)
    by_cases b1 : (s.toList == (⟨#[110]⟩ : ByteArray).toList) = true
    · have hbase : baseB s = true := by unfold baseB; rw [b1]; rfl
      refine ⟨ps.isEmpty && is.isEmpty && (decide (n ≥ 0) && decide (n ≤ 1000000)), y_spec_l2Ok _ _ (Yields.tt b1 (basic 1000000 _ rfl)), ?_, (fun _ => by rw [hbase]; rfl), fun h => by obtain ⟨rfl, rfl, q1, q2⟩ := fit_base h; exact .num b1 q1 q2⟩
      refine y_impl_valueFits _ _ ?_
      unfold b_impl_valueFits
      rw [e3]
      cases his : is.isEmpty with
      | false => rw [Bool.and_false, Bool.false_and]; exact Yields.tt rfl (Yields.some _)
      | true =>
        have hpl := plain_i ks s
        rw [hbase, Bool.true_or] at hpl
        refine Yields.ff rfl (Yields.obind hpl (Yields.ff rfl (Yields.tt b1 ?_)))
        rw [Bool.and_true]
        refine Yields.ite (fun q1 => Yields.ite (fun q2 => ?_) (fun q2 => ?_)) (fun q1 => ?_)
        · rw [show decide (n ≥ 0) = true from q1, show decide (n ≤ 1000000) = true from q2, Bool.and_self, Bool.and_true, ← len0]; exact Yields.some _
        · rw [show decide (n ≤ 1000000) = false from q2, Bool.and_false, Bool.and_false]; exact Yields.some _
        · rw [show decide (n ≥ 0) = false from q1, Bool.false_and, Bool.and_false]; exact Yields.some _
    · have b1 := eq_false_of_ne_true b1
      by_cases b2 : (s.toList == (⟨#[98]⟩ : ByteArray).toList) = true
      · have hbase : baseB s = true := by unfold baseB; rw [b2]; simp
        refine ⟨ps.isEmpty && is.isEmpty && (decide (n ≥ 0) && decide (n ≤ 1)), y_spec_l2Ok _ _ (Yields.ff b1 (Yields.tt b2 (basic 1 _ rfl))), ?_, (fun _ => by rw [hbase]; rfl), fun h => by obtain ⟨rfl, rfl, q1, q2⟩ := fit_base h; exact .bit b1 b2 q1 q2⟩
        refine y_impl_valueFits _ _ ?_
        unfold b_impl_valueFits
        rw [e3]
        cases his : is.isEmpty with
        | false => rw [Bool.and_false, Bool.false_and]; exact Yields.tt rfl (Yields.some _)
        | true =>
          have hpl := plain_i ks s
          rw [hbase, Bool.true_or] at hpl
          refine Yields.ff rfl (Yields.obind hpl (Yields.ff rfl (Yields.ff b1 (Yields.tt b2 ?_))))
          rw [Bool.and_true]
          refine Yields.ite (fun q1 => ?_) (fun q1 => Yields.ite (fun q2 => ?_) (fun q2 => ?_))
          · have q : n = 0 := by have : (n == 0) = true := q1
                                 simpa using this
            subst q
            rw [show (decide ((0 : Int) ≥ 0) && decide ((0 : Int) ≤ 1)) = true from rfl, Bool.and_true, ← len0]; exact Yields.some _
          · have q : n = 1 := by have : (n == 1) = true := q2
                                 simpa using this
            subst q
            rw [show (decide ((1 : Int) ≥ 0) && decide ((1 : Int) ≤ 1)) = true from rfl, Bool.and_true, ← len0]; exact Yields.some _
          · have p0 : ¬ n = 0 := by have : (n == 0) = false := q1
                                    simpa using this
            have p1 : ¬ n = 1 := by have : (n == 1) = false := q2
                                    simpa using this
            have : (decide (n ≥ 0) && decide (n ≤ 1)) = false := by
              by_cases hn : n ≥ 0
              · rw [decide_eq_false (by omega : ¬ n ≤ 1), Bool.and_false]
              · rw [decide_eq_false hn, Bool.false_and]
            rw [this, Bool.and_false]; exact Yields.some _
      · have b2 := eq_false_of_ne_true b2
        by_cases b3 : (s.toList == (⟨#[111]⟩ : ByteArray).toList) = true
        · have hbase : baseB s = true := by unfold baseB; rw [b3]; simp
          refine ⟨ps.isEmpty && is.isEmpty && (decide (n ≥ 0) && decide (n ≤ 3)), y_spec_l2Ok _ _ (Yields.ff b1 (Yields.ff b2 (Yields.tt b3 (basic 3 _ rfl)))), ?_, (fun _ => by rw [hbase]; rfl), fun h => by obtain ⟨rfl, rfl, q1, q2⟩ := fit_base h; exact .own b1 b2 b3 q1 q2⟩
          refine y_impl_valueFits _ _ ?_
          unfold b_impl_valueFits
          rw [e3]
          cases his : is.isEmpty with
          | false => rw [Bool.and_false, Bool.false_and]; exact Yields.tt rfl (Yields.some _)
          | true =>
            have hpl := plain_i ks s
            rw [hbase, Bool.true_or] at hpl
            refine Yields.ff rfl (Yields.obind hpl (Yields.ff rfl (Yields.ff b1 (Yields.ff b2 (Yields.tt b3 ?_)))))
            rw [Bool.and_true]
            refine Yields.ite (fun q1 => Yields.ite (fun q2 => ?_) (fun q2 => ?_)) (fun q1 => ?_)
            · have q2' : n < 4 := of_decide_eq_true q2
              rw [show decide (n ≥ 0) = true from q1, decide_eq_true (by omega : n ≤ 3), Bool.and_self, Bool.and_true, ← len0]; exact Yields.some _
            · have q2' : ¬ n < 4 := of_decide_eq_false q2
              rw [decide_eq_false (by omega : ¬ n ≤ 3), Bool.and_false, Bool.and_false]; exact Yields.some _
            · rw [show decide (n ≥ 0) = false from q1, Bool.false_and, Bool.and_false]; exact Yields.some _
        · have b3 := eq_false_of_ne_true b3
          have hbase : baseB s = false := by unfold baseB; rw [b1, b2, b3]; rfl
          have hpl := plain_i ks s
          rw [hbase, Bool.false_or] at hpl ⊢
          -- no plain kind: no
          have nope : kinB ks s = false → ∃ c, Yields (fun k => cl env k F_spec_l2Ok [.sl ks, T.st [.str s, .int n, .sl ps, .sl is]]) [.bool c] ∧ Yields (fun k => cl env k F_impl_valueFits [.sl ks, T.st [.str s, .int n, .sl ps, .sl is]]) [.bool c] ∧ (c = true → kinB ks s = true) ∧ (c = true → FitV (T.st [.str s, .int n, .sl ps, .sl is])) := by
            intro hkn
            refine ⟨false, y_spec_l2Ok _ _ (Yields.ff b1 (Yields.ff b2 (Yields.ff b3 (Yields.obind (kind_s s) ?_)))), ?_, (fun h => by cases h), fun h => by cases h⟩
            · unfold kinB at hkn
              cases hkc : kindC s with
              | none => exact Yields.tt rfl (Yields.some _)
              | some x =>
                obtain ⟨i, j⟩ := x
                rw [hkc] at hkn
                have hs := has_s ks i j
                rw [show hasB ks i j = false from hkn] at hs
                exact Yields.ff rfl (Yields.obind hs (Yields.tt rfl (Yields.some _)))
            · refine y_impl_valueFits _ _ ?_
              unfold b_impl_valueFits
              rw [e3]
              rw [hkn] at hpl
              cases is.isEmpty with
              | false => exact Yields.tt rfl (Yields.some _)
              | true => exact Yields.ff rfl (Yields.obind hpl (Yields.tt rfl (Yields.some _)))
          cases hkn : kinB ks s with
          | false =>
            have := nope hkn
            rw [hkn] at this
            exact this
          | true =>
            rw [hkn] at hpl
            have hkn' := hkn
            unfold kinB at hkn'
            cases hkc : kindC s with
            | none => rw [hkc] at hkn'; cases hkn'
            | some x =>
              obtain ⟨i, j⟩ := x
              rw [hkc] at hkn'
              have hh : hasB ks i j = true := hkn'
              obtain ⟨g1, g2⟩ := has_two hh
              obtain ⟨a, fs, hr, hf1, hf2⟩ := rec_shape hk g1 g2
              have hrec : ((T.sl ks).nth (T.int (i : Int)).i.toNat).nth ((T.int (j : Int)).i.toNat) = .st [.int a, .sl fs] := by
                show ((T.sl ks).nth ((i : Int).toNat)).nth ((j : Int).toNat) = _
                rw [Int.toNat_natCast, Int.toNat_natCast]; exact hr
              have hs := has_s ks i j
              rw [hh] at hs
              -- the parts
              have loop : ∃ c, (ps.length = fs.length → Yields (fun k => l_spec_l2Ok_0 (Ra.hl env k fi_spec_l2Ok) (.sl ks) (.int (i : Int)) (.int (j : Int)) (.int 0) (.st [.str s, .int n, .sl ps, .sl is])) [.bool c] ∧
                  Yields (fun k => l_impl_valueFits_0 (Ra.hl env k fi_impl_valueFits) (.sl ks) (.sl fs) (.sl ps) (.int (ps.length : Int)) (.int 0)) [.bool c] ∧ (c = true → ∀ x ∈ ps, FitV x)) := by
                by_cases hlen : ps.length = fs.length
                · have key : ∀ (m q : Nat), q + m = ps.length → ∃ c, Yields (fun k => l_spec_l2Ok_0 (Ra.hl env k fi_spec_l2Ok) (.sl ks) (.int (i : Int)) (.int (j : Int)) (.int (q : Int)) (.st [.str s, .int n, .sl ps, .sl is])) [.bool c] ∧
                      Yields (fun k => l_impl_valueFits_0 (Ra.hl env k fi_impl_valueFits) (.sl ks) (.sl fs) (.sl ps) (.int (ps.length : Int)) (.int (q : Int))) [.bool c] ∧ (c = true → ∀ j x, q ≤ j → ps[j]? = some x → FitV x) := by
                    intro m
                    induction m with
                    | zero =>
                      intro q hq
                      refine ⟨true, y_spec_l2Ok_0 _ _ _ _ _ (Yields.ff (lt_ff (es := ps) (by omega)) (Yields.some _)), y_impl_valueFits_0 _ _ _ _ _ (Yields.ff ?_ (Yields.some _)), fun _ j x hj hx => by rw [List.getElem?_eq_none (by omega)] at hx; cases hx⟩
                      rw [lt_nat]; exact decide_eq_false (by omega)
                    | succ m ihm =>
                      intro q hq
                      have hlt : q < ps.length := by omega
                      have hlf : q < fs.length := by omega
                      obtain ⟨c, y1, y2, y3⟩ := ihm (q + 1) (by omega)
                      obtain ⟨c', z1, z2, _, z4⟩ := ih _ (List.getElem_mem hlt)
                      have both : c' = true → c = true → ∀ j x, q ≤ j → ps[j]? = some x → FitV x := by
                        intro h1 h2 j x hj hx
                        by_cases hjq : j = q
                        · subst hjq
                          rw [List.getElem?_eq_getElem hlt] at hx; cases hx
                          exact z4 h1
                        · exact y3 h2 j x (by omega) hx
                      have hn1 : ((T.sl ps).nth (T.int (q : Int)).i.toNat) = ps[q] := idx_ok hlt
                      have hnx := next_ok hlt (Nat.le_trans h4 hb)
                      have c2 : decide ((T.int (q : Int)).i < (T.int (ps.length : Int)).i) = true := by rw [lt_nat]; exact decide_eq_true hlt
                      have d1 : (decide (0 ≤ (T.int (q : Int)).i) && decide ((T.int (q : Int)).i.toNat < ((((((T.sl ks).nth (T.int (i : Int)).i.toNat).nth ((T.int (j : Int)).i.toNat)).fld 1).es).length))) = true := by rw [hrec]; exact in_tt hlf
                      -- the same test on both sides
                      generalize htest : (!((((T.sl ps).nth (T.int (q : Int)).i.toNat).fld 0).s.toList == ((T.sl fs).nth (T.int (q : Int)).i.toNat).s.toList)) = tst
                      have spec : ∀ r, (tst = true → r = [T.bool false]) → (tst = false → c' = false → r = [T.bool false]) → (tst = false → c' = true → r = [T.bool c]) →
                          Yields (fun k => l_spec_l2Ok_0 (Ra.hl env k fi_spec_l2Ok) (.sl ks) (.int (i : Int)) (.int (j : Int)) (.int (q : Int)) (.st [.str s, .int n, .sl ps, .sl is])) r := by
                        intro r r1 r2 r3
                        refine y_spec_l2Ok_0 _ _ _ _ _ (Yields.tt (lt_tt (es := ps) hlt) (Yields.tt (in_tt (es := ps) hlt) (Yields.tt (in_tt g1) (Yields.tt (rec_at g2) (Yields.tt d1 ?_)))))
                        rw [hrec]
                        refine Yields.ite (fun t => ?_) (fun t => ?_)
                        · rw [r1 (htest.symm.trans t)]; exact Yields.some _
                        · have t' : tst = false := htest.symm.trans t
                          have z1' : Yields (fun k => cl env k F_spec_l2Ok [.sl ks, (((T.st [.str s, .int n, .sl ps, .sl is]).fld 2).nth (T.int (q : Int)).i.toNat)]) [.bool c'] := by
                            rw [show (((T.st [.str s, .int n, .sl ps, .sl is]).fld 2).nth (T.int (q : Int)).i.toNat) = ps[q] from hn1]; exact z1
                          refine Yields.obind z1' ?_
                          cases hc' : c' with
                          | false => rw [r2 t' hc']; exact Yields.tt rfl (Yields.some _)
                          | true => rw [r3 t' hc', hnx]; exact Yields.ff rfl y1
                      have impl : ∀ r, (tst = true → r = [T.bool false]) → (tst = false → c' = false → r = [T.bool false]) → (tst = false → c' = true → r = [T.bool c]) →
                          Yields (fun k => l_impl_valueFits_0 (Ra.hl env k fi_impl_valueFits) (.sl ks) (.sl fs) (.sl ps) (.int (ps.length : Int)) (.int (q : Int))) r := by
                        intro r r1 r2 r3
                        refine y_impl_valueFits_0 _ _ _ _ _ (Yields.tt c2 (Yields.tt (in_tt hlt) (Yields.tt (in_tt hlf) ?_)))
                        refine Yields.ite (fun t => ?_) (fun t => ?_)
                        · rw [r1 (htest.symm.trans t)]; exact Yields.some _
                        · have t' : tst = false := htest.symm.trans t
                          have z2' : Yields (fun k => cl env k F_impl_valueFits [.sl ks, ((T.sl ps).nth (T.int (q : Int)).i.toNat)]) [.bool c'] := by rw [hn1]; exact z2
                          refine Yields.obind z2' ?_
                          cases hc' : c' with
                          | false => rw [r2 t' hc']; exact Yields.tt rfl (Yields.some _)
                          | true => rw [r3 t' hc', hnx]; exact Yields.ff rfl y2
                      cases tst with
                      | true => exact ⟨false, spec _ (fun _ => rfl) (fun h => by cases h) (fun h => by cases h), impl _ (fun _ => rfl) (fun h => by cases h) (fun h => by cases h), fun h => by cases h⟩
                      | false =>
                        cases c' with
                        | false => exact ⟨false, spec _ (fun h => by cases h) (fun _ _ => rfl) (fun _ h => by cases h), impl _ (fun h => by cases h) (fun _ _ => rfl) (fun _ h => by cases h), fun h => by cases h⟩
                        | true => exact ⟨c, spec _ (fun h => by cases h) (fun _ h => by cases h) (fun _ _ => rfl), impl _ (fun h => by cases h) (fun _ h => by cases h) (fun _ _ => rfl), both rfl⟩
                  obtain ⟨c, y1, y2, y3⟩ := key ps.length 0 (by omega)
                  exact ⟨c, fun _ => ⟨y1, y2, fun h x hx => by
                    obtain ⟨j, hj⟩ := List.mem_iff_getElem?.1 hx
                    exact y3 h j x (Nat.zero_le _) hj⟩⟩
                · exact ⟨false, fun h => absurd h hlen⟩
              obtain ⟨c, hloop⟩ := loop
              let res : Bool := is.isEmpty && ((n == 0) && (decide (ps.length = fs.length) && c))
              have fit : res = true → FitV (T.st [.str s, .int n, .sl ps, .sl is]) := by
                intro h
                have h : (is.isEmpty && ((n == 0) && (decide (ps.length = fs.length) && c))) = true := h
                simp only [Bool.and_eq_true, decide_eq_true_eq, List.isEmpty_iff] at h
                obtain ⟨h1, _, h2, h3⟩ := h
                subst h1
                exact .made b1 b2 b3 (kind_some hkc).1 ((hloop h2).2.2 h3)
              refine ⟨res, ?_, ?_, (fun _ => rfl), fit⟩
              · refine y_spec_l2Ok _ _ (Yields.ff b1 (Yields.ff b2 (Yields.ff b3 (Yields.obind (kind_s s) ?_))))
                rw [hkc]
                refine Yields.ff rfl (Yields.obind hs (Yields.ff rfl ?_))
                show Yields _ [T.bool (is.isEmpty && ((n == 0) && (decide (ps.length = fs.length) && c)))]
                refine Yields.ite (fun q1 => ?_) (fun q1 => ?_)
                · have : (n == 0) = false := by have : (n != 0) = true := q1
                                                simpa using this
                  rw [this, Bool.false_and, Bool.and_false]; exact Yields.some _
                · have : (n == 0) = true := by have : (n != 0) = false := q1
                                               simpa using this
                  rw [this, Bool.true_and, e3]
                  cases his : is.isEmpty with
                  | false => exact Yields.tt rfl (Yields.some _)
                  | true =>
                    refine Yields.ff rfl (Yields.tt (in_tt g1) (Yields.tt (rec_at g2) ?_))
                    have hrec' : ((T.sl ks).nth (((rt (kindR (some (i, j))) 0).i).toNat)).nth (((rt (kindR (some (i, j))) 1).i).toNat) = .st [.int a, .sl fs] := hrec
                    rw [hrec']
                    by_cases hlen : ps.length = fs.length
                    · rw [decide_eq_true hlen]
                      refine Yields.ff ?_ (hloop hlen).1
                      show (((ps.length : Int)) != (fs.length : Int)) = false
                      rw [hlen]; simp
                    · rw [decide_eq_false hlen]
                      refine Yields.tt ?_ (Yields.some _)
                      show (((ps.length : Int)) != (fs.length : Int)) = true
                      rw [bne_iff_ne]; omega
              · refine y_impl_valueFits _ _ ?_
                unfold b_impl_valueFits
                rw [e3]
                show Yields _ [T.bool (is.isEmpty && ((n == 0) && (decide (ps.length = fs.length) && c)))]
                cases his : is.isEmpty with
                | false => exact Yields.tt rfl (Yields.some _)
                | true =>
                  have hro := recOf_i ks hkc hh
                  rw [hr] at hro
                  refine Yields.ff rfl (Yields.obind hpl (Yields.ff rfl (Yields.ff b1 (Yields.ff b2 (Yields.ff b3 (Yields.obind hro ?_))))))
                  refine Yields.ite (fun q1 => ?_) (fun q1 => ?_)
                  · have : (n == 0) = false := by have : (n != 0) = true := q1
                                                  simpa using this
                    rw [this]; exact Yields.some _
                  · have : (n == 0) = true := by have : (n != 0) = false := q1
                                                 simpa using this
                    rw [this]
                    by_cases hlen : ps.length = fs.length
                    · rw [decide_eq_true hlen]
                      refine Yields.ff ?_ (hloop hlen).2.1
                      show (((ps.length : Int)) != (fs.length : Int)) = false
                      rw [hlen]; simp
                    · rw [decide_eq_false hlen]
                      refine Yields.tt ?_ (Yields.some _)
                      show (((ps.length : Int)) != (fs.length : Int)) = true
                      rw [bne_iff_ne]; omega
theorem fits_same (hk : ∀ x ∈ ks, IsRecs b x) (hb : b ≤ maxLen) (v : T) (hv : IsVal b v) : ∃ c, Yields (fun k => cl env k F_spec_l2Ok [.sl ks, v]) [.bool c] ∧ Yields (fun k => cl env k F_impl_valueFits [.sl ks, v]) [.bool c] ∧
    (c = true → (baseB (v.fld 0).s || kinB ks (v.fld 0).s) = true) := by
  obtain ⟨c, y1, y2, y3, _⟩ := fits_fit hk hb v hv
  exact ⟨c, y1, y2, y3⟩
end
end Go.Proofs.YtfelodpbejdhlaaDoor.Ra
/- Plain side: vaults and counts; the law. -/
namespace Go.Proofs.YtfelodpbejdhlaaDoor.Ra
open Go

theorem keep_fin : ∀ (a : Fin 16), (andI (a.val : Int) 8 != 0) = (((a.val : Int).tdiv 8).tmod 2 == 1) := by decide +kernel
theorem keep_eq {a : Int} (h0 : 0 ≤ a) (h1 : a ≤ 15) : (andI a 8 != 0) = ((a.tdiv 8).tmod 2 == 1) := by
  have := keep_fin ⟨a.toNat, by omega⟩
  simp only at this
  rwa [Int.toNat_of_nonneg h0] at this

section
variable {ks : List T} {b : Nat}
theorem keep_kin (hk : ∀ x ∈ ks, IsRecs b x) (hb : b ≤ maxLen) (he : Early ks ks.length 0) (v : T) (hv : IsVal b v) : ∃ c, Yields (fun k => cl env k F_spec_l9Kind [.sl ks, v]) [.bool c] ∧ Yields (fun k => cl env k F_impl_keepable [.sl ks, v]) [.bool c] ∧ (c = true → kinB ks (v.fld 0).s = true) := by
  obtain ⟨c, y1, y2, y3⟩ := fits_same hk hb v hv
  obtain ⟨s, n, ps, is, rfl, _⟩ := val_shape hv
  have y3 : c = true → (baseB s || kinB ks s) = true := y3
  cases hkc : kindC s with
  | none =>
    have hkn : kinB ks s = false := by unfold kinB; rw [hkc]
    refine ⟨false, y_spec_l9Kind _ _ (Yields.obind (kind_s s) ?_), y_impl_keepable _ _ (Yields.obind (kin_i ks s) ?_), fun h => by cases h⟩
    · rw [hkc]; exact Yields.ff rfl (Yields.some _)
    · rw [hkn]; exact Yields.ff rfl (Yields.some _)
  | some x =>
    obtain ⟨i, j⟩ := x
    have hnb : baseB s = false := by
      cases hb : baseB s with
      | false => rfl
      | true => rw [base_kind hb] at hkc; cases hkc
    have hkn : kinB ks s = hasB ks i j := by unfold kinB; rw [hkc]
    cases hh : hasB ks i j with
    | false =>
      have hc : c = false := by
        cases c with
        | false => rfl
        | true => have := y3 rfl; rw [hnb, hkn, hh] at this; cases this
      subst hc
      refine ⟨false, y_spec_l9Kind _ _ (Yields.obind (kind_s s) ?_), y_impl_keepable _ _ (Yields.obind (kin_i ks s) ?_), fun h => by cases h⟩
      · rw [hkc]; exact Yields.tt rfl (Yields.obind y1 (Yields.ff rfl (Yields.some _)))
      · rw [hkn, hh]; exact Yields.ff rfl (Yields.some _)
    | true =>
      obtain ⟨g1, g2⟩ := has_two hh
      obtain ⟨a, ha1, ha2⟩ := he i j (.inl g1) g1 g2
      have hro := recOf_i ks hkc hh
      have hab := able_s ks s (by rw [hkn, hh, Bool.or_true])
      have habt : ableT ks s = .int a := by unfold ableT; rw [hkc]; exact ha1
      rw [habt] at hab
      have hkp := keep_eq ha2.1 ha2.2
      refine ⟨c && (andI a 8 != 0), y_spec_l9Kind _ _ (Yields.obind (kind_s s) ?_), y_impl_keepable _ _ (Yields.obind (kin_i ks s) ?_), fun _ => (by show kinB ks s = true; rw [hkn, hh])⟩
      · rw [hkc, hkp]
        refine Yields.tt rfl (Yields.obind y1 ?_)
        cases c with
        | false => exact Yields.ff rfl (Yields.some _)
        | true => exact Yields.tt rfl (Yields.obind hab (Yields.obind (can_s a 8 ha2 (.inr (.inr (.inr rfl)))) (Yields.some _)))
      · rw [hkn, hh]
        refine Yields.tt rfl (Yields.obind hro ?_)
        show Yields (fun k => bif (andI ((((T.sl ks).nth i).nth j).fld 0).i 8 != 0) then obind (cl env k F_impl_valueFits [.sl ks, .st [.str s, .int n, .sl ps, .sl is]]) (fun r3 => some [rt r3 0]) else some [T.bool false]) _
        rw [ha1]
        show Yields (fun k => bif (andI a 8 != 0) then obind (cl env k F_impl_valueFits [.sl ks, .st [.str s, .int n, .sl ps, .sl is]]) (fun r3 => some [rt r3 0]) else some [T.bool false]) _
        cases (andI a 8 != 0) with
        | true => rw [Bool.and_true]; exact Yields.tt rfl (Yields.obind y2 (Yields.some _))
        | false => rw [Bool.and_false]; exact Yields.ff rfl (Yields.some _)

theorem keep_same (hk : ∀ x ∈ ks, IsRecs b x) (hb : b ≤ maxLen) (he : Early ks ks.length 0) (v : T) (hv : IsVal b v) : ∃ c, Yields (fun k => cl env k F_spec_l9Kind [.sl ks, v]) [.bool c] ∧ Yields (fun k => cl env k F_impl_keepable [.sl ks, v]) [.bool c] := by
  obtain ⟨c, y1, y2, _⟩ := keep_kin hk hb he v hv
  exact ⟨c, y1, y2⟩

def KeepOk (ks : List T) (v : T) : Prop := Yields (fun k => cl env k F_spec_l9Kind [.sl ks, v]) [.bool true]
def befB (p : Int) (u : T) (o : Int) (v : T) : Bool := decide (p < o) || ((p == o) && Op.bytesLess (u.fld 0).s.toList (v.fld 0).s.toList)
/-- The j-th record of vaults is one that may stand there. -/
def AtOk (ks es : List T) (j : Nat) : Prop := ∃ (o : Int) (v : T), es[j]? = some (.st [.int o, v]) ∧ 0 ≤ o ∧ o ≤ 3 ∧ KeepOk ks v ∧ kinB ks (v.fld 0).s = true ∧
  (0 < j → ∃ (p : Int) (u : T), es[j - 1]? = some (.st [.int p, u]) ∧ befB p u o v = true)
def ListOk (ks es : List T) : Prop := es.length ≤ 36 ∧ ∀ j, j < es.length → AtOk ks es j

theorem pred_ok {i : Nat} (h : 0 < i) (hi : i ≤ maxLen) : IntKind.wrap .i64 ((T.int (i : Int)).i - (1 : Int)) = ((i - 1 : Nat) : Int) := by
  rw [maxLen_eq] at hi
  show IntKind.wrap .i64 ((i : Int) - 1) = _
  rw [wrap64 (by omega) (by omega)]; omega
theorem before_i (o o' : Int) (v v' : T) : Yields (fun k => cl env k F_impl_vaultBefore [.st [.int o, v], .st [.int o', v']]) [.bool (decide (o < o') || ((o == o') && Op.bytesLess (v.fld 0).s.toList (v'.fld 0).s.toList))] := by
  refine y_impl_vaultBefore _ _ (Yields.ite (fun h => ?_) (fun h => Yields.ite (fun h2 => ?_) (fun h2 => ?_)))
  · rw [show decide (o < o') = true from h, Bool.true_or]; exact Yields.some _
  · rw [show decide (o < o') = false from h, show (o == o') = true from h2, Bool.false_or, Bool.true_and]; exact Yields.some _
  · rw [show decide (o < o') = false from h, show (o == o') = false from h2]; exact Yields.some _

theorem list_same (hk : ∀ x ∈ ks, IsRecs b x) (hb : b ≤ maxLen) (he : Early ks ks.length 0) (es : List T) (hes : ∀ x ∈ es, IsKept b x) (hle : es.length ≤ b) : ∀ (n i : Nat), i + n = es.length →
    ∃ c, Yields (fun k => l_spec_l9Ok_0 (Ra.hl env k fi_spec_l9Ok) (.sl ks) (.sl es) (.int (i : Int))) [.bool c] ∧ ((es.length : Int) > 36 → c = false) ∧
      (¬ (es.length : Int) > 36 → Yields (fun k => l_impl_VaultsOk_0 (Ra.hl env k fi_impl_VaultsOk) (.sl ks) (.sl es) (.sl es) (.int (es.length : Int)) (.int (i : Int))) [.bool c]) ∧
      (c = true ↔ es.length ≤ 36 ∧ ∀ j, i ≤ j → j < es.length → AtOk ks es j) := by
  intro n
  induction n with
  | zero =>
    intro i hi
    refine ⟨decide ((es.length : Int) ≤ 36), y_spec_l9Ok_0 _ _ _ (Yields.ff (lt_ff (by omega)) (Yields.some _)), fun h => decide_eq_false (by omega), fun h => y_impl_VaultsOk_0 _ _ _ _ _ (Yields.ff ?_ ?_), ?_⟩
    · rw [lt_nat]; exact decide_eq_false (by omega)
    · rw [decide_eq_true (by omega)]; exact Yields.some _
    · rw [decide_eq_true_eq]; exact ⟨fun h => ⟨by omega, fun j h1 h2 => by omega⟩, fun h => by omega⟩
  | succ n ih =>
    intro i hi
    have hlt : i < es.length := by omega
    have hnx := next_ok hlt (Nat.le_trans hle hb)
    obtain ⟨o, v, hx, ho1, ho2, hv⟩ := hes _ (List.getElem_mem hlt)
    have hnth : ((T.sl es).nth (T.int (i : Int)).i.toNat) = .st [.int o, v] := by rw [idx_ok hlt, hx]
    have c1 : decide ((T.int (i : Int)).i < (T.int (es.length : Int)).i) = true := by rw [lt_nat]; exact decide_eq_true hlt
    obtain ⟨c, y1, y2, y3, y4⟩ := ih (i + 1) (by omega)
    obtain ⟨d, k1, k2, k3⟩ := keep_kin hk hb he v hv
    -- what follows when the vault's own test is passed
    let ord : Bool := if h : 0 < i then
      (match es[i - 1]'(by omega) with
        | .st [.int p, u] => decide (p < o) || ((p == o) && Op.bytesLess (u.fld 0).s.toList (v.fld 0).s.toList)
        | _ => false) else true
    let own : Bool := (decide (o ≥ 0) && decide (o ≤ 3)) && d
    have res : ∃ c', (own = false → c' = false) ∧ (own = true → ord = false → c' = false) ∧ (own = true → ord = true → c' = c) ∧ (c' = true → own = true ∧ ord = true ∧ c = true) := by
      cases own with
      | false => exact ⟨false, (fun _ => rfl), (fun h => by cases h), (fun h => by cases h), (fun h => by cases h)⟩
      | true =>
        cases ord with
        | false => exact ⟨false, (fun h => by cases h), (fun _ _ => rfl), (fun _ h => by cases h), (fun h => by cases h)⟩
        | true => exact ⟨c, (fun h => by cases h), (fun _ h => by cases h), (fun _ _ => rfl), (fun h => ⟨rfl, rfl, h⟩)⟩
    obtain ⟨c', q1, q2, q3, q4⟩ := res
    have hown : own = ((decide (o ≥ 0) && decide (o ≤ 3)) && d) := rfl
    have hprev : 0 < i → ∃ (p : Int) (u : T), ((T.sl es).nth ((IntKind.wrap .i64 ((T.int (i : Int)).i - (1 : Int))).toNat)) = .st [.int p, u] ∧ ord = (decide (p < o) || ((p == o) && Op.bytesLess (u.fld 0).s.toList (v.fld 0).s.toList)) ∧
        (decide (0 ≤ (IntKind.wrap .i64 ((T.int (i : Int)).i - (1 : Int)))) && decide ((IntKind.wrap .i64 ((T.int (i : Int)).i - (1 : Int))).toNat < (T.sl es).es.length)) = true := by
      intro h0
      obtain ⟨p, u, hp, _⟩ := hes _ (List.getElem_mem (show i - 1 < es.length by omega))
      rw [pred_ok h0 (by omega)]
      refine ⟨p, u, ?_, ?_, ?_⟩
      · rw [Int.toNat_natCast, nth_lt (by omega), hp]
      · show (if h : 0 < i then _ else true) = _
        rw [dif_pos h0, hp]
      · rw [Bool.and_eq_true]
        refine ⟨decide_eq_true (by omega), decide_eq_true ?_⟩
        rw [Int.toNat_natCast]; show i - 1 < es.length; omega
    have hfirst : ¬ 0 < i → ord = true := fun h => by show (if h : 0 < i then _ else true) = true; rw [dif_neg h]
    have hat : own = true ∧ ord = true ↔ AtOk ks es i := by
      constructor
      · intro ⟨h1, h2⟩
        rw [hown, Bool.and_eq_true, Bool.and_eq_true, decide_eq_true_eq, decide_eq_true_eq] at h1
        obtain ⟨⟨g1, g2⟩, g3⟩ := h1
        subst g3
        refine ⟨o, v, by rw [List.getElem?_eq_getElem hlt, hx], g1, g2, k1, k3 rfl, fun h0 => ?_⟩
        obtain ⟨p, u, hp, _⟩ := hes _ (List.getElem_mem (show i - 1 < es.length by omega))
        refine ⟨p, u, by rw [List.getElem?_eq_getElem (by omega), hp], ?_⟩
        have h2' : (if h : 0 < i then _ else true) = true := h2
        rw [dif_pos h0, hp] at h2'
        exact h2'
      · intro ⟨o', v', g0, g1, g2, g3, _, g4⟩
        rw [List.getElem?_eq_getElem hlt, hx] at g0
        cases g0
        have hd : d = true := by have := Yields.uniq k1 g3; cases this; rfl
        refine ⟨by rw [hown, decide_eq_true g1, decide_eq_true g2, hd]; rfl, ?_⟩
        show (if h : 0 < i then _ else true) = true
        by_cases h0 : 0 < i
        · rw [dif_pos h0]
          obtain ⟨p, u, hp, hb⟩ := g4 h0
          rw [List.getElem?_eq_getElem (by omega)] at hp
          rw [Option.some.inj hp]; exact hb
        · rw [dif_neg h0]
    refine ⟨c', ?_, fun h36 => ?_, fun h36 => ?_, ?_⟩
    rotate_left 3
    · constructor
      · intro h
        obtain ⟨h1, h2, h3⟩ := q4 h
        obtain ⟨h4, h5⟩ := y4.1 h3
        refine ⟨h4, fun j hj hj2 => ?_⟩
        by_cases hji : j = i
        · subst hji; exact hat.1 ⟨h1, h2⟩
        · exact h5 j (by omega) hj2
      · intro ⟨h4, h5⟩
        obtain ⟨h1, h2⟩ := hat.2 (h5 i (by omega) hlt)
        rw [q3 h1 h2]
        exact y4.2 ⟨h4, fun j hj hj2 => h5 j (by omega) hj2⟩
    · refine y_spec_l9Ok_0 _ _ _ (Yields.tt (lt_tt hlt) (Yields.tt (in_tt hlt) ?_))
      rw [hnth]
      refine Yields.obind (in_s o 0 3) ?_
      cases hin : (decide (o ≥ 0) && decide (o ≤ 3)) with
      | false => rw [q1 (by rw [hown, hin]; rfl)]; exact Yields.tt rfl (Yields.some _)
      | true =>
        refine Yields.ff rfl (Yields.obind k1 ?_)
        cases hd : d with
        | false => rw [q1 (by rw [hown, hin, hd]; rfl)]; exact Yields.tt rfl (Yields.some _)
        | true =>
          have ho : own = true := by rw [hown, hin, hd]; rfl
          refine Yields.ff rfl (Yields.ite (fun e => ?_) (fun e => ?_))
          · have h0 : 0 < i := by have : (i : Int) > 0 := of_decide_eq_true e
                                  omega
            obtain ⟨p, u, hp1, hp2, hp3⟩ := hprev h0
            refine Yields.tt hp3 ?_
            rw [hp1]
            refine Yields.ite (fun e1 => ?_) (fun e1 => Yields.ite (fun e2 => Yields.ite (fun e3 => ?_) (fun e3 => ?_)) (fun e2 => ?_))
            · have e1' : p > o := of_decide_eq_true e1
              rw [q2 ho (by rw [hp2, decide_eq_false (by omega : ¬ p < o), show (p == o) = false from beq_eq_false_iff_ne.2 (by omega)]; rfl)]; exact Yields.some _
            · have e2' : (p == o) = true := e2
              have e3' : (!Op.bytesLess (u.fld 0).s.toList (v.fld 0).s.toList) = true := e3
              have e1' : ¬ p > o := of_decide_eq_false e1
              have hpo : p = o := by simpa using e2'
              rw [q2 ho (by rw [hp2, decide_eq_false (by omega : ¬ p < o), e2', Bool.true_and, Bool.false_or]; simpa using e3')]; exact Yields.some _
            · have e2' : (p == o) = true := e2
              have e3' : (!Op.bytesLess (u.fld 0).s.toList (v.fld 0).s.toList) = false := e3
              rw [q3 ho (by rw [hp2, e2', Bool.true_and]; simp only [Bool.not_eq_false'] at e3'; rw [e3', Bool.or_true]), hnx]; exact y1
            · have e2' : (p == o) = false := e2
              have e1' : ¬ p > o := of_decide_eq_false e1
              have hpo : ¬ p = o := by simpa using e2'
              rw [q3 ho (by rw [hp2, decide_eq_true (by omega : p < o), Bool.true_or]), hnx]; exact y1
          · have h0 : ¬ 0 < i := by have : ¬ (i : Int) > 0 := of_decide_eq_false e
                                    omega
            rw [q3 ho (hfirst h0), hnx]; exact y1
    · by_cases ho : own = true
      · by_cases hor : ord = true
        · rw [q3 ho hor]; exact y2 h36
        · exact q2 ho (eq_false_of_ne_true hor)
      · exact q1 (eq_false_of_ne_true ho)
    · refine y_impl_VaultsOk_0 _ _ _ _ _ (Yields.tt c1 (Yields.tt (in_tt hlt) ?_))
      rw [hnth]
      have stop : (decide (o ≥ 0) && decide (o ≤ 3)) = false → Yields (fun _ => some [T.bool false]) [T.bool c'] := fun h => by rw [q1 (by rw [hown, h]; rfl)]; exact Yields.some _
      refine Yields.ite (fun e => ?_) (fun e => Yields.ite (fun e2 => ?_) (fun e2 => ?_))
      · have e' : o < 0 := of_decide_eq_true e
        exact stop (by rw [decide_eq_false (by omega : ¬ o ≥ 0)]; rfl)
      · have e' : o ≥ 4 := of_decide_eq_true e2
        exact stop (by rw [decide_eq_false (by omega : ¬ o ≤ 3), Bool.and_false])
      · have e' : ¬ o < 0 := of_decide_eq_false e
        have e2' : ¬ o ≥ 4 := of_decide_eq_false e2
        have hin : (decide (o ≥ 0) && decide (o ≤ 3)) = true := by rw [decide_eq_true (by omega : o ≥ 0), decide_eq_true (by omega : o ≤ 3)]; rfl
        refine Yields.obind k2 ?_
        cases hd : d with
        | false => rw [q1 (by rw [hown, hin, hd]; rfl)]; exact Yields.tt rfl (Yields.some _)
        | true =>
          have ho : own = true := by rw [hown, hin, hd]; rfl
          refine Yields.ff rfl (Yields.ite (fun e => ?_) (fun e => ?_))
          · have h0 : 0 < i := by have : (i : Int) > 0 := of_decide_eq_true e
                                  omega
            obtain ⟨p, u, hp1, hp2, hp3⟩ := hprev h0
            refine Yields.tt hp3 ?_
            rw [hp1]
            have hbf := before_i p o u v
            rw [← hp2] at hbf
            refine Yields.obind hbf ?_
            cases hor : ord with
            | false => rw [q2 ho hor]; exact Yields.tt rfl (Yields.some _)
            | true => rw [q3 ho hor, hnx]; exact Yields.ff rfl (y3 h36)
          · have h0 : ¬ 0 < i := by have : ¬ (i : Int) > 0 := of_decide_eq_false e
                                    omega
            rw [q3 ho (hfirst h0), hnx]; exact y3 h36
end

end Go.Proofs.YtfelodpbejdhlaaDoor.Ra
/- Plain side: vaults. -/
namespace Go.Proofs.YtfelodpbejdhlaaDoor.Ra
open Go

/-- What both say of vaults, and when. -/
theorem vaults_good {b : Nat} (hb : b ≤ maxLen) (ks es : List T) (hk : IsKinds b (.sl ks)) (hl : IsList b (.sl es)) : ∃ c, Yields (fun k => cl env k F_spec_VaultsOk [.sl ks, .sl es]) [.bool c] ∧ Yields (fun k => cl env k F_impl_VaultsOk [.sl ks, .sl es]) [.bool c] ∧
    (c = true → (∀ x ∈ ks, IsRecs b x) ∧ Early ks ks.length 0 ∧ Small ks ks.length ∧ ks.length ≤ 3 ∧ ListOk ks es) ∧ (Yields (fun k => cl env k F_spec_KindsOk [.sl ks]) [.bool true] → ListOk ks es → c = true) := by
  obtain ⟨ks', he, hk1, hk2⟩ := hk
  cases he
  obtain ⟨es', he, hl1, hl2⟩ := hl
  cases he
  obtain ⟨c, y1, y2, y3⟩ := kindsOk_small hk2 hb hk1
  cases c with
  | false => exact ⟨false, y_spec_VaultsOk _ _ (Yields.obind y1 (Yields.ff rfl (Yields.some _))), y_impl_VaultsOk _ _ (Yields.obind y2 (Yields.tt rfl (Yields.some _))), (fun h => by cases h), fun h _ => by have := Yields.uniq y1 h; cases this⟩
  | true =>
    obtain ⟨e1, e2, e3⟩ := y3 rfl
    obtain ⟨c, z1, z2, z3, z4⟩ := list_same hk2 hb e1 es hl2 hl1 es.length 0 (by omega)
    refine ⟨c, y_spec_VaultsOk _ _ (Yields.obind y1 (Yields.tt rfl (Yields.obind (y_spec_l9Ok _ _ z1) (Yields.some _)))), y_impl_VaultsOk _ _ (Yields.obind y2 (Yields.ff rfl (Yields.ite (fun e => ?_) (fun e => ?_)))), fun h => ⟨hk2, e1, e2, e3, (z4.1 h).1, fun j hj => (z4.1 h).2 j (Nat.zero_le _) hj⟩, fun _ h => z4.2 ⟨h.1, fun j _ hj => h.2 j hj⟩⟩
    · rw [z2 (of_decide_eq_true e)]; exact Yields.some _
    · exact z3 (of_decide_eq_false e)
theorem vaults_same {b : Nat} (hb : b ≤ maxLen) (kt lt : T) (hk : IsKinds b kt) (hl : IsList b lt) : ∃ c, Yields (fun k => cl env k F_spec_VaultsOk [kt, lt]) [.bool c] ∧ Yields (fun k => cl env k F_impl_VaultsOk [kt, lt]) [.bool c] := by
  obtain ⟨ks, rfl, hk1, hk2⟩ := hk
  obtain ⟨es, rfl, hl1, hl2⟩ := hl
  obtain ⟨c, y1, y2, _⟩ := vaults_good hb ks es ⟨ks, rfl, hk1, hk2⟩ ⟨es, rfl, hl1, hl2⟩
  exact ⟨c, y1, y2⟩
end Go.Proofs.YtfelodpbejdhlaaDoor.Ra
/- The law of VaultsText. -/
namespace Go.Proofs.YtfelodpbejdhlaaDoor.Ra
open Go

/- ---- bytes ---- -/
theorem ba_ext {s u : ByteArray} (h : s.data.toList = u.data.toList) : s = u := by
  obtain ⟨a⟩ := s
  obtain ⟨b⟩ := u
  have : a = b := Array.ext' h
  rw [this]
theorem ba_app (s u : ByteArray) : (s ++ u).data.toList = s.data.toList ++ u.data.toList := by rw [ByteArray.data_append, Array.toList_append]
theorem ba_size (s : ByteArray) : s.size = s.data.toList.length := by obtain ⟨⟨l⟩⟩ := s; rfl
theorem lt_t {es : List T} {i : Nat} (h : i < es.length) : decide ((T.int (i : Int)).i < (T.int (es.length : Int)).i) = true := by rw [lt_nat]; exact decide_eq_true h
theorem lt_f {es : List T} {i : Nat} (h : ¬ i < es.length) : decide ((T.int (i : Int)).i < (T.int (es.length : Int)).i) = false := by rw [lt_nat]; exact decide_eq_false h
theorem wts_append : ∀ (a b : List T), T.wts (a ++ b) = T.wts a + T.wts b
  | [], b => by simp [T.wts]
  | t :: l, b => by have := wts_append l b; simp only [List.cons_append, T.wts]; omega

/- ---- numbers ---- -/
def decS (n : Nat) : ByteArray := ⟨(Lib.decDigits n).toArray⟩
theorem dec_size {n : Nat} (h : n ≤ 9223372036854775807) : (decS n).size ≤ 21 := by
  have := Lib.itoa_length_le (n : Int) (by omega) (by omega)
  rw [Lib.itoa_nonneg] at this
  rw [ba_size]; exact this
theorem digit_u8 {d : Nat} (h : d < 10) : (⟨([(T.int (IntKind.wrap .u8 (IntKind.wrap .i64 ((48 : Int) + (d : Int)))))].map fun c => UInt8.ofNat c.i.toNat).toArray⟩ : ByteArray) = ⟨#[UInt8.ofNat (48 + d)]⟩ := by
  rw [wrap64 (by omega) (by omega), wrap8 (by omega) (by omega)]
  show (⟨#[UInt8.ofNat ((48 : Int) + (d : Int)).toNat]⟩ : ByteArray) = _
  rw [show ((48 : Int) + (d : Int)).toNat = 48 + d by omega]
theorem dec_s : ∀ n : Nat, n ≤ 1000000000 → Yields (fun k => cl env k F_spec_l6Dec [.int (n : Int)]) [.str (decS n)] := by
  intro n
  induction n using Nat.strongRecOn with
  | _ n ih =>
    intro hn
    refine y_spec_l6Dec _ (Yields.ff (decide_eq_false (by show ¬ (n : Int) < -9223372036854775807; omega)) (Yields.ff (decide_eq_false (by show ¬ (n : Int) < 0; omega)) (Yields.ite (fun e => ?_) (fun e => Yields.tt rfl ?_))))
    · have e : (n : Int) < 10 := of_decide_eq_true e
      show Yields (fun _ => some [T.str (⟨([(T.int (IntKind.wrap .u8 (IntKind.wrap .i64 ((48 : Int) + (n : Int)))))].map fun c => UInt8.ofNat c.i.toNat).toArray⟩ : ByteArray)]) _
      rw [digit_u8 (by omega)]
      have : decS n = ⟨#[UInt8.ofNat (48 + n)]⟩ := by unfold decS; rw [Lib.decDigits_one (by omega)]
      rw [this]; exact Yields.some _
    · have e : ¬ (n : Int) < 10 := of_decide_eq_false e
      have hd : (n : Int).tdiv 10 = ((n / 10 : Nat) : Int) := by rw [Int.tdiv_eq_ediv_of_nonneg (by omega)]; rfl
      have hm : (n : Int).tmod 10 = ((n % 10 : Nat) : Int) := by rw [Int.tmod_eq_emod_of_nonneg (by omega)]; rfl
      have hrec := ih (n / 10) (by omega) (by omega)
      have hw : IntKind.wrap .i64 ((n : Int).tdiv 10) = ((n / 10 : Nat) : Int) := by rw [hd, wrap64 (by omega) (by omega)]
      have e1 : (⟨([(T.int (IntKind.wrap .u8 (IntKind.wrap .i64 ((48 : Int) + ((n : Int).tmod (10 : Int))))))].map fun c => UInt8.ofNat c.i.toNat).toArray⟩ : ByteArray) = ⟨#[UInt8.ofNat (48 + n % 10)]⟩ := by rw [hm]; exact digit_u8 (by omega)
      show Yields (fun k => obind (cl env k F_spec_l6Dec [(T.int (IntKind.wrap .i64 ((n : Int).tdiv (10 : Int))))]) fun r1 =>
        bif (decide (((rt r1 0).s).size + (⟨([(T.int (IntKind.wrap .u8 (IntKind.wrap .i64 ((48 : Int) + ((n : Int).tmod (10 : Int))))))].map fun c => UInt8.ofNat c.i.toNat).toArray⟩ : ByteArray).size ≤ LIM)) then
        some [(T.str (((rt r1 0).s) ++ (⟨([(T.int (IntKind.wrap .u8 (IntKind.wrap .i64 ((48 : Int) + ((n : Int).tmod (10 : Int))))))].map fun c => UInt8.ofNat c.i.toNat).toArray⟩ : ByteArray)))] else none) _
      rw [hw, e1]
      refine Yields.obind hrec (Yields.tt (decide_eq_true ?_) ?_)
      · have := dec_size (n := n / 10) (by omega)
        show (decS (n / 10)).size + 1 ≤ LIM
        unfold LIM; omega
      · have : decS (n / 10) ++ ⟨#[UInt8.ofNat (48 + n % 10)]⟩ = decS n := by
          apply ba_ext
          rw [ba_app]
          show Lib.decDigits (n / 10) ++ [UInt8.ofNat (48 + n % 10)] = Lib.decDigits n
          rw [Lib.decDigits.eq_def n, dif_neg (by omega)]
        show Yields (fun _ => some [T.str (decS (n / 10) ++ ⟨#[UInt8.ofNat (48 + n % 10)]⟩)]) _
        rw [this]; exact Yields.some _
theorem dec_i {n : Nat} (hn : n ≤ 1000000000) : Yields (fun k => cl env k F_strconv_Itoa [.int (n : Int)]) [.str (decS n)] := by
  refine Yields.told (g := itoaT) rfl ?_
  show (bif decide (-9223372036854775808 ≤ (n : Int)) && decide ((n : Int) ≤ 9223372036854775807) then some [T.str ⟨(Lib.itoa (n : Int)).toArray⟩] else none) = _
  rw [decide_eq_true (by omega : -9223372036854775808 ≤ (n : Int)), decide_eq_true (by omega : (n : Int) ≤ 9223372036854775807), Lib.itoa_nonneg]; rfl

/- ---- texts, joined ---- -/
def joinB (us : List ByteArray) : ByteArray := ⟨(Lib.join (us.map (·.data.toList)) [32]).toArray⟩
theorem joinB_snoc (us : List ByteArray) (u : ByteArray) : joinB (us ++ [u]) = if us = [] then u else joinB us ++ ⟨#[32]⟩ ++ u := by
  apply ba_ext
  cases us with
  | nil => rw [if_pos rfl]; show Lib.join [u.data.toList] [32] = _; rw [Lib.join_one]
  | cons a l =>
    rw [if_neg (by simp), ba_app, ba_app]
    show Lib.join (a.data.toList :: (l ++ [u]).map (·.data.toList)) [32] = Lib.join (a.data.toList :: l.map (·.data.toList)) [32] ++ [32] ++ u.data.toList
    rw [Lib.join_cons, Lib.join_cons, List.map_append]
    simp [Lib.joinTail]
def sumB : List ByteArray → Nat
  | [] => 0
  | u :: l => u.size + 1 + sumB l
theorem sumB_append : ∀ (a b : List ByteArray), sumB (a ++ b) = sumB a + sumB b
  | [], b => by simp [sumB]
  | u :: l, b => by have := sumB_append l b; simp only [List.cons_append, sumB]; omega
theorem joinB_size (us : List ByteArray) : (joinB us).size ≤ sumB us := by
  have key : ∀ (n : Nat) (us : List ByteArray), us.length = n → (joinB us).size ≤ sumB us := by
    intro n
    induction n with
    | zero => intro us h; have : us = [] := List.length_eq_zero_iff.1 h
              subst this; exact Nat.le_refl _
    | succ n ih =>
      intro us h
      have hne : us ≠ [] := by intro e; rw [e] at h; simp at h
      obtain ⟨l, u, rfl⟩ : ∃ l u, us = l ++ [u] := ⟨us.dropLast, us.getLast hne, (List.dropLast_concat_getLast hne).symm⟩
      have := ih l (by simpa using h)
      rw [joinB_snoc, sumB_append]
      simp only [sumB]
      split
      · omega
      · rw [ByteArray.size_append, ByteArray.size_append]
        have : (⟨#[32]⟩ : ByteArray).size = 1 := rfl
        omega
  exact key _ us rfl
theorem sumB_take {us : List ByteArray} {i : Nat} : sumB (us.take i) ≤ sumB us := by
  have := sumB_append (us.take i) (us.drop i)
  rw [List.take_append_drop] at this; omega

theorem join_t {us : List ByteArray} (hl : us.length ≤ 1000000000) (hs : sumB us ≤ 4294967296) : Yields (fun k => cl env k F_strings_Join [.sl (us.map .str), .str ⟨#[32]⟩]) [.str (joinB us)] := by
  refine Yields.told (g := joinT) rfl ?_
  have hm : (us.map T.str).map (fun x => x.s.data.toList) = us.map (·.data.toList) := by rw [List.map_map]; rfl
  show (bif decide ((us.map T.str).length ≤ 1000000000) && decide ((Lib.join ((us.map T.str).map fun x => x.s.data.toList) [32]).length ≤ 4294967296) then some [T.str ⟨(Lib.join ((us.map T.str).map fun x => x.s.data.toList) [32]).toArray⟩] else none) = _
  rw [hm, List.length_map]
  have h1 : (Lib.join (us.map (·.data.toList)) [32]).length ≤ 4294967296 := by
    have := joinB_size us
    rw [ba_size] at this
    have h2 : (joinB us).data.toList.length = (Lib.join (us.map (·.data.toList)) [32]).length := rfl
    omega
  rw [decide_eq_true hl, decide_eq_true h1]; rfl

/- ---- values ---- -/
theorem lim_ok {n m : Nat} (h : n + m ≤ 4294967296) : decide (n + m ≤ LIM) = true := decide_eq_true h
theorem text_same : ∀ v, FitV v → v.wt ≤ BB → ∃ s, Yields (fun k => cl env k F_spec_l2Text [v]) [.str s] ∧ Yields (fun k => cl env k F_impl_valueText [v]) [.str s] ∧ s.size ≤ 64 * v.wt + 32 := by
  intro v h
  induction h with
  | @num s n b1 h0 h1 =>
    intro _
    obtain ⟨m, rfl⟩ : ∃ m : Nat, n = m := ⟨n.toNat, by omega⟩
    have := dec_size (n := m) (by omega)
    exact ⟨decS m, y_spec_l2Text _ (Yields.tt b1 (Yields.obind (dec_s m (by omega)) (Yields.some _))), y_impl_valueText _ (Yields.tt b1 (Yields.obind (dec_i (by omega)) (Yields.some _))), by omega⟩
  | @bit s n b1 b2 h0 h1 =>
    intro _
    have hn : n = 0 ∨ n = 1 := by omega
    rcases hn with rfl | rfl
    · exact ⟨⟨#[45]⟩, y_spec_l2Text _ (Yields.ff b1 (Yields.tt b2 (Yields.tt rfl (Yields.some _)))), y_impl_valueText _ (Yields.ff b1 (Yields.tt b2 (Yields.tt rfl (Yields.some _)))), by show 1 ≤ _; omega⟩
    · exact ⟨⟨#[43]⟩, y_spec_l2Text _ (Yields.ff b1 (Yields.tt b2 (Yields.tt rfl (Yields.some _)))), y_impl_valueText _ (Yields.ff b1 (Yields.tt b2 (Yields.tt rfl (Yields.some _)))), by show 1 ≤ _; omega⟩
  | @own s n b1 b2 b3 h0 h1 =>
    intro _
    obtain ⟨m, rfl⟩ : ∃ m : Nat, n = m := ⟨n.toNat, by omega⟩
    have := dec_size (n := m) (by omega)
    have h64 : (⟨#[64]⟩ : ByteArray).size = 1 := rfl
    have hl : decide ((⟨#[64]⟩ : ByteArray).size + (decS m).size ≤ LIM) = true := lim_ok (by omega)
    exact ⟨⟨#[64]⟩ ++ decS m, y_spec_l2Text _ (Yields.ff b1 (Yields.ff b2 (Yields.tt b3 (Yields.obind (dec_s m (by omega)) (Yields.tt hl (Yields.some _)))))), y_impl_valueText _ (Yields.ff b1 (Yields.ff b2 (Yields.tt b3 (Yields.obind (dec_i (by omega)) (Yields.tt hl (Yields.some _)))))),
      by rw [ByteArray.size_append]; omega⟩
  | @made s n ps b1 b2 b3 hs hps ih =>
    intro hw
    have hwt : (T.st [.str s, .int n, .sl ps, .sl []]).wt = T.wts ps + ps.length := by simp only [T.wt, T.wts, List.length_nil]; omega
    rw [hwt] at hw ⊢
    have hB : BB = 1048576 := rfl
    -- the texts of the parts
    have texts : ∀ (l : List T), (∀ x ∈ l, x ∈ ps) → T.wts l ≤ BB → ∃ us : List ByteArray, us.length = l.length ∧ (∀ (i : Nat) (x : T) (u : ByteArray), l[i]? = some x → us[i]? = some u → Yields (fun k => cl env k F_spec_l2Text [x]) [.str u] ∧ Yields (fun k => cl env k F_impl_valueText [x]) [.str u]) ∧
        sumB us ≤ 64 * T.wts l + 33 * l.length := by
      intro l
      induction l with
      | nil => intro _ _; exact ⟨[], rfl, fun i x u h => by simp at h, by simp [sumB, T.wts]⟩
      | cons a l ihl =>
        intro hl hwl
        simp only [T.wts] at hwl
        obtain ⟨us, e1, e2, e3⟩ := ihl (fun x hx => hl x (by simp [hx])) (by omega)
        obtain ⟨u, y1, y2, y3⟩ := ih a (hl a (by simp)) (by omega)
        refine ⟨u :: us, by simp [e1], fun i x u' hx hu => ?_, by simp only [sumB, T.wts, List.length_cons]; omega⟩
        cases i with
        | zero => simp at hx hu; subst hx; subst hu; exact ⟨y1, y2⟩
        | succ i => exact e2 i x u' (by simpa using hx) (by simpa using hu)
    obtain ⟨us, hul, hus, hsum⟩ := texts ps (fun x h => h) (by omega)
    have hj := joinB_size us
    have h40 : (⟨#[40]⟩ : ByteArray).size = 1 := rfl
    have h41 : (⟨#[41]⟩ : ByteArray).size = 1 := rfl
    have h32 : (⟨#[32]⟩ : ByteArray).size = 1 := rfl
    have hpl : ps.length ≤ BB := by omega
    refine ⟨((s ++ ⟨#[40]⟩) ++ joinB us) ++ ⟨#[41]⟩, ?_, ?_, ?_⟩
    · refine y_spec_l2Text _ (Yields.ff b1 (Yields.ff b2 (Yields.ff b3 (Yields.tt (lim_ok (by show s.size + 1 ≤ _; omega)) ?_))))
      have key : ∀ (m i : Nat), i + m = ps.length → Yields (fun k => l_spec_l2Text_0 (hl env k fi_spec_l2Text) (.str ((s ++ ⟨#[40]⟩) ++ joinB (us.take i))) (.int (i : Int)) (.st [.str s, .int n, .sl ps, .sl []])) [.str (((s ++ ⟨#[40]⟩) ++ joinB us) ++ ⟨#[41]⟩)] := by
        intro m
        induction m with
        | zero =>
          intro i hi
          have hsz : ((s ++ ⟨#[40]⟩) ++ joinB (us.take i)).size ≤ 100000000 := by rw [ByteArray.size_append, ByteArray.size_append]; have := joinB_size (us.take i); have := sumB_take (us := us) (i := i); omega
          refine y_spec_l2Text_0 _ _ _ (Yields.ff (lt_ff (es := ps) (by omega)) (Yields.tt (lim_ok (by show ((s ++ ⟨#[40]⟩) ++ joinB (us.take i)).size + 1 ≤ _; omega)) ?_))
          rw [List.take_of_length_le (by omega)]; exact Yields.some _
        | succ m ihm =>
          intro i hi
          have hlt : i < ps.length := by omega
          have hlu : i < us.length := by omega
          have hy := (hus i ps[i] us[i] (List.getElem?_eq_getElem hlt) (List.getElem?_eq_getElem hlu)).1
          have hn : (((T.st [.str s, .int n, .sl ps, .sl []]).fld 2).nth (T.int (i : Int)).i.toNat) = ps[i] := idx_ok hlt
          rw [← hn] at hy
          have hsz : ((s ++ ⟨#[40]⟩) ++ joinB (us.take i)).size ≤ 100000000 := by rw [ByteArray.size_append, ByteArray.size_append]; have := joinB_size (us.take i); have := sumB_take (us := us) (i := i); omega
          have hus1 : us[i].size ≤ 100000000 := by
            have h1 : sumB (us.take i ++ [us[i]]) ≤ sumB us := by rw [List.take_append_getElem hlu]; exact sumB_take
            rw [sumB_append] at h1; simp only [sumB] at h1; omega
          have hsn := joinB_snoc (us.take i) us[i]
          rw [List.take_append_getElem hlu] at hsn
          have hnext := ihm (i + 1) (by omega)
          refine y_spec_l2Text_0 _ _ _ (Yields.tt (lt_tt (es := ps) hlt) (Yields.ite (fun e => ?_) (fun e => ?_)))
          · have h0 : 0 < i := by have : (i : Int) > 0 := of_decide_eq_true e
                                  omega
            rw [if_neg (by intro e; have := congrArg List.length e; rw [List.length_take, List.length_nil] at this; omega)] at hsn
            refine Yields.tt (lim_ok (by show ((s ++ ⟨#[40]⟩) ++ joinB (us.take i)).size + 1 ≤ _; omega)) (Yields.tt (in_tt (es := ps) hlt) (Yields.obind hy (Yields.tt (lim_ok ?_) ?_)))
            · show (((s ++ ⟨#[40]⟩) ++ joinB (us.take i)) ++ ⟨#[32]⟩).size + us[i].size ≤ _
              rw [ByteArray.size_append]; omega
            · rw [next_ok hlt (bb_max hpl)]
              have e2 : (((s ++ ⟨#[40]⟩) ++ joinB (us.take i)) ++ ⟨#[32]⟩) ++ us[i] = (s ++ ⟨#[40]⟩) ++ joinB (us.take (i + 1)) := by
                rw [hsn]; apply ba_ext; simp only [ba_app, List.append_assoc]
              show Yields (fun k => l_spec_l2Text_0 (hl env k fi_spec_l2Text) (.str ((((s ++ ⟨#[40]⟩) ++ joinB (us.take i)) ++ ⟨#[32]⟩) ++ us[i])) (.int ((i + 1 : Nat) : Int)) _) _
              rw [e2]; exact hnext
          · have h0 : i = 0 := by have : ¬ (i : Int) > 0 := of_decide_eq_false e
                                  omega
            rw [if_pos (by rw [h0]; rfl)] at hsn
            refine Yields.tt (in_tt (es := ps) hlt) (Yields.obind hy (Yields.tt (lim_ok ?_) ?_))
            · show ((s ++ ⟨#[40]⟩) ++ joinB (us.take i)).size + us[i].size ≤ _
              omega
            · rw [next_ok hlt (bb_max hpl)]
              have hem : joinB (us.take i) = ⟨#[]⟩ := by rw [h0]; rfl
              have e2 : ((s ++ ⟨#[40]⟩) ++ joinB (us.take i)) ++ us[i] = (s ++ ⟨#[40]⟩) ++ joinB (us.take (i + 1)) := by
                rw [hsn, hem]; apply ba_ext; simp only [ba_app, List.append_assoc]; rfl
              show Yields (fun k => l_spec_l2Text_0 (hl env k fi_spec_l2Text) (.str (((s ++ ⟨#[40]⟩) ++ joinB (us.take i)) ++ us[i])) (.int ((i + 1 : Nat) : Int)) _) _
              rw [e2]; exact hnext
      have h0 := key ps.length 0 (by omega)
      have e0 : (s ++ ⟨#[40]⟩) ++ joinB (us.take 0) = s ++ ⟨#[40]⟩ := by apply ba_ext; simp only [ba_app, List.append_assoc]; rfl
      rw [e0] at h0
      exact h0
    · refine y_impl_valueText _ (Yields.ff b1 (Yields.ff b2 (Yields.ff b3 ?_)))
      have hmt : ∀ i, (us.map T.str).take i = (us.take i).map T.str := fun i => (List.map_take ..).symm
      have key : ∀ (m i : Nat), i + m = ps.length → Yields (fun k => l_impl_valueText_0 (hl env k fi_impl_valueText) (.sl ps) (.int (ps.length : Int)) (.int (i : Int)) (.st [.str s, .int n, .sl ps, .sl []]) (.sl ((us.map T.str).take i))) [.str (((s ++ ⟨#[40]⟩) ++ joinB us) ++ ⟨#[41]⟩)] := by
        intro m
        induction m with
        | zero =>
          intro i hi
          have hj2 := join_t (us := us) (by omega) (by omega)
          refine y_impl_valueText_0 _ _ _ _ _ (Yields.ff (lt_f (by omega)) (Yields.tt (lim_ok (by show s.size + 1 ≤ _; omega)) ?_))
          rw [List.take_of_length_le (by simp; omega)]
          refine Yields.obind hj2 (Yields.tt (lim_ok ?_) (Yields.tt (lim_ok ?_) (Yields.some _)))
          · show (s ++ ⟨#[40]⟩).size + (joinB us).size ≤ _
            rw [ByteArray.size_append]; omega
          · show ((s ++ ⟨#[40]⟩) ++ joinB us).size + 1 ≤ _
            rw [ByteArray.size_append, ByteArray.size_append]; omega
        | succ m ihm =>
          intro i hi
          have hlt : i < ps.length := by omega
          have hlu : i < us.length := by omega
          have hy := (hus i ps[i] us[i] (List.getElem?_eq_getElem hlt) (List.getElem?_eq_getElem hlu)).2
          have hn : ((T.sl ps).nth (T.int (i : Int)).i.toNat) = ps[i] := idx_ok hlt
          rw [← hn] at hy
          refine y_impl_valueText_0 _ _ _ _ _ (Yields.tt (lt_t hlt) (Yields.tt (in_tt hlt) (Yields.obind hy (Yields.tt (decide_eq_true ?_) ?_))))
          · show ((us.map T.str).take i).length + 1 ≤ LIM
            rw [List.length_take]; unfold LIM; omega
          · rw [next_ok hlt (bb_max hpl)]
            have hlm : i < (us.map T.str).length := by simpa using hlu
            have e : (us.map T.str)[i] = .str us[i] := List.getElem_map ..
            show Yields (fun k => l_impl_valueText_0 (hl env k fi_impl_valueText) (.sl ps) (.int (ps.length : Int)) (.int ((i + 1 : Nat) : Int)) _ (.sl ((us.map T.str).take i ++ [.str us[i]]))) _
            rw [← e, List.take_append_getElem hlm]; exact ihm (i + 1) (by omega)
      exact key ps.length 0 (by omega)
    · rw [ByteArray.size_append, ByteArray.size_append, ByteArray.size_append]; omega

theorem at_fit {ks es : List T} {b : Nat} (hk : ∀ x ∈ ks, IsRecs b x) (hb : b ≤ maxLen) (he : Early ks ks.length 0) {j : Nat} (h : AtOk ks es j) (hes : ∀ x ∈ es, IsKept b x) : ∃ (o : Int) (v : T), es[j]? = some (.st [.int o, v]) ∧ 0 ≤ o ∧ o ≤ 3 ∧ FitV v := by
  obtain ⟨o, v, h1, h2, h3, h4, h5, _⟩ := h
  refine ⟨o, v, h1, h2, h3, ?_⟩
  obtain ⟨o', v', hq, _, _, hv⟩ := hes _ (List.mem_of_getElem? h1)
  cases hq
  obtain ⟨c, y1, _, _, y4⟩ := fits_fit hk hb _ hv
  refine y4 ?_
  -- that it can be kept says that it fits
  unfold KeepOk at h4
  obtain ⟨s, n, ps, is, rfl, _⟩ := val_shape hv
  have hkin : kinB ks s = true := h5
  have hsh := hkin
  unfold kinB at hsh
  cases hkc : kindC s with
  | none => rw [hkc] at hsh; cases hsh
  | some x =>
    obtain ⟨i', j'⟩ := x
    have hks := kind_s s
    rw [hkc] at hks
    cases c with
    | true => rfl
    | false =>
      have : Yields (fun k => cl env k F_spec_l9Kind [.sl ks, .st [.str s, .int n, .sl ps, .sl is]]) [.bool false] := y_spec_l9Kind _ _ (Yields.obind hks (Yields.tt rfl (Yields.obind y1 (Yields.ff rfl (Yields.some _)))))
      have := Yields.uniq this h4
      cases this

/-- The same text. -/
theorem vtext_same (ks es : List T) (hk : IsKinds BB (.sl ks)) (hl : IsList BB (.sl es)) (hw : (T.sl es).wt ≤ BB) : ∃ s, Yields (fun k => cl env k F_spec_VaultsText [.sl ks, .sl es]) [.str s] ∧ Yields (fun k => cl env k F_impl_VaultsText [.sl ks, .sl es]) [.str s] := by
  have hb := bb_max (Nat.le_refl BB)
  obtain ⟨c, y1, y2, y3, _⟩ := vaults_good hb ks es hk hl
  obtain ⟨_, hq, hl1, hl2⟩ := hl
  cases hq
  have hB : BB = 1048576 := rfl
  by_cases h0 : es.length = 0
  · have : es = [] := List.length_eq_zero_iff.1 h0
    subst this
    refine ⟨⟨#[]⟩, y_spec_VaultsText _ _ (y_spec_VaultsText_0 _ _ _ _ (Yields.ff rfl (Yields.some _))), y_impl_VaultsText _ _ (Yields.obind y2 ?_)⟩
    cases c with
    | false => exact Yields.tt rfl (Yields.some _)
    | true => exact Yields.ff rfl (y_impl_VaultsText_0 _ _ _ _ (Yields.ff rfl (Yields.some _)))
  cases c with
  | false => exact ⟨⟨#[]⟩, y_spec_VaultsText _ _ (y_spec_VaultsText_0 _ _ _ _ (Yields.tt (lt_tt (i := 0) (by omega)) (Yields.obind y1 (Yields.ff rfl (Yields.some _))))), y_impl_VaultsText _ _ (Yields.obind y2 (Yields.tt rfl (Yields.some _)))⟩
  | true =>
    obtain ⟨hk2, he, _, _, hlo⟩ := y3 rfl
    have h64 : (⟨#[64]⟩ : ByteArray).size = 1 := rfl
    have h32 : (⟨#[32]⟩ : ByteArray).size = 1 := rfl
    have h10 : (⟨#[10]⟩ : ByteArray).size = 1 := rfl
    have hwt : (T.sl es).wt = T.wts es + es.length := rfl
    have key : ∀ (m i : Nat) (out : ByteArray), i + m = es.length → out.size ≤ 64 * (T.wts (es.take i) + i) → ∃ s, Yields (fun k => l_spec_VaultsText_0 (hl env k fi_spec_VaultsText) (.sl ks) (.sl es) (.str out) (.int (i : Int))) [.str s] ∧
        Yields (fun k => l_impl_VaultsText_0 (hl env k fi_impl_VaultsText) (.str out) (.sl es) (.int (es.length : Int)) (.int (i : Int))) [.str s] := by
      intro m
      induction m with
      | zero => intro i out hi _; exact ⟨out, y_spec_VaultsText_0 _ _ _ _ (Yields.ff (lt_ff (by omega)) (Yields.some _)), y_impl_VaultsText_0 _ _ _ _ (Yields.ff (lt_f (by omega)) (Yields.some _))⟩
      | succ m ih =>
        intro i out hi hout
        have hlt : i < es.length := by omega
        obtain ⟨o, v, hx, ho1, ho2, hf⟩ := at_fit hk2 hb he (hlo.2 i hlt) hl2
        rw [List.getElem?_eq_getElem hlt] at hx
        have hx := Option.some.inj hx
        have hn : ((T.sl es).nth (T.int (i : Int)).i.toNat) = .st [.int o, v] := by rw [idx_ok hlt, hx]
        have hwi : T.wts (es.take (i + 1)) = T.wts (es.take i) + v.wt := by
          rw [← List.take_append_getElem hlt, wts_append, hx]; simp [T.wts, T.wt]
        have hwl : T.wts (es.take (i + 1)) ≤ T.wts es := by
          have := wts_append (es.take (i + 1)) (es.drop (i + 1))
          rw [List.take_append_drop] at this; omega
        obtain ⟨u, t1, t2, t3⟩ := text_same v hf (by omega)
        obtain ⟨q, rfl⟩ : ∃ q : Nat, o = q := ⟨o.toNat, by omega⟩
        have d1 := dec_s q (by omega)
        have d2 := dec_i (n := q) (by omega)
        have d3 := dec_size (n := q) (by omega)
        have hassoc : out ++ (⟨#[64]⟩ ++ decS q ++ ⟨#[32]⟩ ++ u ++ ⟨#[10]⟩) = out ++ ⟨#[64]⟩ ++ decS q ++ ⟨#[32]⟩ ++ u ++ ⟨#[10]⟩ := by apply ba_ext; simp only [ba_app, List.append_assoc]
        obtain ⟨s, z1, z2⟩ := ih (i + 1) (out ++ ⟨#[64]⟩ ++ decS q ++ ⟨#[32]⟩ ++ u ++ ⟨#[10]⟩) (by omega) (by simp only [ByteArray.size_append, h64, h32, h10]; omega)
        have hnx := next_ok hlt (bb_max hl1)
        refine ⟨s, y_spec_VaultsText_0 _ _ _ _ (Yields.tt (lt_tt hlt) (Yields.obind y1 (Yields.tt rfl (Yields.tt (lim_ok (by show out.size + 1 ≤ _; omega)) (Yields.tt (in_tt hlt) ?_))))), y_impl_VaultsText_0 _ _ _ _ (Yields.tt (lt_t hlt) (Yields.tt (in_tt hlt) ?_))⟩
        · rw [hn, hnx]
          refine Yields.obind d1 (Yields.tt (lim_ok ?_) (Yields.tt (lim_ok ?_) (Yields.obind t1 (Yields.tt (lim_ok ?_) (Yields.tt (lim_ok ?_) z1)))))
          · show (out ++ ⟨#[64]⟩).size + (decS q).size ≤ _
            rw [ByteArray.size_append]; omega
          · show (out ++ ⟨#[64]⟩ ++ decS q).size + 1 ≤ _
            rw [ByteArray.size_append, ByteArray.size_append]; omega
          · show (out ++ ⟨#[64]⟩ ++ decS q ++ ⟨#[32]⟩).size + u.size ≤ _
            rw [ByteArray.size_append, ByteArray.size_append, ByteArray.size_append]; omega
          · show (out ++ ⟨#[64]⟩ ++ decS q ++ ⟨#[32]⟩ ++ u).size + 1 ≤ _
            rw [ByteArray.size_append, ByteArray.size_append, ByteArray.size_append, ByteArray.size_append]; omega
        · rw [hn, hnx]
          refine Yields.obind d2 (Yields.tt (lim_ok ?_) (Yields.tt (lim_ok ?_) (Yields.obind t2 (Yields.tt (lim_ok ?_) (Yields.tt (lim_ok ?_) (Yields.tt (lim_ok ?_) ?_))))))
          · show 1 + (decS q).size ≤ _
            omega
          · show (⟨#[64]⟩ ++ decS q : ByteArray).size + 1 ≤ _
            rw [ByteArray.size_append]; omega
          · show (⟨#[64]⟩ ++ decS q ++ ⟨#[32]⟩ : ByteArray).size + u.size ≤ _
            rw [ByteArray.size_append, ByteArray.size_append]; omega
          · show (⟨#[64]⟩ ++ decS q ++ ⟨#[32]⟩ ++ u : ByteArray).size + 1 ≤ _
            rw [ByteArray.size_append, ByteArray.size_append, ByteArray.size_append]; omega
          · show out.size + (⟨#[64]⟩ ++ decS q ++ ⟨#[32]⟩ ++ u ++ ⟨#[10]⟩ : ByteArray).size ≤ _
            rw [ByteArray.size_append, ByteArray.size_append, ByteArray.size_append, ByteArray.size_append]; omega
          · show Yields (fun k => l_impl_VaultsText_0 (hl env k fi_impl_VaultsText) (.str (out ++ (⟨#[64]⟩ ++ decS q ++ ⟨#[32]⟩ ++ u ++ ⟨#[10]⟩))) (.sl es) (.int (es.length : Int)) (.int ((i + 1 : Nat) : Int))) _
            rw [hassoc]; exact z2
    obtain ⟨s, z1, z2⟩ := key es.length 0 ⟨#[]⟩ (by omega) (by simp [ByteArray.size])
    exact ⟨s, y_spec_VaultsText _ _ z1, y_impl_VaultsText _ _ (Yields.obind y2 (Yields.ff rfl z2))⟩

theorem law_exactText (kt lt : T) (hk : IsKinds maxLen kt) (hl : IsList maxLen lt) : Yields (fun k => cl env k F_laws_FnExactVaultsText [kt, lt]) [.bool true] := by
  refine y_laws_FnExactVaultsText _ _ ?_
  obtain ⟨n, a1, a2, a3, a4⟩ := sz_kinds kt 1048576 hk (by omega) (by omega)
  refine Yields.obind a1 (Yields.ite (fun _ => Yields.some _) (fun e => ?_))
  have hn : ¬ n < 0 := of_decide_eq_false e
  obtain ⟨hk, hkw⟩ := a4 (by omega)
  obtain ⟨m, b1, b2, b3, b4⟩ := sz_list lt n hl (by omega) (by omega)
  refine Yields.obind b1 (Yields.ite (fun _ => Yields.some _) (fun e => ?_))
  have hm : ¬ m < 0 := of_decide_eq_false e
  obtain ⟨hl, hlw⟩ := b4 (by omega)
  have tk := to_kinds kt hk
  have tl := to_list lt hl
  have ek := eq_kinds kt hk
  have el := eq_list lt hl
  have hk' := hk
  have hl' := hl
  obtain ⟨ks, rfl, _⟩ := hk
  obtain ⟨es, rfl, _⟩ := hl
  obtain ⟨s, c1, c2⟩ := vtext_same ks es hk' hl' (by unfold BB; omega)
  exact Yields.obind tk (Yields.obind tl (Yields.obind c1 (Yields.obind tk (Yields.obind tl (Yields.obind c2 (Yields.ff (nse_self s) (Yields.obind tk (Yields.obind ek (Yields.ff rfl (Yields.obind tl (Yields.obind el (Yields.ff rfl (Yields.some _)))))))))))))
end Go.Proofs.YtfelodpbejdhlaaDoor.Ra
