/- A verified evaluator for the program, part Pl2 of this claim. -/
import Derived.Test.YtmhjjanaackknaaPPl1
set_option linter.unusedSimpArgs false
set_option linter.unusedVariables false
/- Plain side: all kinds; values; vaults; counts: both sides say the same. -/
namespace Go.Proofs.Ytmhjjanaackknaa.Ra
open Go

theorem in_s (x lo hi : Int) : Yields (fun k => cl env k F_spec_l6In [.int x, .int lo, .int hi]) [.bool (decide (x ≥ lo) && decide (x ≤ hi))] := by
  refine y_spec_l6In _ _ _ (Yields.ite (fun h => ?_) (fun h => ?_))
  · rw [show decide (x ≥ lo) = true from h, Bool.true_and]; exact Yields.some _
  · rw [show decide (x ≥ lo) = false from h, Bool.false_and]; exact Yields.some _

section
variable {ks : List T} {b : Nat}
theorem rec_shape (hk : ∀ x ∈ ks, IsRecs b x) {m k : Nat} (hm : m < ks.length) (hkk : k < ((T.sl ks).nth m).es.length) : ∃ (a : Int) (fs : List T), ((T.sl ks).nth m).nth k = .st [.int a, .sl fs] ∧ fs.length ≤ b ∧ ∀ x ∈ fs, IsStr x := by
  obtain ⟨rs, h1, h2, h3⟩ := hk _ (List.getElem_mem hm)
  rw [nth_lt hm, h1] at hkk ⊢
  have hkr : k < rs.length := hkk
  rw [nth_lt hkr]
  obtain ⟨a, fs, e1, _, _, e2, e3⟩ := h3 _ (List.getElem_mem hkr)
  exact ⟨a, fs, e1, e2, e3⟩

theorem rec_same (hk : ∀ x ∈ ks, IsRecs b x) (hb : b ≤ maxLen) {m k : Nat} (hm : m < ks.length) (hkk : k < ((T.sl ks).nth m).es.length) (he : Early ks m k) :
    ∃ c, Yields (fun r => cl env r F_spec_l1Record [.sl ks, .int (m : Int), .int (k : Int)]) [.bool c] ∧ Yields (fun r => cl env r F_impl_recordOk [.sl ks, .int (m : Int), .int (k : Int)]) [.bool c] ∧
      (c = true → ∃ a : Int, (((T.sl ks).nth m).nth k).fld 0 = .int a ∧ 0 ≤ a ∧ a ≤ 15) := by
  obtain ⟨a, fs, hr, hf1, hf2⟩ := rec_shape hk hm hkk
  have hrec : ((T.sl ks).nth (T.int (m : Int)).i.toNat).nth ((T.int (k : Int)).i.toNat) = .st [.int a, .sl fs] := by
    show ((T.sl ks).nth ((m : Int).toNat)).nth ((k : Int).toNat) = _
    rw [Int.toNat_natCast, Int.toNat_natCast]; exact hr
  have spec : ∀ {c : Bool} {Z : Nat → R}, ((decide (a ≥ 0) && decide (a ≤ 15)) = false → c = false) → ((decide (a ≥ 0) && decide (a ≤ 15)) = true → (fs.length : Int) > 3 → c = false) →
      ((decide (a ≥ 0) && decide (a ≤ 15)) = true → ¬ (fs.length : Int) > 3 → Yields (fun r => l_spec_l1Record_0 (Ra.hl env r fi_spec_l1Record) (.sl ks) (.int (m : Int)) (.int (k : Int)) (.int 0) (.st [.int a, .sl fs])) [.bool c]) →
      Yields (fun r => cl env r F_spec_l1Record [.sl ks, .int (m : Int), .int (k : Int)]) [.bool c] := by
    intro c Z h1 h2 h3
    refine y_spec_l1Record _ _ _ (Yields.tt (in_tt hm) (Yields.tt (rec_at hkk) ?_))
    rw [hrec]
    refine Yields.obind (in_s a 0 15) ?_
    cases hin : (decide (a ≥ 0) && decide (a ≤ 15)) with
    | false => rw [h1 hin]; exact Yields.tt rfl (Yields.some _)
    | true =>
      refine Yields.ff rfl (Yields.ite (fun e => ?_) (fun e => h3 hin (of_decide_eq_false e)))
      rw [h2 hin (of_decide_eq_true e)]; exact Yields.some _
  have impl : ∀ {c : Bool} {Z : Nat → R}, ((decide (a ≥ 0) && decide (a ≤ 15)) = false → c = false) → ((decide (a ≥ 0) && decide (a ≤ 15)) = true → (fs.length : Int) > 3 → c = false) →
      ((decide (a ≥ 0) && decide (a ≤ 15)) = true → ¬ (fs.length : Int) > 3 → Yields (fun r => l_impl_recordOk_0 (Ra.hl env r fi_impl_recordOk) (.sl ks) (.int (m : Int)) (.int (k : Int)) (.sl fs) (.int (fs.length : Int)) (.int 0) (.st [.int a, .sl fs])) [.bool c]) →
      Yields (fun r => cl env r F_impl_recordOk [.sl ks, .int (m : Int), .int (k : Int)]) [.bool c] := by
    intro c Z h1 h2 h3
    refine y_impl_recordOk _ _ _ (Yields.tt (in_tt hm) (Yields.tt (rec_at hkk) ?_))
    rw [hrec]
    refine Yields.ite (fun e => ?_) (fun e => Yields.ite (fun e2 => ?_) (fun e2 => ?_))
    · have e' : a < 0 := of_decide_eq_true e
      rw [h1 (by rw [decide_eq_false (by omega : ¬ a ≥ 0)]; rfl)]; exact Yields.some _
    · have e' : a > 15 := of_decide_eq_true e2
      rw [h1 (by rw [decide_eq_false (by omega : ¬ a ≤ 15), Bool.and_false])]; exact Yields.some _
    · have e1' : ¬ a < 0 := of_decide_eq_false e
      have e2' : ¬ a > 15 := of_decide_eq_false e2
      have hin : (decide (a ≥ 0) && decide (a ≤ 15)) = true := by rw [decide_eq_true (by omega : a ≥ 0), decide_eq_true (by omega : a ≤ 15)]; rfl
      refine Yields.ite (fun e3 => ?_) (fun e3 => h3 hin (of_decide_eq_false e3))
      rw [h2 hin (of_decide_eq_true e3)]; exact Yields.some _
  have hfld : (((T.sl ks).nth m).nth k).fld 0 = .int a := by rw [hr]; rfl
  cases hin : (decide (a ≥ 0) && decide (a ≤ 15)) with
  | false => exact ⟨false, spec (Z := fun _ => none) (fun _ => rfl) (fun h => by rw [hin] at h; cases h) (fun h => by rw [hin] at h; cases h), impl (Z := fun _ => none) (fun _ => rfl) (fun h => by rw [hin] at h; cases h) (fun h => by rw [hin] at h; cases h), fun h => by cases h⟩
  | true =>
    have hr2 : 0 ≤ a ∧ a ≤ 15 := by rw [Bool.and_eq_true, decide_eq_true_eq, decide_eq_true_eq] at hin; exact ⟨hin.1, hin.2⟩
    by_cases h3 : (fs.length : Int) > 3
    · exact ⟨false, spec (Z := fun _ => none) (fun _ => rfl) (fun _ _ => rfl) (fun _ h => absurd h3 h), impl (Z := fun _ => none) (fun _ => rfl) (fun _ _ => rfl) (fun _ h => absurd h3 h), fun h => by cases h⟩
    · obtain ⟨c, y1, y2⟩ := fields_same he hr2 (Nat.le_trans hf1 hb) hf2
      exact ⟨c, spec (Z := fun _ => none) (fun h => by rw [hin] at h; cases h) (fun _ h => absurd h h3) (fun _ _ => y1), impl (Z := fun _ => none) (fun h => by rw [hin] at h; cases h) (fun _ h => absurd h h3) (fun _ _ => y2), fun _ => ⟨a, hfld, hr2⟩⟩

/-- Each of the first modules has few records. -/
def Small (ks : List T) (m : Nat) : Prop := ∀ i, i < m → i < ks.length → ((T.sl ks).nth i).es.length ≤ 3
def KRes (ks : List T) (r : List T) : Prop := ∃ p q : Int, r = [.int p, .int q] ∧ ((p = -1 ∧ Early ks ks.length 0 ∧ Small ks ks.length) ∨ 0 ≤ p)
theorem kinds_loop (hk : ∀ x ∈ ks, IsRecs b x) (hb : b ≤ maxLen) (hl : ks.length ≤ b) : ∀ (n m : Nat), m + n = ks.length → Early ks m 0 → Small ks m →
    ∃ r, KRes ks r ∧ Yields (fun k => l_spec_KindsBad_0 (Ra.hl env k fi_spec_KindsBad) (.sl ks) (.int (m : Int))) r ∧
      Yields (fun k => l_impl_KindsBad_0 (Ra.hl env k fi_impl_KindsBad) (.sl ks) (.sl ks) (.int (ks.length : Int)) (.int (m : Int))) r := by
  intro n
  induction n with
  | zero =>
    intro m hm he hsm
    have hmk : m = ks.length := by omega
    subst hmk
    refine ⟨[.int (-1), .int (-1)], ⟨-1, -1, rfl, .inl ⟨rfl, he, hsm⟩⟩, y_spec_KindsBad_0 _ _ (Yields.ff (lt_ff (by omega)) (Yields.some _)), y_impl_KindsBad_0 _ _ _ _ (Yields.ff ?_ (Yields.some _))⟩
    rw [lt_nat]; exact decide_eq_false (by omega)
  | succ n ih =>
    intro m hm he hsm
    have hlt : m < ks.length := by omega
    obtain ⟨rs, hrs, hrl, hrr⟩ := hk _ (List.getElem_mem hlt)
    have hnth : ((T.sl ks).nth (T.int (m : Int)).i.toNat) = .sl rs := by rw [idx_ok hlt, hrs]
    have hnth' : ((T.sl ks).nth m) = .sl rs := by rw [nth_lt hlt, hrs]
    have c1 : decide ((T.int (m : Int)).i < (T.int (ks.length : Int)).i) = true := by rw [lt_nat]; exact decide_eq_true hlt
    have hnx := next_ok hlt (Nat.le_trans hl hb)
    -- the inner loop
    have inner : rs.length ≤ 3 → ∀ (n' k : Nat), k + n' = rs.length → Early ks m k →
        ∃ r, KRes ks r ∧ Yields (fun r => l_spec_KindsBad_1 (Ra.hl env r fi_spec_KindsBad) (.sl ks) (.int (m : Int)) (.int (k : Int))) r ∧
          Yields (fun r => l_impl_KindsBad_1 (Ra.hl env r fi_impl_KindsBad) (.sl ks) (.int (m : Int)) (.sl ks) (.int (ks.length : Int)) (.int (m : Int)) (.int (rs.length : Int)) (.int (k : Int))) r := by
      intro h3 n'
      have hsm' : Small ks (m + 1) := fun i hi hi2 => by
        by_cases him : i < m
        · exact hsm i him hi2
        · have : i = m := by omega
          subst this
          rw [hnth']; exact h3
      induction n' with
      | zero =>
        intro k hkr hek
        have hkk : k = rs.length := by omega
        subst hkk
        have he' : Early ks (m + 1) 0 := by
          intro i j hij hi hj
          rcases hij with h | ⟨_, h⟩
          · by_cases him : i < m
            · exact he i j (.inl him) hi hj
            · have : i = m := by omega
              subst this
              rw [hnth'] at hj
              exact hek i j (.inr ⟨rfl, hj⟩) hi (by rw [hnth']; exact hj)
          · omega
        obtain ⟨r, r1, y1, y2⟩ := ih (m + 1) (by omega) he' hsm'
        refine ⟨r, r1, y_spec_KindsBad_1 _ _ _ (Yields.tt (in_tt hlt) (Yields.ff ?_ ?_)), y_impl_KindsBad_1 _ _ _ _ _ _ _ (Yields.ff ?_ ?_)⟩
        · rw [hnth]; exact lt_ff (by omega)
        · rw [hnx]; exact y1
        · rw [lt_nat]; exact decide_eq_false (by omega)
        · rw [hnx]; exact y2
      | succ n' ihk =>
        intro k hkr hek
        have hkl : k < rs.length := by omega
        have hkk : k < ((T.sl ks).nth m).es.length := by rw [hnth']; exact hkl
        obtain ⟨c, z1, z2, z3⟩ := rec_same hk hb hlt hkk hek
        have c2 : decide ((T.int (k : Int)).i < (T.int (rs.length : Int)).i) = true := by rw [lt_nat]; exact decide_eq_true hkl
        have c3 : decide ((T.int (k : Int)).i < ((((T.sl ks).nth (T.int (m : Int)).i.toNat).es).length : Int)) = true := by rw [hnth]; exact lt_tt hkl
        cases c with
        | false =>
          exact ⟨[.int (m : Int), .int (k : Int)], ⟨m, k, rfl, .inr (by omega)⟩, y_spec_KindsBad_1 _ _ _ (Yields.tt (in_tt hlt) (Yields.tt c3 (Yields.obind z1 (Yields.tt rfl (Yields.some _))))),
            y_impl_KindsBad_1 _ _ _ _ _ _ _ (Yields.tt c2 (Yields.obind z2 (Yields.tt rfl (Yields.some _))))⟩
        | true =>
          have hek' : Early ks m (k + 1) := by
            intro i j hij hi hj
            rcases hij with h | ⟨h1, h2⟩
            · exact hek i j (.inl h) hi hj
            · by_cases hjk : j < k
              · exact hek i j (.inr ⟨h1, hjk⟩) hi hj
              · have : j = k := by omega
                subst this; subst h1
                exact z3 rfl
          obtain ⟨r, r1, y1, y2⟩ := ihk (k + 1) (by omega) hek'
          have hnk := next_ok hkl (Nat.le_trans hrl hb)
          refine ⟨r, r1, y_spec_KindsBad_1 _ _ _ (Yields.tt (in_tt hlt) (Yields.tt c3 (Yields.obind z1 (Yields.ff rfl ?_)))), y_impl_KindsBad_1 _ _ _ _ _ _ _ (Yields.tt c2 (Yields.obind z2 (Yields.ff rfl ?_)))⟩
          · rw [hnk]; exact y1
          · rw [hnk]; exact y2
    by_cases h3 : (rs.length : Int) > 3
    · refine ⟨[.int (m : Int), .int 3], ⟨m, 3, rfl, .inr (by omega)⟩, y_spec_KindsBad_0 _ _ (Yields.tt (lt_tt hlt) (Yields.tt (in_tt hlt) (Yields.tt ?_ (Yields.some _)))),
        y_impl_KindsBad_0 _ _ _ _ (Yields.tt c1 (Yields.tt (in_tt hlt) (Yields.tt ?_ (Yields.some _))))⟩
      · rw [hnth]; exact decide_eq_true h3
      · rw [hnth]; exact decide_eq_true h3
    · obtain ⟨r, r1, y1, y2⟩ := inner (by omega) rs.length 0 (by omega) he
      refine ⟨r, r1, y_spec_KindsBad_0 _ _ (Yields.tt (lt_tt hlt) (Yields.tt (in_tt hlt) (Yields.ff ?_ ?_))), y_impl_KindsBad_0 _ _ _ _ (Yields.tt c1 (Yields.tt (in_tt hlt) (Yields.ff ?_ ?_)))⟩
      · rw [hnth]; exact decide_eq_false h3
      · exact y1
      · rw [hnth]; exact decide_eq_false h3
      · rw [hnth]; exact y2

theorem kindsBad_same (hk : ∀ x ∈ ks, IsRecs b x) (hb : b ≤ maxLen) (hl : ks.length ≤ b) : ∃ r, (KRes ks r ∧ (ks.length ≤ 3 ∨ r = [.int 3, .int 0])) ∧ Yields (fun k => cl env k F_spec_KindsBad [.sl ks]) r ∧ Yields (fun k => cl env k F_impl_KindsBad [.sl ks]) r := by
  by_cases h3 : (ks.length : Int) > 3
  · exact ⟨[.int 3, .int 0], ⟨⟨3, 0, rfl, .inr (by omega)⟩, .inr rfl⟩, y_spec_KindsBad _ (Yields.tt (decide_eq_true h3) (Yields.some _)), y_impl_KindsBad _ (Yields.tt (decide_eq_true h3) (Yields.some _))⟩
  · obtain ⟨r, r1, y1, y2⟩ := kinds_loop hk hb hl ks.length 0 (by omega) (fun i j h => by omega) (fun i h => by omega)
    exact ⟨r, ⟨r1, .inl (by omega)⟩, y_spec_KindsBad _ (Yields.ff (decide_eq_false h3) y1), y_impl_KindsBad _ (Yields.ff (decide_eq_false h3) y2)⟩
theorem kindsOk_small (hk : ∀ x ∈ ks, IsRecs b x) (hb : b ≤ maxLen) (hl : ks.length ≤ b) : ∃ c, Yields (fun k => cl env k F_spec_KindsOk [.sl ks]) [.bool c] ∧ Yields (fun k => cl env k F_impl_KindsOk [.sl ks]) [.bool c] ∧ (c = true → Early ks ks.length 0 ∧ Small ks ks.length ∧ ks.length ≤ 3) := by
  obtain ⟨r, ⟨⟨p, q, rfl, hr⟩, h3⟩, y1, y2⟩ := kindsBad_same hk hb hl
  rcases hr with ⟨rfl, he, hs⟩ | hp
  · exact ⟨true, y_spec_KindsOk _ (Yields.obind y1 (Yields.some _)), y_impl_KindsOk _ (Yields.obind y2 (Yields.some _)), fun _ => ⟨he, hs, h3.elim id fun h => by cases h⟩⟩
  · refine ⟨false, y_spec_KindsOk _ (Yields.obind y1 ?_), y_impl_KindsOk _ (Yields.obind y2 ?_), fun h => by cases h⟩
    · show Yields (fun _ => some [T.bool (decide (p < 0))]) _
      rw [decide_eq_false (by omega)]; exact Yields.some _
    · show Yields (fun _ => some [T.bool (p == -1)]) _
      rw [show (p == -1) = false from beq_eq_false_iff_ne.2 (by omega)]; exact Yields.some _
theorem kindsOk_same (hk : ∀ x ∈ ks, IsRecs b x) (hb : b ≤ maxLen) (hl : ks.length ≤ b) : ∃ c, Yields (fun k => cl env k F_spec_KindsOk [.sl ks]) [.bool c] ∧ Yields (fun k => cl env k F_impl_KindsOk [.sl ks]) [.bool c] ∧ (c = true → Early ks ks.length 0) := by
  obtain ⟨c, y1, y2, y3⟩ := kindsOk_small hk hb hl
  exact ⟨c, y1, y2, fun h => (y3 h).1⟩
end
end Go.Proofs.Ytmhjjanaackknaa.Ra
/- Plain side: values, vaults, counts; the law. -/
namespace Go.Proofs.Ytmhjjanaackknaa.Ra
open Go

theorem val_shape {b : Nat} {v : T} (h : IsVal b v) : ∃ (s : ByteArray) (n : Int) (ps is : List T), v = .st [.str s, .int n, .sl ps, .sl is] ∧ ps.length ≤ b ∧ is.length ≤ b ∧ (∀ x ∈ ps, IsVal b x) ∧ (∀ x ∈ is, ∃ m : Int, x = .int m) ∧ s.size ≤ maxLen ∧ -9223372036854775808 ≤ n ∧ n ≤ 9223372036854775807 := by
  cases h with
  | mk h1 h2 h3 h4 h5 h6 h7 => exact ⟨_, _, _, _, rfl, h4, h5, h7, h6, h1, h2, h3⟩
theorem len0 (l : List T) : (((l.length : Int) == (0 : Int)) : Bool) = l.isEmpty := by
  cases l with
  | nil => rfl
  | cons a l => rw [show (((a :: l).length : Int) == 0) = false from beq_eq_false_iff_ne.2 (by simp; omega)]; rfl
theorem lenpos (l : List T) : decide ((l.length : Int) > (0 : Int)) = !l.isEmpty := by
  cases l with
  | nil => rfl
  | cons a l => rw [decide_eq_true (by simp)]; rfl

section
variable {ks : List T} {b : Nat}
theorem l2plain (s : T) (n : T) (ps is : List T) : Yields (fun k => cl env k F_spec_l2Plain [.st [s, n, .sl ps, .sl is]]) [.bool (ps.isEmpty && is.isEmpty)] := by
  have e2 : ((((T.st [s, n, .sl ps, .sl is]).fld 2).es).length : Int) = (ps.length : Int) := rfl
  have e3 : ((((T.st [s, n, .sl ps, .sl is]).fld 3).es).length : Int) = (is.length : Int) := rfl
  refine y_spec_l2Plain _ ?_
  unfold b_spec_l2Plain
  rw [e2, e3, len0, len0]
  cases ps.isEmpty with
  | true => exact Yields.tt rfl (Yields.some _)
  | false => exact Yields.ff rfl (Yields.some _)

theorem fits_same (hk : ∀ x ∈ ks, IsRecs b x) (hb : b ≤ maxLen) : ∀ v, IsVal b v → ∃ c, Yields (fun k => cl env k F_spec_l2Ok [.sl ks, v]) [.bool c] ∧ Yields (fun k => cl env k F_impl_valueFits [.sl ks, v]) [.bool c] ∧
    (c = true → (baseB (v.fld 0).s || kinB ks (v.fld 0).s) = true) := by
  intro v h
  induction h with
  | @mk s n ps is h1 h2 h3 h4 h5 h6 h7 ih =>
    have e0 : ((T.st [.str s, .int n, .sl ps, .sl is]).fld 0).s = s := rfl
    have e2 : ((((T.st [.str s, .int n, .sl ps, .sl is]).fld 2).es).length : Int) = (ps.length : Int) := rfl
    have e3 : decide (((((T.st [.str s, .int n, .sl ps, .sl is]).fld 3).es).length : Int) > (0 : Int)) = !is.isEmpty := lenpos is
    rw [e0]
    -- the base kinds
    have basic : ∀ (hi : Int) (c : Bool), c = (ps.isEmpty && is.isEmpty && (decide (n ≥ 0) && decide (n ≤ hi))) →
        Yields (fun k => obind (cl env k F_spec_l2Plain [T.st [.str s, .int n, .sl ps, .sl is]]) fun r1 =>
          bif (rt r1 0).b then
            obind (cl env k F_spec_l6In [.int n, (T.int (0 : Int)), (T.int hi)]) fun r2 =>
            some [(rt r2 0)]
          else
            some [(T.bool false)]) [.bool c] := by
      intro hi c hc
      subst hc
      refine Yields.obind (l2plain _ _ ps is) ?_
      cases hpi : (ps.isEmpty && is.isEmpty) with
      | true => exact Yields.tt rfl (Yields.obind (in_s n 0 hi) (Yields.some _))
      | false => exact Yields.ff rfl (Yields.some _)
    by_cases b1 : (s.toList == (⟨#[110]⟩ : ByteArray).toList) = true
    · have hbase : baseB s = true := by unfold baseB; rw [b1]; rfl
      refine ⟨ps.isEmpty && is.isEmpty && (decide (n ≥ 0) && decide (n ≤ 1000000)), y_spec_l2Ok _ _ (Yields.tt b1 (basic 1000000 _ rfl)), ?_, fun _ => by rw [hbase]; rfl⟩
      refine y_impl_valueFits _ _ ?_
      unfold b_impl_valueFits
      rw [e3]
      cases his : is.isEmpty with
      | false => rw [Bool.and_false, Bool.false_and]; exact Yields.tt rfl (Yields.some _)
      | true =>
        have hpl := plain_i ks s
        rw [hbase, Bool.true_or] at hpl
        refine Yields.ff rfl (Yields.obind hpl (Yields.ff rfl (Yields.tt b1 ?_)))
        rw [Bool.and_true]
        refine Yields.ite (fun q1 => Yields.ite (fun q2 => ?_) (fun q2 => ?_)) (fun q1 => ?_)
        · rw [show decide (n ≥ 0) = true from q1, show decide (n ≤ 1000000) = true from q2, Bool.and_self, Bool.and_true, ← len0]; exact Yields.some _
        · rw [show decide (n ≤ 1000000) = false from q2, Bool.and_false, Bool.and_false]; exact Yields.some _
        · rw [show decide (n ≥ 0) = false from q1, Bool.false_and, Bool.and_false]; exact Yields.some _
    · have b1 := eq_false_of_ne_true b1
      by_cases b2 : (s.toList == (⟨#[98]⟩ : ByteArray).toList) = true
      · have hbase : baseB s = true := by unfold baseB; rw [b2]; simp
        refine ⟨ps.isEmpty && is.isEmpty && (decide (n ≥ 0) && decide (n ≤ 1)), y_spec_l2Ok _ _ (Yields.ff b1 (Yields.tt b2 (basic 1 _ rfl))), ?_, fun _ => by rw [hbase]; rfl⟩
        refine y_impl_valueFits _ _ ?_
        unfold b_impl_valueFits
        rw [e3]
        cases his : is.isEmpty with
        | false => rw [Bool.and_false, Bool.false_and]; exact Yields.tt rfl (Yields.some _)
        | true =>
          have hpl := plain_i ks s
          rw [hbase, Bool.true_or] at hpl
          refine Yields.ff rfl (Yields.obind hpl (Yields.ff rfl (Yields.ff b1 (Yields.tt b2 ?_))))
          rw [Bool.and_true]
          refine Yields.ite (fun q1 => ?_) (fun q1 => Yields.ite (fun q2 => ?_) (fun q2 => ?_))
          · have q : n = 0 := by have : (n == 0) = true := q1
                                 simpa using this
            subst q
            rw [show (decide ((0 : Int) ≥ 0) && decide ((0 : Int) ≤ 1)) = true from rfl, Bool.and_true, ← len0]; exact Yields.some _
          · have q : n = 1 := by have : (n == 1) = true := q2
                                 simpa using this
            subst q
            rw [show (decide ((1 : Int) ≥ 0) && decide ((1 : Int) ≤ 1)) = true from rfl, Bool.and_true, ← len0]; exact Yields.some _
          · have p0 : ¬ n = 0 := by have : (n == 0) = false := q1
                                    simpa using this
            have p1 : ¬ n = 1 := by have : (n == 1) = false := q2
                                    simpa using this
            have : (decide (n ≥ 0) && decide (n ≤ 1)) = false := by
              by_cases hn : n ≥ 0
              · rw [decide_eq_false (by omega : ¬ n ≤ 1), Bool.and_false]
              · rw [decide_eq_false hn, Bool.false_and]
            rw [this, Bool.and_false]; exact Yields.some _
      · have b2 := eq_false_of_ne_true b2
        by_cases b3 : (s.toList == (⟨#[111]⟩ : ByteArray).toList) = true
        · have hbase : baseB s = true := by unfold baseB; rw [b3]; simp
          refine ⟨ps.isEmpty && is.isEmpty && (decide (n ≥ 0) && decide (n ≤ 3)), y_spec_l2Ok _ _ (Yields.ff b1 (Yields.ff b2 (Yields.tt b3 (basic 3 _ rfl)))), ?_, fun _ => by rw [hbase]; rfl⟩
          refine y_impl_valueFits _ _ ?_
          unfold b_impl_valueFits
          rw [e3]
          cases his : is.isEmpty with
          | false => rw [Bool.and_false, Bool.false_and]; exact Yields.tt rfl (Yields.some _)
          | true =>
            have hpl := plain_i ks s
            rw [hbase, Bool.true_or] at hpl
            refine Yields.ff rfl (Yields.obind hpl (Yields.ff rfl (Yields.ff b1 (Yields.ff b2 (Yields.tt b3 ?_)))))
            rw [Bool.and_true]
            refine Yields.ite (fun q1 => Yields.ite (fun q2 => ?_) (fun q2 => ?_)) (fun q1 => ?_)
            · have q2' : n < 4 := of_decide_eq_true q2
              rw [show decide (n ≥ 0) = true from q1, decide_eq_true (by omega : n ≤ 3), Bool.and_self, Bool.and_true, ← len0]; exact Yields.some _
            · have q2' : ¬ n < 4 := of_decide_eq_false q2
              rw [decide_eq_false (by omega : ¬ n ≤ 3), Bool.and_false, Bool.and_false]; exact Yields.some _
            · rw [show decide (n ≥ 0) = false from q1, Bool.false_and, Bool.and_false]; exact Yields.some _
        · have b3 := eq_false_of_ne_true b3
          have hbase : baseB s = false := by unfold baseB; rw [b1, b2, b3]; rfl
          have hpl := plain_i ks s
          rw [hbase, Bool.false_or] at hpl ⊢
          -- no plain kind: no
          have nope : kinB ks s = false → ∃ c, Yields (fun k => cl env k F_spec_l2Ok [.sl ks, T.st [.str s, .int n, .sl ps, .sl is]]) [.bool c] ∧ Yields (fun k => cl env k F_impl_valueFits [.sl ks, T.st [.str s, .int n, .sl ps, .sl is]]) [.bool c] ∧ (c = true → kinB ks s = true) := by
            intro hkn
            refine ⟨false, y_spec_l2Ok _ _ (Yields.ff b1 (Yields.ff b2 (Yields.ff b3 (Yields.obind (kind_s s) ?_)))), ?_, fun h => by cases h⟩
            · unfold kinB at hkn
              cases hkc : kindC s with
              | none => exact Yields.tt rfl (Yields.some _)
              | some x =>
                obtain ⟨i, j⟩ := x
                rw [hkc] at hkn
                have hs := has_s ks i j
                rw [show hasB ks i j = false from hkn] at hs
                exact Yields.ff rfl (Yields.obind hs (Yields.tt rfl (Yields.some _)))
            · refine y_impl_valueFits _ _ ?_
              unfold b_impl_valueFits
              rw [e3]
              rw [hkn] at hpl
              cases is.isEmpty with
              | false => exact Yields.tt rfl (Yields.some _)
              | true => exact Yields.ff rfl (Yields.obind hpl (Yields.tt rfl (Yields.some _)))
          cases hkn : kinB ks s with
          | false =>
            have := nope hkn
            rw [hkn] at this
            exact this
          | true =>
            rw [hkn] at hpl
            have hkn' := hkn
            unfold kinB at hkn'
            cases hkc : kindC s with
            | none => rw [hkc] at hkn'; cases hkn'
            | some x =>
              obtain ⟨i, j⟩ := x
              rw [hkc] at hkn'
              have hh : hasB ks i j = true := hkn'
              obtain ⟨g1, g2⟩ := has_two hh
              obtain ⟨a, fs, hr, hf1, hf2⟩ := rec_shape hk g1 g2
              have hrec : ((T.sl ks).nth (T.int (i : Int)).i.toNat).nth ((T.int (j : Int)).i.toNat) = .st [.int a, .sl fs] := by
                show ((T.sl ks).nth ((i : Int).toNat)).nth ((j : Int).toNat) = _
                rw [Int.toNat_natCast, Int.toNat_natCast]; exact hr
              have hs := has_s ks i j
              rw [hh] at hs
              -- the parts
              have loop : ∃ c, (ps.length = fs.length → Yields (fun k => l_spec_l2Ok_0 (Ra.hl env k fi_spec_l2Ok) (.sl ks) (.int (i : Int)) (.int (j : Int)) (.int 0) (.st [.str s, .int n, .sl ps, .sl is])) [.bool c] ∧
                  Yields (fun k => l_impl_valueFits_0 (Ra.hl env k fi_impl_valueFits) (.sl ks) (.sl fs) (.sl ps) (.int (ps.length : Int)) (.int 0)) [.bool c]) := by
                by_cases hlen : ps.length = fs.length
                · have key : ∀ (m q : Nat), q + m = ps.length → ∃ c, Yields (fun k => l_spec_l2Ok_0 (Ra.hl env k fi_spec_l2Ok) (.sl ks) (.int (i : Int)) (.int (j : Int)) (.int (q : Int)) (.st [.str s, .int n, .sl ps, .sl is])) [.bool c] ∧
                      Yields (fun k => l_impl_valueFits_0 (Ra.hl env k fi_impl_valueFits) (.sl ks) (.sl fs) (.sl ps) (.int (ps.length : Int)) (.int (q : Int))) [.bool c] := by
                    intro m
                    induction m with
                    | zero =>
                      intro q hq
                      refine ⟨true, y_spec_l2Ok_0 _ _ _ _ _ (Yields.ff (lt_ff (es := ps) (by omega)) (Yields.some _)), y_impl_valueFits_0 _ _ _ _ _ (Yields.ff ?_ (Yields.some _))⟩
                      rw [lt_nat]; exact decide_eq_false (by omega)
                    | succ m ihm =>
                      intro q hq
                      have hlt : q < ps.length := by omega
                      have hlf : q < fs.length := by omega
                      obtain ⟨c, y1, y2⟩ := ihm (q + 1) (by omega)
                      obtain ⟨c', z1, z2, _⟩ := ih _ (List.getElem_mem hlt)
                      have hn1 : ((T.sl ps).nth (T.int (q : Int)).i.toNat) = ps[q] := idx_ok hlt
                      have hnx := next_ok hlt (Nat.le_trans h4 hb)
                      have c2 : decide ((T.int (q : Int)).i < (T.int (ps.length : Int)).i) = true := by rw [lt_nat]; exact decide_eq_true hlt
                      have d1 : (decide (0 ≤ (T.int (q : Int)).i) && decide ((T.int (q : Int)).i.toNat < ((((((T.sl ks).nth (T.int (i : Int)).i.toNat).nth ((T.int (j : Int)).i.toNat)).fld 1).es).length))) = true := by rw [hrec]; exact in_tt hlf
                      -- the same test on both sides
                      generalize htest : (!((((T.sl ps).nth (T.int (q : Int)).i.toNat).fld 0).s.toList == ((T.sl fs).nth (T.int (q : Int)).i.toNat).s.toList)) = tst
                      have spec : ∀ r, (tst = true → r = [T.bool false]) → (tst = false → c' = false → r = [T.bool false]) → (tst = false → c' = true → r = [T.bool c]) →
                          Yields (fun k => l_spec_l2Ok_0 (Ra.hl env k fi_spec_l2Ok) (.sl ks) (.int (i : Int)) (.int (j : Int)) (.int (q : Int)) (.st [.str s, .int n, .sl ps, .sl is])) r := by
                        intro r r1 r2 r3
                        refine y_spec_l2Ok_0 _ _ _ _ _ (Yields.tt (lt_tt (es := ps) hlt) (Yields.tt (in_tt (es := ps) hlt) (Yields.tt (in_tt g1) (Yields.tt (rec_at g2) (Yields.tt d1 ?_)))))
                        rw [hrec]
                        refine Yields.ite (fun t => ?_) (fun t => ?_)
                        · rw [r1 (htest.symm.trans t)]; exact Yields.some _
                        · have t' : tst = false := htest.symm.trans t
                          have z1' : Yields (fun k => cl env k F_spec_l2Ok [.sl ks, (((T.st [.str s, .int n, .sl ps, .sl is]).fld 2).nth (T.int (q : Int)).i.toNat)]) [.bool c'] := by
                            rw [show (((T.st [.str s, .int n, .sl ps, .sl is]).fld 2).nth (T.int (q : Int)).i.toNat) = ps[q] from hn1]; exact z1
                          refine Yields.obind z1' ?_
                          cases hc' : c' with
                          | false => rw [r2 t' hc']; exact Yields.tt rfl (Yields.some _)
                          | true => rw [r3 t' hc', hnx]; exact Yields.ff rfl y1
                      have impl : ∀ r, (tst = true → r = [T.bool false]) → (tst = false → c' = false → r = [T.bool false]) → (tst = false → c' = true → r = [T.bool c]) →
                          Yields (fun k => l_impl_valueFits_0 (Ra.hl env k fi_impl_valueFits) (.sl ks) (.sl fs) (.sl ps) (.int (ps.length : Int)) (.int (q : Int))) r := by
                        intro r r1 r2 r3
                        refine y_impl_valueFits_0 _ _ _ _ _ (Yields.tt c2 (Yields.tt (in_tt hlt) (Yields.tt (in_tt hlf) ?_)))
                        refine Yields.ite (fun t => ?_) (fun t => ?_)
                        · rw [r1 (htest.symm.trans t)]; exact Yields.some _
                        · have t' : tst = false := htest.symm.trans t
                          have z2' : Yields (fun k => cl env k F_impl_valueFits [.sl ks, ((T.sl ps).nth (T.int (q : Int)).i.toNat)]) [.bool c'] := by rw [hn1]; exact z2
                          refine Yields.obind z2' ?_
                          cases hc' : c' with
                          | false => rw [r2 t' hc']; exact Yields.tt rfl (Yields.some _)
                          | true => rw [r3 t' hc', hnx]; exact Yields.ff rfl y2
                      cases tst with
                      | true => exact ⟨false, spec _ (fun _ => rfl) (fun h => by cases h) (fun h => by cases h), impl _ (fun _ => rfl) (fun h => by cases h) (fun h => by cases h)⟩
                      | false =>
                        cases c' with
                        | false => exact ⟨false, spec _ (fun h => by cases h) (fun _ _ => rfl) (fun _ h => by cases h), impl _ (fun h => by cases h) (fun _ _ => rfl) (fun _ h => by cases h)⟩
                        | true => exact ⟨c, spec _ (fun h => by cases h) (fun _ h => by cases h) (fun _ _ => rfl), impl _ (fun h => by cases h) (fun _ h => by cases h) (fun _ _ => rfl)⟩
                  obtain ⟨c, y1, y2⟩ := key ps.length 0 (by omega)
                  exact ⟨c, fun _ => ⟨y1, y2⟩⟩
                · exact ⟨false, fun h => absurd h hlen⟩
              obtain ⟨c, hloop⟩ := loop
              let res : Bool := is.isEmpty && ((n == 0) && (decide (ps.length = fs.length) && c))
              refine ⟨res, ?_, ?_, fun _ => rfl⟩
              · refine y_spec_l2Ok _ _ (Yields.ff b1 (Yields.ff b2 (Yields.ff b3 (Yields.obind (kind_s s) ?_))))
                rw [hkc]
                refine Yields.ff rfl (Yields.obind hs (Yields.ff rfl ?_))
                show Yields _ [T.bool (is.isEmpty && ((n == 0) && (decide (ps.length = fs.length) && c)))]
                refine Yields.ite (fun q1 => ?_) (fun q1 => ?_)
                · have : (n == 0) = false := by have : (n != 0) = true := q1
                                                simpa using this
                  rw [this, Bool.false_and, Bool.and_false]; exact Yields.some _
                · have : (n == 0) = true := by have : (n != 0) = false := q1
                                               simpa using this
                  rw [this, Bool.true_and, e3]
                  cases his : is.isEmpty with
                  | false => exact Yields.tt rfl (Yields.some _)
                  | true =>
                    refine Yields.ff rfl (Yields.tt (in_tt g1) (Yields.tt (rec_at g2) ?_))
                    have hrec' : ((T.sl ks).nth (((rt (kindR (some (i, j))) 0).i).toNat)).nth (((rt (kindR (some (i, j))) 1).i).toNat) = .st [.int a, .sl fs] := hrec
                    rw [hrec']
                    by_cases hlen : ps.length = fs.length
                    · rw [decide_eq_true hlen]
                      refine Yields.ff ?_ (hloop hlen).1
                      show (((ps.length : Int)) != (fs.length : Int)) = false
                      rw [hlen]; simp
                    · rw [decide_eq_false hlen]
                      refine Yields.tt ?_ (Yields.some _)
                      show (((ps.length : Int)) != (fs.length : Int)) = true
                      rw [bne_iff_ne]; omega
              · refine y_impl_valueFits _ _ ?_
                unfold b_impl_valueFits
                rw [e3]
                show Yields _ [T.bool (is.isEmpty && ((n == 0) && (decide (ps.length = fs.length) && c)))]
                cases his : is.isEmpty with
                | false => exact Yields.tt rfl (Yields.some _)
                | true =>
                  have hro := recOf_i ks hkc hh
                  rw [hr] at hro
                  refine Yields.ff rfl (Yields.obind hpl (Yields.ff rfl (Yields.ff b1 (Yields.ff b2 (Yields.ff b3 (Yields.obind hro ?_))))))
                  refine Yields.ite (fun q1 => ?_) (fun q1 => ?_)
                  · have : (n == 0) = false := by have : (n != 0) = true := q1
                                                  simpa using this
                    rw [this]; exact Yields.some _
                  · have : (n == 0) = true := by have : (n != 0) = false := q1
                                                 simpa using this
                    rw [this]
                    by_cases hlen : ps.length = fs.length
                    · rw [decide_eq_true hlen]
                      refine Yields.ff ?_ (hloop hlen).2
                      show (((ps.length : Int)) != (fs.length : Int)) = false
                      rw [hlen]; simp
                    · rw [decide_eq_false hlen]
                      refine Yields.tt ?_ (Yields.some _)
                      show (((ps.length : Int)) != (fs.length : Int)) = true
                      rw [bne_iff_ne]; omega
end
end Go.Proofs.Ytmhjjanaackknaa.Ra
/- Plain side: vaults and counts; the law. -/
namespace Go.Proofs.Ytmhjjanaackknaa.Ra
open Go

theorem keep_fin : ∀ (a : Fin 16), (andI (a.val : Int) 8 != 0) = (((a.val : Int).tdiv 8).tmod 2 == 1) := by decide +kernel
theorem keep_eq {a : Int} (h0 : 0 ≤ a) (h1 : a ≤ 15) : (andI a 8 != 0) = ((a.tdiv 8).tmod 2 == 1) := by
  have := keep_fin ⟨a.toNat, by omega⟩
  simp only at this
  rwa [Int.toNat_of_nonneg h0] at this

section
variable {ks : List T} {b : Nat}
theorem keep_kin (hk : ∀ x ∈ ks, IsRecs b x) (hb : b ≤ maxLen) (he : Early ks ks.length 0) (v : T) (hv : IsVal b v) : ∃ c, Yields (fun k => cl env k F_spec_l9Kind [.sl ks, v]) [.bool c] ∧ Yields (fun k => cl env k F_impl_keepable [.sl ks, v]) [.bool c] ∧ (c = true → kinB ks (v.fld 0).s = true) := by
  obtain ⟨c, y1, y2, y3⟩ := fits_same hk hb v hv
  obtain ⟨s, n, ps, is, rfl, _⟩ := val_shape hv
  have y3 : c = true → (baseB s || kinB ks s) = true := y3
  cases hkc : kindC s with
  | none =>
    have hkn : kinB ks s = false := by unfold kinB; rw [hkc]
    refine ⟨false, y_spec_l9Kind _ _ (Yields.obind (kind_s s) ?_), y_impl_keepable _ _ (Yields.obind (kin_i ks s) ?_), fun h => by cases h⟩
    · rw [hkc]; exact Yields.ff rfl (Yields.some _)
    · rw [hkn]; exact Yields.ff rfl (Yields.some _)
  | some x =>
    obtain ⟨i, j⟩ := x
    have hnb : baseB s = false := by
      cases hb : baseB s with
      | false => rfl
      | true => rw [base_kind hb] at hkc; cases hkc
    have hkn : kinB ks s = hasB ks i j := by unfold kinB; rw [hkc]
    cases hh : hasB ks i j with
    | false =>
      have hc : c = false := by
        cases c with
        | false => rfl
        | true => have := y3 rfl; rw [hnb, hkn, hh] at this; cases this
      subst hc
      refine ⟨false, y_spec_l9Kind _ _ (Yields.obind (kind_s s) ?_), y_impl_keepable _ _ (Yields.obind (kin_i ks s) ?_), fun h => by cases h⟩
      · rw [hkc]; exact Yields.tt rfl (Yields.obind y1 (Yields.ff rfl (Yields.some _)))
      · rw [hkn, hh]; exact Yields.ff rfl (Yields.some _)
    | true =>
      obtain ⟨g1, g2⟩ := has_two hh
      obtain ⟨a, ha1, ha2⟩ := he i j (.inl g1) g1 g2
      have hro := recOf_i ks hkc hh
      have hab := able_s ks s (by rw [hkn, hh, Bool.or_true])
      have habt : ableT ks s = .int a := by unfold ableT; rw [hkc]; exact ha1
      rw [habt] at hab
      have hkp := keep_eq ha2.1 ha2.2
      refine ⟨c && (andI a 8 != 0), y_spec_l9Kind _ _ (Yields.obind (kind_s s) ?_), y_impl_keepable _ _ (Yields.obind (kin_i ks s) ?_), fun _ => (by show kinB ks s = true; rw [hkn, hh])⟩
      · rw [hkc, hkp]
        refine Yields.tt rfl (Yields.obind y1 ?_)
        cases c with
        | false => exact Yields.ff rfl (Yields.some _)
        | true => exact Yields.tt rfl (Yields.obind hab (Yields.obind (can_s a 8 ha2 (.inr (.inr (.inr rfl)))) (Yields.some _)))
      · rw [hkn, hh]
        refine Yields.tt rfl (Yields.obind hro ?_)
        show Yields (fun k => bif (andI ((((T.sl ks).nth i).nth j).fld 0).i 8 != 0) then obind (cl env k F_impl_valueFits [.sl ks, .st [.str s, .int n, .sl ps, .sl is]]) (fun r3 => some [rt r3 0]) else some [T.bool false]) _
        rw [ha1]
        show Yields (fun k => bif (andI a 8 != 0) then obind (cl env k F_impl_valueFits [.sl ks, .st [.str s, .int n, .sl ps, .sl is]]) (fun r3 => some [rt r3 0]) else some [T.bool false]) _
        cases (andI a 8 != 0) with
        | true => rw [Bool.and_true]; exact Yields.tt rfl (Yields.obind y2 (Yields.some _))
        | false => rw [Bool.and_false]; exact Yields.ff rfl (Yields.some _)

theorem keep_same (hk : ∀ x ∈ ks, IsRecs b x) (hb : b ≤ maxLen) (he : Early ks ks.length 0) (v : T) (hv : IsVal b v) : ∃ c, Yields (fun k => cl env k F_spec_l9Kind [.sl ks, v]) [.bool c] ∧ Yields (fun k => cl env k F_impl_keepable [.sl ks, v]) [.bool c] := by
  obtain ⟨c, y1, y2, _⟩ := keep_kin hk hb he v hv
  exact ⟨c, y1, y2⟩

def KeepOk (ks : List T) (v : T) : Prop := Yields (fun k => cl env k F_spec_l9Kind [.sl ks, v]) [.bool true]
def befB (p : Int) (u : T) (o : Int) (v : T) : Bool := decide (p < o) || ((p == o) && Op.bytesLess (u.fld 0).s.toList (v.fld 0).s.toList)
/-- The j-th record of vaults is one that may stand there. -/
def AtOk (ks es : List T) (j : Nat) : Prop := ∃ (o : Int) (v : T), es[j]? = some (.st [.int o, v]) ∧ 0 ≤ o ∧ o ≤ 3 ∧ KeepOk ks v ∧ kinB ks (v.fld 0).s = true ∧
  (0 < j → ∃ (p : Int) (u : T), es[j - 1]? = some (.st [.int p, u]) ∧ befB p u o v = true)
def ListOk (ks es : List T) : Prop := es.length ≤ 36 ∧ ∀ j, j < es.length → AtOk ks es j

theorem pred_ok {i : Nat} (h : 0 < i) (hi : i ≤ maxLen) : IntKind.wrap .i64 ((T.int (i : Int)).i - (1 : Int)) = ((i - 1 : Nat) : Int) := by
  rw [maxLen_eq] at hi
  show IntKind.wrap .i64 ((i : Int) - 1) = _
  rw [wrap64 (by omega) (by omega)]; omega
theorem before_i (o o' : Int) (v v' : T) : Yields (fun k => cl env k F_impl_vaultBefore [.st [.int o, v], .st [.int o', v']]) [.bool (decide (o < o') || ((o == o') && Op.bytesLess (v.fld 0).s.toList (v'.fld 0).s.toList))] := by
  refine y_impl_vaultBefore _ _ (Yields.ite (fun h => ?_) (fun h => Yields.ite (fun h2 => ?_) (fun h2 => ?_)))
  · rw [show decide (o < o') = true from h, Bool.true_or]; exact Yields.some _
  · rw [show decide (o < o') = false from h, show (o == o') = true from h2, Bool.false_or, Bool.true_and]; exact Yields.some _
  · rw [show decide (o < o') = false from h, show (o == o') = false from h2]; exact Yields.some _

theorem list_same (hk : ∀ x ∈ ks, IsRecs b x) (hb : b ≤ maxLen) (he : Early ks ks.length 0) (es : List T) (hes : ∀ x ∈ es, IsKept b x) (hle : es.length ≤ b) : ∀ (n i : Nat), i + n = es.length →
    ∃ c, Yields (fun k => l_spec_l9Ok_0 (Ra.hl env k fi_spec_l9Ok) (.sl ks) (.sl es) (.int (i : Int))) [.bool c] ∧ ((es.length : Int) > 36 → c = false) ∧
      (¬ (es.length : Int) > 36 → Yields (fun k => l_impl_VaultsOk_0 (Ra.hl env k fi_impl_VaultsOk) (.sl ks) (.sl es) (.sl es) (.int (es.length : Int)) (.int (i : Int))) [.bool c]) ∧
      (c = true ↔ es.length ≤ 36 ∧ ∀ j, i ≤ j → j < es.length → AtOk ks es j) := by
  intro n
  induction n with
  | zero =>
    intro i hi
    refine ⟨decide ((es.length : Int) ≤ 36), y_spec_l9Ok_0 _ _ _ (Yields.ff (lt_ff (by omega)) (Yields.some _)), fun h => decide_eq_false (by omega), fun h => y_impl_VaultsOk_0 _ _ _ _ _ (Yields.ff ?_ ?_), ?_⟩
    · rw [lt_nat]; exact decide_eq_false (by omega)
    · rw [decide_eq_true (by omega)]; exact Yields.some _
    · rw [decide_eq_true_eq]; exact ⟨fun h => ⟨by omega, fun j h1 h2 => by omega⟩, fun h => by omega⟩
  | succ n ih =>
    intro i hi
    have hlt : i < es.length := by omega
    have hnx := next_ok hlt (Nat.le_trans hle hb)
    obtain ⟨o, v, hx, ho1, ho2, hv⟩ := hes _ (List.getElem_mem hlt)
    have hnth : ((T.sl es).nth (T.int (i : Int)).i.toNat) = .st [.int o, v] := by rw [idx_ok hlt, hx]
    have c1 : decide ((T.int (i : Int)).i < (T.int (es.length : Int)).i) = true := by rw [lt_nat]; exact decide_eq_true hlt
    obtain ⟨c, y1, y2, y3, y4⟩ := ih (i + 1) (by omega)
    obtain ⟨d, k1, k2, k3⟩ := keep_kin hk hb he v hv
    -- what follows when the vault's own test is passed
    let ord : Bool := if h : 0 < i then
      (match es[i - 1]'(by omega) with
        | .st [.int p, u] => decide (p < o) || ((p == o) && Op.bytesLess (u.fld 0).s.toList (v.fld 0).s.toList)
        | _ => false) else true
    let own : Bool := (decide (o ≥ 0) && decide (o ≤ 3)) && d
    have res : ∃ c', (own = false → c' = false) ∧ (own = true → ord = false → c' = false) ∧ (own = true → ord = true → c' = c) ∧ (c' = true → own = true ∧ ord = true ∧ c = true) := by
      cases own with
      | false => exact ⟨false, (fun _ => rfl), (fun h => by cases h), (fun h => by cases h), (fun h => by cases h)⟩
      | true =>
        cases ord with
        | false => exact ⟨false, (fun h => by cases h), (fun _ _ => rfl), (fun _ h => by cases h), (fun h => by cases h)⟩
        | true => exact ⟨c, (fun h => by cases h), (fun _ h => by cases h), (fun _ _ => rfl), (fun h => ⟨rfl, rfl, h⟩)⟩
    obtain ⟨c', q1, q2, q3, q4⟩ := res
    have hown : own = ((decide (o ≥ 0) && decide (o ≤ 3)) && d) := rfl
    have hprev : 0 < i → ∃ (p : Int) (u : T), ((T.sl es).nth ((IntKind.wrap .i64 ((T.int (i : Int)).i - (1 : Int))).toNat)) = .st [.int p, u] ∧ ord = (decide (p < o) || ((p == o) && Op.bytesLess (u.fld 0).s.toList (v.fld 0).s.toList)) ∧
        (decide (0 ≤ (IntKind.wrap .i64 ((T.int (i : Int)).i - (1 : Int)))) && decide ((IntKind.wrap .i64 ((T.int (i : Int)).i - (1 : Int))).toNat < (T.sl es).es.length)) = true := by
      intro h0
      obtain ⟨p, u, hp, _⟩ := hes _ (List.getElem_mem (show i - 1 < es.length by omega))
      rw [pred_ok h0 (by omega)]
      refine ⟨p, u, ?_, ?_, ?_⟩
      · rw [Int.toNat_natCast, nth_lt (by omega), hp]
      · show (if h : 0 < i then _ else true) = _
        rw [dif_pos h0, hp]
      · rw [Bool.and_eq_true]
        refine ⟨decide_eq_true (by omega), decide_eq_true ?_⟩
        rw [Int.toNat_natCast]; show i - 1 < es.length; omega
    have hfirst : ¬ 0 < i → ord = true := fun h => by show (if h : 0 < i then _ else true) = true; rw [dif_neg h]
    have hat : own = true ∧ ord = true ↔ AtOk ks es i := by
      constructor
      · intro ⟨h1, h2⟩
        rw [hown, Bool.and_eq_true, Bool.and_eq_true, decide_eq_true_eq, decide_eq_true_eq] at h1
        obtain ⟨⟨g1, g2⟩, g3⟩ := h1
        subst g3
        refine ⟨o, v, by rw [List.getElem?_eq_getElem hlt, hx], g1, g2, k1, k3 rfl, fun h0 => ?_⟩
        obtain ⟨p, u, hp, _⟩ := hes _ (List.getElem_mem (show i - 1 < es.length by omega))
        refine ⟨p, u, by rw [List.getElem?_eq_getElem (by omega), hp], ?_⟩
        have h2' : (if h : 0 < i then _ else true) = true := h2
        rw [dif_pos h0, hp] at h2'
        exact h2'
      · intro ⟨o', v', g0, g1, g2, g3, _, g4⟩
        rw [List.getElem?_eq_getElem hlt, hx] at g0
        cases g0
        have hd : d = true := by have := Yields.uniq k1 g3; cases this; rfl
        refine ⟨by rw [hown, decide_eq_true g1, decide_eq_true g2, hd]; rfl, ?_⟩
        show (if h : 0 < i then _ else true) = true
        by_cases h0 : 0 < i
        · rw [dif_pos h0]
          obtain ⟨p, u, hp, hb⟩ := g4 h0
          rw [List.getElem?_eq_getElem (by omega)] at hp
          rw [Option.some.inj hp]; exact hb
        · rw [dif_neg h0]
    refine ⟨c', ?_, fun h36 => ?_, fun h36 => ?_, ?_⟩
    rotate_left 3
    · constructor
      · intro h
        obtain ⟨h1, h2, h3⟩ := q4 h
        obtain ⟨h4, h5⟩ := y4.1 h3
        refine ⟨h4, fun j hj hj2 => ?_⟩
        by_cases hji : j = i
        · subst hji; exact hat.1 ⟨h1, h2⟩
        · exact h5 j (by omega) hj2
      · intro ⟨h4, h5⟩
        obtain ⟨h1, h2⟩ := hat.2 (h5 i (by omega) hlt)
        rw [q3 h1 h2]
        exact y4.2 ⟨h4, fun j hj hj2 => h5 j (by omega) hj2⟩
    · refine y_spec_l9Ok_0 _ _ _ (Yields.tt (lt_tt hlt) (Yields.tt (in_tt hlt) ?_))
      rw [hnth]
      refine Yields.obind (in_s o 0 3) ?_
      cases hin : (decide (o ≥ 0) && decide (o ≤ 3)) with
      | false => rw [q1 (by rw [hown, hin]; rfl)]; exact Yields.tt rfl (Yields.some _)
      | true =>
        refine Yields.ff rfl (Yields.obind k1 ?_)
        cases hd : d with
        | false => rw [q1 (by rw [hown, hin, hd]; rfl)]; exact Yields.tt rfl (Yields.some _)
        | true =>
          have ho : own = true := by rw [hown, hin, hd]; rfl
          refine Yields.ff rfl (Yields.ite (fun e => ?_) (fun e => ?_))
          · have h0 : 0 < i := by have : (i : Int) > 0 := of_decide_eq_true e
                                  omega
            obtain ⟨p, u, hp1, hp2, hp3⟩ := hprev h0
            refine Yields.tt hp3 ?_
            rw [hp1]
            refine Yields.ite (fun e1 => ?_) (fun e1 => Yields.ite (fun e2 => Yields.ite (fun e3 => ?_) (fun e3 => ?_)) (fun e2 => ?_))
            · have e1' : p > o := of_decide_eq_true e1
              rw [q2 ho (by rw [hp2, decide_eq_false (by omega : ¬ p < o), show (p == o) = false from beq_eq_false_iff_ne.2 (by omega)]; rfl)]; exact Yields.some _
            · have e2' : (p == o) = true := e2
              have e3' : (!Op.bytesLess (u.fld 0).s.toList (v.fld 0).s.toList) = true := e3
              have e1' : ¬ p > o := of_decide_eq_false e1
              have hpo : p = o := by simpa using e2'
              rw [q2 ho (by rw [hp2, decide_eq_false (by omega : ¬ p < o), e2', Bool.true_and, Bool.false_or]; simpa using e3')]; exact Yields.some _
            · have e2' : (p == o) = true := e2
              have e3' : (!Op.bytesLess (u.fld 0).s.toList (v.fld 0).s.toList) = false := e3
              rw [q3 ho (by rw [hp2, e2', Bool.true_and]; simp only [Bool.not_eq_false'] at e3'; rw [e3', Bool.or_true]), hnx]; exact y1
            · have e2' : (p == o) = false := e2
              have e1' : ¬ p > o := of_decide_eq_false e1
              have hpo : ¬ p = o := by simpa using e2'
              rw [q3 ho (by rw [hp2, decide_eq_true (by omega : p < o), Bool.true_or]), hnx]; exact y1
          · have h0 : ¬ 0 < i := by have : ¬ (i : Int) > 0 := of_decide_eq_false e
                                    omega
            rw [q3 ho (hfirst h0), hnx]; exact y1
    · by_cases ho : own = true
      · by_cases hor : ord = true
        · rw [q3 ho hor]; exact y2 h36
        · exact q2 ho (eq_false_of_ne_true hor)
      · exact q1 (eq_false_of_ne_true ho)
    · refine y_impl_VaultsOk_0 _ _ _ _ _ (Yields.tt c1 (Yields.tt (in_tt hlt) ?_))
      rw [hnth]
      have stop : (decide (o ≥ 0) && decide (o ≤ 3)) = false → Yields (fun _ => some [T.bool false]) [T.bool c'] := fun h => by rw [q1 (by rw [hown, h]; rfl)]; exact Yields.some _
      refine Yields.ite (fun e => ?_) (fun e => Yields.ite (fun e2 => ?_) (fun e2 => ?_))
      · have e' : o < 0 := of_decide_eq_true e
        exact stop (by rw [decide_eq_false (by omega : ¬ o ≥ 0)]; rfl)
      · have e' : o ≥ 4 := of_decide_eq_true e2
        exact stop (by rw [decide_eq_false (by omega : ¬ o ≤ 3), Bool.and_false])
      · have e' : ¬ o < 0 := of_decide_eq_false e
        have e2' : ¬ o ≥ 4 := of_decide_eq_false e2
        have hin : (decide (o ≥ 0) && decide (o ≤ 3)) = true := by rw [decide_eq_true (by omega : o ≥ 0), decide_eq_true (by omega : o ≤ 3)]; rfl
        refine Yields.obind k2 ?_
        cases hd : d with
        | false => rw [q1 (by rw [hown, hin, hd]; rfl)]; exact Yields.tt rfl (Yields.some _)
        | true =>
          have ho : own = true := by rw [hown, hin, hd]; rfl
          refine Yields.ff rfl (Yields.ite (fun e => ?_) (fun e => ?_))
          · have h0 : 0 < i := by have : (i : Int) > 0 := of_decide_eq_true e
                                  omega
            obtain ⟨p, u, hp1, hp2, hp3⟩ := hprev h0
            refine Yields.tt hp3 ?_
            rw [hp1]
            have hbf := before_i p o u v
            rw [← hp2] at hbf
            refine Yields.obind hbf ?_
            cases hor : ord with
            | false => rw [q2 ho hor]; exact Yields.tt rfl (Yields.some _)
            | true => rw [q3 ho hor, hnx]; exact Yields.ff rfl (y3 h36)
          · have h0 : ¬ 0 < i := by have : ¬ (i : Int) > 0 := of_decide_eq_false e
                                    omega
            rw [q3 ho (hfirst h0), hnx]; exact y3 h36
end

/-- What both say of vaults, and when. -/
theorem vaults_good {b : Nat} (hb : b ≤ maxLen) (ks es : List T) (hk : IsKinds b (.sl ks)) (hl : IsList b (.sl es)) : ∃ c, Yields (fun k => cl env k F_spec_VaultsOk [.sl ks, .sl es]) [.bool c] ∧ Yields (fun k => cl env k F_impl_VaultsOk [.sl ks, .sl es]) [.bool c] ∧
    (c = true → (∀ x ∈ ks, IsRecs b x) ∧ Early ks ks.length 0 ∧ Small ks ks.length ∧ ks.length ≤ 3 ∧ ListOk ks es) ∧ (Yields (fun k => cl env k F_spec_KindsOk [.sl ks]) [.bool true] → ListOk ks es → c = true) := by
  obtain ⟨ks', he, hk1, hk2⟩ := hk
  cases he
  obtain ⟨es', he, hl1, hl2⟩ := hl
  cases he
  obtain ⟨c, y1, y2, y3⟩ := kindsOk_small hk2 hb hk1
  cases c with
  | false => exact ⟨false, y_spec_VaultsOk _ _ (Yields.obind y1 (Yields.ff rfl (Yields.some _))), y_impl_VaultsOk _ _ (Yields.obind y2 (Yields.tt rfl (Yields.some _))), (fun h => by cases h), fun h _ => by have := Yields.uniq y1 h; cases this⟩
  | true =>
    obtain ⟨e1, e2, e3⟩ := y3 rfl
    obtain ⟨c, z1, z2, z3, z4⟩ := list_same hk2 hb e1 es hl2 hl1 es.length 0 (by omega)
    refine ⟨c, y_spec_VaultsOk _ _ (Yields.obind y1 (Yields.tt rfl (Yields.obind (y_spec_l9Ok _ _ z1) (Yields.some _)))), y_impl_VaultsOk _ _ (Yields.obind y2 (Yields.ff rfl (Yields.ite (fun e => ?_) (fun e => ?_)))), fun h => ⟨hk2, e1, e2, e3, (z4.1 h).1, fun j hj => (z4.1 h).2 j (Nat.zero_le _) hj⟩, fun _ h => z4.2 ⟨h.1, fun j _ hj => h.2 j hj⟩⟩
    · rw [z2 (of_decide_eq_true e)]; exact Yields.some _
    · exact z3 (of_decide_eq_false e)
theorem vaults_same {b : Nat} (hb : b ≤ maxLen) (kt lt : T) (hk : IsKinds b kt) (hl : IsList b lt) : ∃ c, Yields (fun k => cl env k F_spec_VaultsOk [kt, lt]) [.bool c] ∧ Yields (fun k => cl env k F_impl_VaultsOk [kt, lt]) [.bool c] := by
  obtain ⟨ks, rfl, hk1, hk2⟩ := hk
  obtain ⟨es, rfl, hl1, hl2⟩ := hl
  obtain ⟨c, y1, y2, _⟩ := vaults_good hb ks es ⟨ks, rfl, hk1, hk2⟩ ⟨es, rfl, hl1, hl2⟩
  exact ⟨c, y1, y2⟩
end Go.Proofs.Ytmhjjanaackknaa.Ra
/- Plain side: marks. -/
namespace Go.Proofs.Ytmhjjanaackknaa.Ra
open Go

def KB : Int := 4611686018427387904
theorem ti_int (n : Int) : (T.int n).i = n := rfl
theorem es_sl (l : List T) : (T.sl l).es = l := rfl
theorem put_mid (qs rest : List T) (t x : T) (p : List Step) : T.put (.sl (qs ++ t :: rest)) (.idx qs.length :: p) x = .sl (qs ++ T.put t p x :: rest) := by
  simp [T.put, T.es, T.nth]
theorem nth_mid (qs rest : List T) (t : T) : (T.sl (qs ++ t :: rest)).nth qs.length = t := by simp [T.nth, T.es]
theorem set_mid (qs rest : List T) (t x : T) : (qs ++ t :: rest).set qs.length x = qs ++ x :: rest := by simp
theorem lt_mid (qs rest : List T) (t : T) : decide ((qs.length : Int) < ((qs ++ t :: rest).length : Int)) = true := by
  apply decide_eq_true; simp; omega
theorem in_mid (qs rest : List T) (t : T) : (decide (0 ≤ (qs.length : Int)) && decide (qs.length < (qs ++ t :: rest).length)) = true := by
  rw [Bool.and_eq_true, decide_eq_true_eq, decide_eq_true_eq]; exact ⟨by omega, by simp⟩
theorem wrapK {n : Int} (h0 : 0 ≤ n) (h1 : n ≤ KB) (j : Int) (hj : 0 ≤ j) (hj' : j ≤ 9) : IntKind.wrap .i64 (n + j) = n + j := by
  unfold KB at h1; exact wrap64 (by omega) (by omega)

/-- A text for each number. -/
theorem mark_text {k : Int} (h0 : 0 ≤ k) (h1 : k ≤ KB) : ∃ s : ByteArray, Yields (fun m => cl env m F_laws_markText [.int k]) [.str s] := by
  by_cases hk : k ≤ 0
  · exact ⟨_, y_laws_markText _ (Yields.tt (decide_eq_true hk) (Yields.some _))⟩
  · have key : ∀ (n : Nat) (k : Int) (s : ByteArray), 0 ≤ k → k ≤ KB → k < 10 ^ n → s.size + n + 1 ≤ LIM → ∃ r : ByteArray, Yields (fun m => l_laws_markText_0 (hl env m fi_laws_markText) (.int k) (.str s)) [.str r] := by
      intro n
      induction n with
      | zero =>
        intro k s h0 _ hk hs
        have hk0 : ¬ k > 0 := by simp at hk; omega
        refine ⟨_, y_laws_markText_0 _ _ (Yields.ff (decide_eq_false hk0) (Yields.tt (decide_eq_true ?_) (Yields.some _)))⟩
        show 1 + s.size ≤ LIM
        omega
      | succ n ih =>
        intro k s h0 hK hk hs
        by_cases hk0 : k > 0
        · have hdiv : k.tdiv 10 = k / 10 := Int.tdiv_eq_ediv_of_nonneg h0
          obtain ⟨r, hr⟩ := ih (k.tdiv 10) ((⟨([(T.int (IntKind.wrap .u8 (IntKind.wrap .i64 ((48 : Int) + (k.tmod (10 : Int))))))].map fun c => UInt8.ofNat c.i.toNat).toArray⟩ : ByteArray) ++ s) (by rw [hdiv]; omega) (by rw [hdiv]; unfold KB at *; omega) (by
            rw [hdiv]
            have : (10 : Int) ^ (n + 1) = 10 ^ n * 10 := by rw [Int.pow_succ]
            omega) (by
            have : ((⟨([(T.int (IntKind.wrap .u8 (IntKind.wrap .i64 ((48 : Int) + (k.tmod (10 : Int))))))].map fun c => UInt8.ofNat c.i.toNat).toArray⟩ : ByteArray) ++ s).size = 1 + s.size := by
              rw [ByteArray.size_append]; rfl
            omega)
          have hw : IntKind.wrap .i64 (k.tdiv 10) = k.tdiv 10 := wrap64 (by rw [hdiv]; omega) (by rw [hdiv]; unfold KB at hK; omega)
          refine ⟨r, y_laws_markText_0 _ _ (Yields.tt (decide_eq_true hk0) (Yields.tt rfl (Yields.tt (decide_eq_true ?_) ?_)))⟩
          · show 1 + s.size ≤ LIM
            omega
          · show Yields (fun m => l_laws_markText_0 (hl env m fi_laws_markText) (.int (IntKind.wrap .i64 (k.tdiv 10))) _) _
            rw [hw]; exact hr
        · refine ⟨_, y_laws_markText_0 _ _ (Yields.ff (decide_eq_false hk0) (Yields.tt (decide_eq_true ?_) (Yields.some _)))⟩
          show 1 + s.size ≤ LIM
          omega
    obtain ⟨r, hr⟩ := key 19 k ⟨#[]⟩ h0 h1 (by unfold KB at h1; omega) (by unfold LIM; simp [ByteArray.size])
    exact ⟨r, y_laws_markText _ (Yields.ff (decide_eq_false hk) hr)⟩

inductive Run (g : T → Int → Int → Prop) : Int → List T → Int → Prop
  | nil {k} : Run g k [] k
  | cons {k n m t l} : g t k n → Run g n l m → Run g k (t :: l) m

theorem mark_loop {L : Nat → T → T → T → R} {p : T → Prop} {g : T → Int → Int → Prop}
    (step : ∀ (qs rest : List T) (t : T) (k : Int), p t → 0 ≤ k → k + 3 * (1 + (t.wt : Int)) ≤ KB → (qs ++ t :: rest).length ≤ maxLen → ∃ n t', k ≤ n ∧ n ≤ k + 3 * (1 + (t.wt : Int)) ∧ g t' k n ∧
      ∀ r, Yields (fun m => L m (.int n) (.int ((qs.length + 1 : Nat) : Int)) (.sl (qs ++ t' :: rest))) r → Yields (fun m => L m (.int k) (.int (qs.length : Int)) (.sl (qs ++ t :: rest))) r)
    (done : ∀ (qs : List T) (k : Int), Yields (fun m => L m (.int k) (.int (qs.length : Int)) (.sl qs)) [.int k, .sl qs]) :
    ∀ (rest qs : List T) (k : Int), (∀ t ∈ rest, p t) → 0 ≤ k → k + 3 * ((T.wts rest : Int) + rest.length) ≤ KB → (qs ++ rest).length ≤ maxLen →
      ∃ n ts, Yields (fun m => L m (.int k) (.int (qs.length : Int)) (.sl (qs ++ rest))) [.int n, .sl (qs ++ ts)] ∧ k ≤ n ∧ n ≤ k + 3 * ((T.wts rest : Int) + rest.length) ∧ ts.length = rest.length ∧ Run g k ts n := by
  intro rest
  induction rest with
  | nil =>
    intro qs k _ h0 _ _
    refine ⟨k, [], ?_, by omega, by simp [T.wts], rfl, .nil⟩
    rw [List.append_nil]; exact done qs k
  | cons t rest ih =>
    intro qs k hp h0 hk hl
    simp only [T.wts, List.length_cons] at hk
    obtain ⟨n, t', a1, a2, a3, a4⟩ := step qs rest t k (hp t (by simp)) h0 (by omega) hl
    obtain ⟨n2, ts, b1, b2, b3, b4, b5⟩ := ih (qs ++ [t']) n (fun x hx => hp x (by simp [hx])) (by omega) (by omega) (by simp at hl ⊢; omega)
    rw [show (qs ++ [t']).length = qs.length + 1 by simp, show qs ++ [t'] ++ rest = qs ++ t' :: rest by simp, show qs ++ [t'] ++ ts = qs ++ t' :: ts by simp] at b1
    exact ⟨n2, t' :: ts, a4 _ b1, by omega, by simp only [T.wts, List.length_cons]; omega, by simp [b4], .cons a3 b5⟩

theorem held_loop {L : Nat → T → T → T → R} {g : T → Int → Int → Prop}
    (step : ∀ (qs rest : List T) (t : T) (k n : Int), g t k n → (qs ++ t :: rest).length ≤ maxLen → ∀ r, Yields (fun m => L m (.sl (qs ++ t :: rest)) (.int n) (.int ((qs.length + 1 : Nat) : Int))) r → Yields (fun m => L m (.sl (qs ++ t :: rest)) (.int k) (.int (qs.length : Int))) r)
    (done : ∀ (qs : List T) (k : Int), Yields (fun m => L m (.sl qs) (.int k) (.int (qs.length : Int))) [.int k]) :
    ∀ {ts : List T} {k n : Int}, Run g k ts n → ∀ (qs : List T), (qs ++ ts).length ≤ maxLen → Yields (fun m => L m (.sl (qs ++ ts)) (.int k) (.int (qs.length : Int))) [.int n] := by
  intro ts k n h
  induction h with
  | nil => intro qs _; rw [List.append_nil]; exact done qs _
  | @cons k n m t l h1 _ ih =>
    intro qs hl
    refine step qs l t k n h1 hl _ ?_
    have := ih (qs ++ [t]) (by simp at hl ⊢; omega)
    rwa [show (qs ++ [t]).length = qs.length + 1 by simp, show qs ++ [t] ++ l = qs ++ t :: l by simp] at this

/- ---- numbers ---- -/
def gInt (t : T) (k n : Int) : Prop := t = .int k ∧ n = k + 1 ∧ 0 ≤ k ∧ n ≤ KB
theorem mark_int (is : List T) (hp : ∀ x ∈ is, ∃ m : Int, x = .int m) (hlen : is.length ≤ maxLen) (k : Int) (h0 : 0 ≤ k) (hk : k + 3 * ((is.length : Nat) : Int) ≤ KB) :
    ∃ n ts, Yields (fun m => cl env m F_laws_markIntS [.sl is, .int k]) [.int n, .sl ts] ∧ k ≤ n ∧ n ≤ k + 3 * ((is.length : Nat) : Int) ∧ ts.length = is.length ∧ Yields (fun m => cl env m F_laws_heldIntS [.sl ts, .int k]) [.int n] := by
  obtain ⟨n, ts, a1, a2, a3, a4, a5⟩ := mark_loop (L := fun m => l_laws_markIntS_0 (hl env m fi_laws_markIntS)) (p := fun t => ∃ m : Int, t = .int m) (g := gInt) (fun qs rest t k hp h0 hk hl => by
      refine ⟨k + 1, .int k, by omega, by omega, ⟨rfl, rfl, h0, by omega⟩, fun r hr => ?_⟩
      refine y_laws_markIntS_0 _ _ _ (Yields.tt (lt_mid qs rest t) (Yields.tt (in_mid qs rest t) ?_))
      show Yields (fun m => l_laws_markIntS_0 (Ra.hl env m fi_laws_markIntS) (.int (IntKind.wrap .i64 (k + 1))) (T.int (IntKind.wrap .i64 ((qs.length : Int) + 1))) (.sl ((qs ++ t :: rest).set qs.length (.int k)))) r
      rw [set_mid, wrapK h0 (by omega) 1 (by omega) (by omega), show T.int (IntKind.wrap .i64 ((qs.length : Int) + 1)) = T.int ((qs.length + 1 : Nat) : Int) from next_ok (n := (qs ++ t :: rest).length) (by simp) hl]
      exact hr)
    (fun qs k => y_laws_markIntS_0 _ _ _ (Yields.ff (lt_ff (es := qs) (by omega)) (Yields.some _))) is [] k hp h0 (by rw [wts_ints hp]; omega) (by simpa using hlen)
  rw [wts_ints hp] at a3
  refine ⟨n, ts, y_laws_markIntS _ _ a1, a2, by omega, a4, y_laws_heldIntS _ _ ?_⟩
  refine held_loop (L := fun m => l_laws_heldIntS_0 (hl env m fi_laws_heldIntS)) (g := gInt) (fun qs rest t k n hg hl r hr => ?_) (fun qs k => y_laws_heldIntS_0 _ _ _ (Yields.ff (lt_ff (es := qs) (by omega)) (Yields.some _))) a5 [] (by simp only [List.nil_append]; omega)
  obtain ⟨rfl, rfl, q1, q2⟩ := hg
  refine y_laws_heldIntS_0 _ _ _ (Yields.tt (lt_mid qs rest _) (Yields.tt (in_mid qs rest _) (Yields.ff ?_ ?_)))
  · show (((T.sl (qs ++ T.int k :: rest)).nth qs.length).i != k) = false
    rw [nth_mid]; simp [T.i]
  · show Yields (fun m => l_laws_heldIntS_0 (Ra.hl env m fi_laws_heldIntS) _ (.int (IntKind.wrap .i64 (k + 1))) (T.int (IntKind.wrap .i64 ((qs.length : Int) + 1)))) r
    rw [wrapK q1 (by omega) 1 (by omega) (by omega), show T.int (IntKind.wrap .i64 ((qs.length : Int) + 1)) = T.int ((qs.length + 1 : Nat) : Int) from next_ok (n := (qs ++ T.int k :: rest).length) (by simp) hl]
    exact hr

/- ---- values ---- -/
def gVal (t : T) (k n : Int) : Prop := ∃ (s : ByteArray) (ps is : T) (n1 : Int), t = .st [.str s, .int (k + 1), ps, is] ∧ 0 ≤ k ∧ k + 2 ≤ KB ∧ k + 2 ≤ n1 ∧ n1 ≤ n ∧ Yields (fun m => cl env m F_laws_markText [.int k]) [.str s] ∧
  Yields (fun m => cl env m F_laws_heldValueS [ps, .int (k + 2)]) [.int n1] ∧ Yields (fun m => cl env m F_laws_heldIntS [is, .int n1]) [.int n]
def MV (v : T) : Prop := ∀ (s : ByteArray) (q : Int) (ps is : List T), v = .st [.str s, .int q, .sl ps, .sl is] → ∀ k : Int, 0 ≤ k → k + 3 * ((T.wts ps : Int) + ps.length) ≤ KB →
  ∃ n ts, Yields (fun m => cl env m F_laws_markValueS [.sl ps, .int k]) [.int n, .sl ts] ∧ k ≤ n ∧ n ≤ k + 3 * ((T.wts ps : Int) + ps.length) ∧ ts.length = ps.length ∧ Yields (fun m => cl env m F_laws_heldValueS [.sl ts, .int k]) [.int n]
theorem mark_vals {b : Nat} (hb : b ≤ maxLen) (ps : List T) (hps : ps.length ≤ b) (hp : ∀ x ∈ ps, IsVal b x ∧ MV x) (k : Int) (h0 : 0 ≤ k) (hk : k + 3 * ((T.wts ps : Int) + ps.length) ≤ KB) :
    ∃ n ts, Yields (fun m => cl env m F_laws_markValueS [.sl ps, .int k]) [.int n, .sl ts] ∧ k ≤ n ∧ n ≤ k + 3 * ((T.wts ps : Int) + ps.length) ∧ ts.length = ps.length ∧ Yields (fun m => cl env m F_laws_heldValueS [.sl ts, .int k]) [.int n] := by
  obtain ⟨n, ts, a1, a2, a3, a4, a5⟩ := mark_loop (L := fun m => l_laws_markValueS_0 (hl env m fi_laws_markValueS)) (p := fun t => IsVal b t ∧ MV t) (g := gVal) (fun qs rest t k hp h0 hk hl => by
      obtain ⟨hv, hm⟩ := hp
      cases hv with
      | @mk s q ps is h1 h2 h3 h4 h5 h6 h7 =>
        have hw : (T.st [.str s, .int q, .sl ps, .sl is]).wt = T.wts ps + ps.length + is.length := by simp only [T.wt, T.wts, wts_ints h6]; omega
        rw [hw] at hk ⊢
        obtain ⟨u, hu⟩ := mark_text h0 (show k ≤ KB by omega)
        obtain ⟨n1, ts, b1, b2, b3, b4, b5⟩ := hm s q ps is rfl (k + 2) (by omega) (by omega)
        obtain ⟨n2, us, c1, c2, c3, c4, c5⟩ := mark_int is h6 (Nat.le_trans h5 hb) n1 (by omega) (by omega)
        refine ⟨n2, .st [.str u, .int (k + 1), .sl ts, .sl us], by omega, by omega, ⟨u, .sl ts, .sl us, n1, rfl, h0, by omega, b2, c2, hu, b5, c5⟩, fun r hr => ?_⟩
        refine y_laws_markValueS_0 _ _ _ ?_
        unfold b_laws_markValueS_0
        simp only [ti_int, Int.toNat_natCast, put_mid, nth_mid, es_sl]
        have e1 : IntKind.wrap .i64 (k + 1) = k + 1 := wrapK h0 (by omega) 1 (by omega) (by omega)
        have e2 : IntKind.wrap .i64 (k + 1 + 1) = k + 2 := by rw [wrapK (n := k + 1) (by omega) (by omega) 1 (by omega) (by omega)]; omega
        have e3 : T.int (IntKind.wrap .i64 ((qs.length : Int) + 1)) = T.int ((qs.length + 1 : Nat) : Int) := next_ok (n := (qs ++ T.st [.str s, .int q, .sl ps, .sl is] :: rest).length) (by simp) hl
        rw [e1, e2, e3]
        exact Yields.tt (lt_mid qs rest _) (Yields.obind hu (Yields.tt (in_mid qs rest _) (Yields.tt (in_mid qs rest _) (Yields.tt (in_mid qs rest _) (Yields.obind b1 (Yields.tt (in_mid qs rest _) (Yields.obind c1 hr))))))))
    (fun qs k => y_laws_markValueS_0 _ _ _ (Yields.ff (lt_ff (es := qs) (by omega)) (Yields.some _))) ps [] k hp h0 hk (by simp only [List.nil_append]; omega)
  refine ⟨n, ts, y_laws_markValueS _ _ a1, a2, by omega, a4, y_laws_heldValueS _ _ ?_⟩
  refine held_loop (L := fun m => l_laws_heldValueS_0 (hl env m fi_laws_heldValueS)) (g := gVal) (fun qs rest t k n hg hl r hr => ?_) (fun qs k => y_laws_heldValueS_0 _ _ _ (Yields.ff (lt_ff (es := qs) (by omega)) (Yields.some _))) a5 [] (by simp only [List.nil_append]; omega)
  obtain ⟨s, ps, is, n1, rfl, q1, q2, q3, q4, y1, y2, y3⟩ := hg
  refine y_laws_heldValueS_0 _ _ _ ?_
  unfold b_laws_heldValueS_0
  simp only [ti_int, Int.toNat_natCast, nth_mid, es_sl]
  have e1 : IntKind.wrap .i64 (k + 1) = k + 1 := wrapK q1 (by omega) 1 (by omega) (by omega)
  have e2 : IntKind.wrap .i64 (k + 1 + 1) = k + 2 := by rw [wrapK (n := k + 1) (by omega) (by omega) 1 (by omega) (by omega)]; omega
  have e3 : T.int (IntKind.wrap .i64 ((qs.length : Int) + 1)) = T.int ((qs.length + 1 : Nat) : Int) := next_ok (n := (qs ++ T.st [.str s, .int (k + 1), ps, is] :: rest).length) (by simp) hl
  rw [e1, e2, e3]
  refine Yields.tt (lt_mid qs rest _) (Yields.tt (in_mid qs rest _) (Yields.obind y1 (Yields.ff (nse_self s) (Yields.ff (ne_self _) (Yields.obind y2 (Yields.ff (decide_eq_false ?_) (Yields.obind y3 (Yields.ff (decide_eq_false ?_) hr))))))))
  · show ¬ n1 < 0; omega
  · show ¬ n < 0; omega
theorem mv_val {b : Nat} (hb : b ≤ maxLen) : ∀ v, IsVal b v → MV v := by
  intro v h
  induction h with
  | @mk s n ps is h1 h2 h3 h4 h5 h6 h7 ih =>
    intro s' q' ps' is' he k h0 hk
    cases he
    exact mark_vals hb ps h4 (fun x hx => ⟨h7 x hx, ih x hx⟩) k h0 hk
/-- A value, marked by its two slices, is held. -/
theorem mark_val {b : Nat} (hb : b ≤ maxLen) {s : ByteArray} {q : Int} {ps is : List T} (hv : IsVal b (.st [.str s, .int q, .sl ps, .sl is])) (k : Int) (h0 : 0 ≤ k)
    (hk : k + 3 * ((T.st [.str s, .int q, .sl ps, .sl is]).wt : Int) ≤ KB) :
    ∃ n1 ts n us, Yields (fun m => cl env m F_laws_markValueS [.sl ps, .int k]) [.int n1, .sl ts] ∧ Yields (fun m => cl env m F_laws_markIntS [.sl is, .int n1]) [.int n, .sl us] ∧ k ≤ n1 ∧ n1 ≤ n ∧ n ≤ k + 3 * ((T.st [.str s, .int q, .sl ps, .sl is]).wt : Int) ∧
      Yields (fun m => cl env m F_laws_heldValueS [.sl ts, .int k]) [.int n1] ∧ Yields (fun m => cl env m F_laws_heldIntS [.sl us, .int n1]) [.int n] := by
  cases hv with
  | mk h1 h2 h3 h4 h5 h6 h7 =>
    have hw : (T.st [.str s, .int q, .sl ps, .sl is]).wt = T.wts ps + ps.length + is.length := by simp only [T.wt, T.wts, wts_ints h6]; omega
    rw [hw] at hk ⊢
    obtain ⟨n1, ts, b1, b2, b3, b4, b5⟩ := mark_vals hb ps h4 (fun x hx => ⟨h7 x hx, mv_val hb x (h7 x hx)⟩) k h0 (by omega)
    obtain ⟨n2, us, c1, c2, c3, c4, c5⟩ := mark_int is h6 (Nat.le_trans h5 hb) n1 (by omega) (by omega)
    exact ⟨n1, ts, n2, us, b1, c1, b2, c2, by omega, b5, c5⟩

/- ---- vaults ---- -/
def gKept (t : T) (k n : Int) : Prop := ∃ (s : ByteArray) (ps is : T) (n1 : Int), t = .st [.int k, .st [.str s, .int (k + 2), ps, is]] ∧ 0 ≤ k ∧ k + 3 ≤ KB ∧ k + 3 ≤ n1 ∧ n1 ≤ n ∧ Yields (fun m => cl env m F_laws_markText [.int (k + 1)]) [.str s] ∧
  Yields (fun m => cl env m F_laws_heldValueS [ps, .int (k + 3)]) [.int n1] ∧ Yields (fun m => cl env m F_laws_heldIntS [is, .int n1]) [.int n]
theorem mark_list {b : Nat} (hb : b ≤ maxLen) (t : T) (h : IsList b t) (k : Int) (h0 : 0 ≤ k) (hk : k + 3 * (t.wt : Int) ≤ KB) :
    ∃ n ts, Yields (fun m => cl env m F_laws_markKeptS [t, .int k]) [.int n, .sl ts] ∧ k ≤ n ∧ n ≤ k + 3 * (t.wt : Int) ∧ ts.length ≤ b ∧ Run gKept k ts n := by
  obtain ⟨es, rfl, hlen, he⟩ := h
  have hw : (T.sl es).wt = T.wts es + es.length := by simp only [T.wt]
  rw [hw] at hk ⊢
  obtain ⟨n, ts, a1, a2, a3, a4, a5⟩ := mark_loop (L := fun m => l_laws_markKeptS_0 (hl env m fi_laws_markKeptS)) (p := IsKept b) (g := gKept) (fun qs rest t k hp h0 hk hl => by
      obtain ⟨ow, v, rfl, _, _, hv⟩ := hp
      cases hv with
      | @mk s q ps is h1 h2 h3 h4 h5 h6 h7 =>
        have hw : (T.st [.int ow, .st [.str s, .int q, .sl ps, .sl is]]).wt = T.wts ps + ps.length + is.length := by simp only [T.wt, T.wts, wts_ints h6]; omega
        rw [hw] at hk ⊢
        obtain ⟨u, hu⟩ := mark_text (k := k + 1) (by omega) (by omega)
        obtain ⟨n1, ts, b1, b2, b3, b4, b5⟩ := mark_vals hb ps h4 (fun x hx => ⟨h7 x hx, mv_val hb x (h7 x hx)⟩) (k + 3) (by omega) (by omega)
        obtain ⟨n2, us, c1, c2, c3, c4, c5⟩ := mark_int is h6 (Nat.le_trans h5 hb) n1 (by omega) (by omega)
        refine ⟨n2, .st [.int k, .st [.str u, .int (k + 2), .sl ts, .sl us]], by omega, by omega, ⟨u, .sl ts, .sl us, n1, rfl, h0, by omega, b2, c2, hu, b5, c5⟩, fun r hr => ?_⟩
        refine y_laws_markKeptS_0 _ _ _ ?_
        unfold b_laws_markKeptS_0
        simp only [ti_int, Int.toNat_natCast, put_mid, nth_mid, es_sl]
        have e1 : IntKind.wrap .i64 (k + 1) = k + 1 := wrapK h0 (by omega) 1 (by omega) (by omega)
        have e2 : IntKind.wrap .i64 (k + 1 + 1) = k + 2 := by rw [wrapK (n := k + 1) (by omega) (by omega) 1 (by omega) (by omega)]; omega
        have e4 : IntKind.wrap .i64 (k + 2 + 1) = k + 3 := by rw [wrapK (n := k + 2) (by omega) (by omega) 1 (by omega) (by omega)]; omega
        have e3 : T.int (IntKind.wrap .i64 ((qs.length : Int) + 1)) = T.int ((qs.length + 1 : Nat) : Int) := next_ok (n := (qs ++ T.st [.int ow, .st [.str s, .int q, .sl ps, .sl is]] :: rest).length) (by simp) hl
        rw [e1, e2, e4, e3]
        exact Yields.tt (lt_mid qs rest _) (Yields.tt (in_mid qs rest _) (Yields.obind hu (Yields.tt (in_mid qs rest _) (Yields.tt (in_mid qs rest _) (Yields.tt (in_mid qs rest _) (Yields.obind b1 (Yields.tt (in_mid qs rest _) (Yields.obind c1 hr)))))))))
    (fun qs k => y_laws_markKeptS_0 _ _ _ (Yields.ff (lt_ff (es := qs) (by omega)) (Yields.some _))) es [] k he h0 hk (by simp only [List.nil_append]; omega)
  exact ⟨n, ts, y_laws_markKeptS _ _ a1, a2, by omega, by omega, a5⟩

/- ---- kinds ---- -/
def gAny (t : T) (k n : Int) : Prop := True
theorem mark_str (fs : List T) (hlen : fs.length ≤ maxLen) (k : Int) (hp : ∀ x ∈ fs, IsStr x) (h0 : 0 ≤ k) (hk : k + 3 * (fs.length : Int) ≤ KB) :
    ∃ n t', Yields (fun m => cl env m F_laws_markStringS [.sl fs, .int k]) [.int n, t'] ∧ k ≤ n ∧ n ≤ k + 3 * (fs.length : Int) := by
  obtain ⟨n, ts, a1, a2, a3, a4, a5⟩ := mark_loop (L := fun m => l_laws_markStringS_0 (hl env m fi_laws_markStringS)) (p := IsStr) (g := gAny) (fun qs rest t k hp h0 hk hl => by
      obtain ⟨u, hu⟩ := mark_text h0 (show k ≤ KB by omega)
      refine ⟨k + 1, .str u, by omega, by omega, trivial, fun r hr => ?_⟩
      refine y_laws_markStringS_0 _ _ _ ?_
      unfold b_laws_markStringS_0
      simp only [ti_int, Int.toNat_natCast, es_sl, set_mid]
      have e1 : IntKind.wrap .i64 (k + 1) = k + 1 := wrapK h0 (by omega) 1 (by omega) (by omega)
      have e3 : T.int (IntKind.wrap .i64 ((qs.length : Int) + 1)) = T.int ((qs.length + 1 : Nat) : Int) := next_ok (n := (qs ++ t :: rest).length) (by simp) hl
      rw [e1, e3]
      exact Yields.tt (lt_mid qs rest _) (Yields.obind hu (Yields.tt (in_mid qs rest _) hr)))
    (fun qs k => y_laws_markStringS_0 _ _ _ (Yields.ff (lt_ff (es := qs) (by omega)) (Yields.some _))) fs [] k hp h0 (by rw [wts_strs hp]; omega) (by simpa using hlen)
  rw [wts_strs hp] at a3
  exact ⟨n, _, y_laws_markStringS _ _ a1, a2, by omega⟩
theorem mark_recs {b : Nat} (hb : b ≤ maxLen) (t : T) (h : IsRecs b t) (k : Int) (h0 : 0 ≤ k) (hk : k + 3 * (t.wt : Int) ≤ KB) :
    ∃ n t', Yields (fun m => cl env m F_laws_markRecordS [t, .int k]) [.int n, t'] ∧ k ≤ n ∧ n ≤ k + 3 * (t.wt : Int) := by
  obtain ⟨es, rfl, hlen, he⟩ := h
  have hw : (T.sl es).wt = T.wts es + es.length := by simp only [T.wt]
  rw [hw] at hk ⊢
  obtain ⟨n, ts, a1, a2, a3, a4, a5⟩ := mark_loop (L := fun m => l_laws_markRecordS_0 (hl env m fi_laws_markRecordS)) (p := IsRec b) (g := gAny) (fun qs rest t k hp h0 hk hl => by
      obtain ⟨a, fs, rfl, _, _, h3, h4⟩ := hp
      have hw : (T.st [.int a, .sl fs]).wt = fs.length := by simp only [T.wt, T.wts, wts_strs h4]; omega
      rw [hw] at hk ⊢
      obtain ⟨n1, t1, b1, b2, b3⟩ := mark_str fs (Nat.le_trans h3 hb) (k + 1) h4 (by omega) (by omega)
      refine ⟨n1, .st [.int k, t1], by omega, by omega, trivial, fun r hr => ?_⟩
      refine y_laws_markRecordS_0 _ _ _ ?_
      unfold b_laws_markRecordS_0
      simp only [ti_int, Int.toNat_natCast, put_mid, nth_mid, es_sl]
      have e1 : IntKind.wrap .i64 (k + 1) = k + 1 := wrapK h0 (by omega) 1 (by omega) (by omega)
      have e3 : T.int (IntKind.wrap .i64 ((qs.length : Int) + 1)) = T.int ((qs.length + 1 : Nat) : Int) := next_ok (n := (qs ++ T.st [.int a, .sl fs] :: rest).length) (by simp) hl
      rw [e1, e3]
      exact Yields.tt (lt_mid qs rest _) (Yields.tt (in_mid qs rest _) (Yields.tt (in_mid qs rest _) (Yields.obind b1 hr))))
    (fun qs k => y_laws_markRecordS_0 _ _ _ (Yields.ff (lt_ff (es := qs) (by omega)) (Yields.some _))) es [] k he h0 hk (by simp only [List.nil_append]; omega)
  exact ⟨n, _, y_laws_markRecordS _ _ a1, a2, by omega⟩
theorem mark_kinds {b : Nat} (hb : b ≤ maxLen) (t : T) (h : IsKinds b t) (k : Int) (h0 : 0 ≤ k) (hk : k + 3 * (t.wt : Int) ≤ KB) :
    ∃ n t', Yields (fun m => cl env m F_laws_markRecordSS [t, .int k]) [.int n, t'] ∧ k ≤ n ∧ n ≤ k + 3 * (t.wt : Int) := by
  obtain ⟨es, rfl, hlen, he⟩ := h
  have hw : (T.sl es).wt = T.wts es + es.length := by simp only [T.wt]
  rw [hw] at hk ⊢
  obtain ⟨n, ts, a1, a2, a3, a4, a5⟩ := mark_loop (L := fun m => l_laws_markRecordSS_0 (hl env m fi_laws_markRecordSS)) (p := IsRecs b) (g := gAny) (fun qs rest t k hp h0 hk hl => by
      obtain ⟨n1, t1, b1, b2, b3⟩ := mark_recs hb t hp k h0 (by omega)
      refine ⟨n1, t1, by omega, by omega, trivial, fun r hr => ?_⟩
      refine y_laws_markRecordSS_0 _ _ _ ?_
      unfold b_laws_markRecordSS_0
      simp only [ti_int, Int.toNat_natCast, nth_mid, es_sl, set_mid]
      have e3 : T.int (IntKind.wrap .i64 ((qs.length : Int) + 1)) = T.int ((qs.length + 1 : Nat) : Int) := next_ok (n := (qs ++ t :: rest).length) (by simp) hl
      rw [e3]
      exact Yields.tt (lt_mid qs rest _) (Yields.tt (in_mid qs rest _) (Yields.obind b1 hr)))
    (fun qs k => y_laws_markRecordSS_0 _ _ _ (Yields.ff (lt_ff (es := qs) (by omega)) (Yields.some _))) es [] k he h0 hk (by simp only [List.nil_append]; omega)
  exact ⟨n, _, y_laws_markRecordSS _ _ a1, a2, by omega⟩
end Go.Proofs.Ytmhjjanaackknaa.Ra
/- Plain side: copies of values; a record is found. -/
namespace Go.Proofs.Ytmhjjanaackknaa.Ra
open Go

theorem st4 {b : Nat} {t : T} (h : IsVal b t) : T.st [t.fld 0, t.fld 1, t.fld 2, t.fld 3] = t := by cases h; rfl
theorem clip_id (l : List T) : (l.take l.length).drop 0 = l := by simp
theorem bb_lim {n m : Nat} (h : n ≤ BB) (hm : m ≤ 1) : n + m ≤ LIM := by unfold BB at h; unfold LIM; omega
theorem wt_mem : ∀ {es : List T} {x : T}, x ∈ es → x.wt ≤ T.wts es
  | t :: l, x, h => by
    simp only [T.wts]
    rcases List.mem_cons.1 h with rfl | h
    · omega
    · have := wt_mem h; omega

theorem clip_val (l : List T) : Yields (fun k => cl env k F_slices_Clip_impl_Value [.sl l]) [.sl l] := by
  refine y_slices_Clip_impl_Value _ (Yields.tt ?_ ?_)
  · simp only [Bool.and_eq_true, decide_eq_true_eq]
    exact ⟨by omega, by show (0 : Int) ≤ (l.length : Int); omega, by omega, by omega⟩
  · show Yields (fun _ => some [T.sl ((l.take l.length).drop 0)]) _
    rw [clip_id]; exact Yields.some _
theorem clip_int (l : List T) : Yields (fun k => cl env k F_slices_Clip_int [.sl l]) [.sl l] := by
  refine y_slices_Clip_int _ (Yields.tt ?_ ?_)
  · simp only [Bool.and_eq_true, decide_eq_true_eq]
    exact ⟨by omega, by show (0 : Int) ≤ (l.length : Int); omega, by omega, by omega⟩
  · show Yields (fun _ => some [T.sl ((l.take l.length).drop 0)]) _
    rw [clip_id]; exact Yields.some _
theorem copy_ints (is : List T) (h : is.length ≤ BB) : Yields (fun k => cl env k F_impl_copyInts [.sl is]) [.sl is] := by
  refine y_impl_copyInts _ (Yields.tt (decide_eq_true ?_) (Yields.obind (clip_int _) ?_))
  · show ([] : List T).length + is.length ≤ LIM
    have := bb_lim h (m := 0) (by omega); simp; omega
  · show Yields (fun _ => some [T.sl ((([] ++ is).take ([] ++ is).length).drop 0)]) _
    rw [clip_id]; exact Yields.some _

theorem copy_s : ∀ v, IsVal BB v → Yields (fun k => cl env k F_spec_l2Copy [v]) [v] := by
  intro v h
  induction h with
  | @mk s n ps is h1 h2 h3 h4 h5 h6 h7 ih =>
    have key : ∀ (m i : Nat) (z : T), i + m = ps.length → Yields (fun k => l_spec_l2Copy_1 (hl env k fi_spec_l2Copy) (.int (i : Int)) (.st [.str s, .int n, .sl ps, .sl is]) z (.st [.str s, .int n, .sl (ps.take i), .sl is])) [.st [.str s, .int n, .sl ps, .sl is]] := by
      intro m
      induction m with
      | zero =>
        intro i z hi
        refine y_spec_l2Copy_1 _ _ _ _ (Yields.ff (lt_ff (es := ps) (by omega)) ?_)
        show Yields (fun _ => some [T.st [.str s, .int n, .sl (ps.take i), .sl is]]) _
        rw [List.take_of_length_le (by omega)]; exact Yields.some _
      | succ m ihm =>
        intro i z hi
        have hlt : i < ps.length := by omega
        have hv := h7 _ (List.getElem_mem hlt)
        have y := ih _ (List.getElem_mem hlt)
        have hn1 : ((T.sl ps).nth (T.int (i : Int)).i.toNat) = ps[i] := idx_ok hlt
        rw [← hn1] at y
        refine y_spec_l2Copy_1 _ _ _ _ (Yields.tt (lt_tt (es := ps) hlt) (Yields.tt (in_tt (es := ps) hlt) (Yields.obind y (Yields.tt (decide_eq_true ?_) ?_))))
        · show (ps.take i).length + 1 ≤ LIM
          have : (ps.take i).length ≤ BB := by rw [List.length_take]; omega
          exact bb_lim this (by omega)
        · have hnx := next_ok hlt (bb_max h4)
          rw [hnx]
          show Yields (fun k => l_spec_l2Copy_1 (Ra.hl env k fi_spec_l2Copy) (.int ((i + 1 : Nat) : Int)) _ _ (.st [.str s, .int n, .sl (ps.take i ++ [T.st [((T.sl ps).nth (T.int (i : Int)).i.toNat).fld 0, ((T.sl ps).nth (T.int (i : Int)).i.toNat).fld 1, ((T.sl ps).nth (T.int (i : Int)).i.toNat).fld 2, ((T.sl ps).nth (T.int (i : Int)).i.toNat).fld 3]]), .sl is])) _
          rw [hn1, st4 hv, List.take_append_getElem hlt]
          exact ihm (i + 1) z (by omega)
    refine y_spec_l2Copy _ (Yields.tt (decide_eq_true ?_) ?_)
    · show ([] : List T).length + is.length ≤ LIM
      have := bb_lim h5 (m := 0) (by omega); simp; omega
    · show Yields (fun k => l_spec_l2Copy_0 (Ra.hl env k fi_spec_l2Copy) (.int 0) _ _ (.st [.str s, .int n, .sl [], .sl is])) _
      by_cases hp : ps = []
      · subst hp
        exact y_spec_l2Copy_0 _ _ _ _ (Yields.ff (lt_ff (es := []) (i := 0) (by simp)) (Yields.some _))
      · have hlt : 0 < ps.length := by cases ps <;> simp_all
        have hv := h7 _ (List.getElem_mem hlt)
        have y := ih _ (List.getElem_mem hlt)
        have hn1 : ((T.sl ps).nth (T.int ((0 : Nat) : Int)).i.toNat) = ps[0] := idx_ok hlt
        rw [← hn1] at y
        refine y_spec_l2Copy_0 _ _ _ _ (Yields.tt (lt_tt (es := ps) hlt) (Yields.tt (in_tt (es := ps) hlt) (Yields.obind y (Yields.tt (decide_eq_true ?_) ?_))))
        · show 0 + 1 ≤ LIM
          unfold LIM; omega
        · have hnx := next_ok hlt (bb_max h4)
          show Yields (fun k => l_spec_l2Copy_1 (Ra.hl env k fi_spec_l2Copy) (T.int (IntKind.wrap .i64 ((T.int ((0 : Nat) : Int)).i + (1 : Int)))) _ _ (.st [.str s, .int n, .sl ([] ++ [T.st [((T.sl ps).nth (T.int ((0 : Nat) : Int)).i.toNat).fld 0, ((T.sl ps).nth (T.int ((0 : Nat) : Int)).i.toNat).fld 1, ((T.sl ps).nth (T.int ((0 : Nat) : Int)).i.toNat).fld 2, ((T.sl ps).nth (T.int ((0 : Nat) : Int)).i.toNat).fld 3]]), .sl is])) _
          rw [hnx, hn1, st4 hv, show ([] : List T) ++ [ps[0]] = ps.take 1 by rw [← List.take_append_getElem hlt]; rfl]
          exact key (ps.length - 1) 1 _ (by omega)

theorem copy_i : ∀ v, IsVal BB v → Yields (fun k => cl env k F_impl_copyValue [v]) [v] := by
  intro v h
  induction h with
  | @mk s n ps is h1 h2 h3 h4 h5 h6 h7 ih =>
    have last : ∀ (i : Nat), i = ps.length → Yields (fun k => obind (cl env k F_slices_Clip_impl_Value [((T.st [.str s, .int n, .sl (ps.take i), .sl is]).fld 2)]) fun r1 =>
        some [T.st [.str s, .int n, .sl (((ps.take i).take (ps.take i).length).drop 0), .sl is]]) [.st [.str s, .int n, .sl ps, .sl is]] := by
      intro i hi
      refine Yields.obind (clip_val _) ?_
      rw [clip_id, List.take_of_length_le (by omega)]; exact Yields.some _
    have key : ∀ (m i : Nat) (z : T), i + m = ps.length → Yields (fun k => l_impl_copyValue_1 (hl env k fi_impl_copyValue) (.sl ps) (.int (ps.length : Int)) (.int (i : Int)) z (.st [.str s, .int n, .sl (ps.take i), .sl is])) [.st [.str s, .int n, .sl ps, .sl is]] := by
      intro m
      induction m with
      | zero =>
        intro i z hi
        refine y_impl_copyValue_1 _ _ _ _ _ (Yields.ff ?_ (last i (by omega)))
        rw [lt_nat]; exact decide_eq_false (by omega)
      | succ m ihm =>
        intro i z hi
        have hlt : i < ps.length := by omega
        have hv := h7 _ (List.getElem_mem hlt)
        have y := ih _ (List.getElem_mem hlt)
        have hn1 : ((T.sl ps).nth (T.int (i : Int)).i.toNat) = ps[i] := idx_ok hlt
        rw [← hn1] at y
        refine y_impl_copyValue_1 _ _ _ _ _ (Yields.tt ?_ (Yields.tt (in_tt (es := ps) hlt) (Yields.obind y (Yields.tt (decide_eq_true ?_) ?_))))
        · rw [lt_nat]; exact decide_eq_true hlt
        · show (ps.take i).length + 1 ≤ LIM
          have : (ps.take i).length ≤ BB := by rw [List.length_take]; omega
          exact bb_lim this (by omega)
        · have hnx := next_ok hlt (bb_max h4)
          rw [hnx]
          show Yields (fun k => l_impl_copyValue_1 (Ra.hl env k fi_impl_copyValue) _ _ (.int ((i + 1 : Nat) : Int)) _ (.st [.str s, .int n, .sl (ps.take i ++ [T.st [((T.sl ps).nth (T.int (i : Int)).i.toNat).fld 0, ((T.sl ps).nth (T.int (i : Int)).i.toNat).fld 1, ((T.sl ps).nth (T.int (i : Int)).i.toNat).fld 2, ((T.sl ps).nth (T.int (i : Int)).i.toNat).fld 3]]), .sl is])) _
          rw [hn1, st4 hv, List.take_append_getElem hlt]
          exact ihm (i + 1) z (by omega)
    refine y_impl_copyValue _ (Yields.obind (copy_ints is h5) ?_)
    show Yields (fun k => l_impl_copyValue_0 (Ra.hl env k fi_impl_copyValue) (.sl ps) (.int (ps.length : Int)) (.int 0) _ (.st [.str s, .int n, .sl [], .sl is])) _
    by_cases hp : ps = []
    · subst hp
      exact y_impl_copyValue_0 _ _ _ _ _ (Yields.ff rfl (last 0 rfl))
    · have hlt : 0 < ps.length := by cases ps <;> simp_all
      have hv := h7 _ (List.getElem_mem hlt)
      have y := ih _ (List.getElem_mem hlt)
      have hn1 : ((T.sl ps).nth (T.int ((0 : Nat) : Int)).i.toNat) = ps[0] := idx_ok hlt
      rw [← hn1] at y
      refine y_impl_copyValue_0 _ _ _ _ _ (Yields.tt ?_ (Yields.tt (in_tt (es := ps) hlt) (Yields.obind y (Yields.tt (decide_eq_true ?_) ?_))))
      · exact decide_eq_true (by show (0 : Int) < (ps.length : Int); omega)
      · show 0 + 1 ≤ LIM
        unfold LIM; omega
      · have hnx := next_ok hlt (bb_max h4)
        show Yields (fun k => l_impl_copyValue_1 (Ra.hl env k fi_impl_copyValue) _ _ (T.int (IntKind.wrap .i64 ((T.int ((0 : Nat) : Int)).i + (1 : Int)))) _ (.st [.str s, .int n, .sl ([] ++ [T.st [((T.sl ps).nth (T.int ((0 : Nat) : Int)).i.toNat).fld 0, ((T.sl ps).nth (T.int ((0 : Nat) : Int)).i.toNat).fld 1, ((T.sl ps).nth (T.int ((0 : Nat) : Int)).i.toNat).fld 2, ((T.sl ps).nth (T.int ((0 : Nat) : Int)).i.toNat).fld 3]]), .sl is])) _
        rw [hnx, hn1, st4 hv, show ([] : List T) ++ [ps[0]] = ps.take 1 by rw [← List.take_append_getElem hlt]; rfl]
        exact key (ps.length - 1) 1 _ (by omega)

def hitB (ow : Int) (s : ByteArray) (x : T) : Bool := (x.fld 0).i == ow && (((x.fld 1).fld 0).s.toList == s.toList)
/-- The same place, the first one, or none. -/
theorem find_first {b : Nat} (hb : b ≤ maxLen) (es : List T) (hlen : es.length ≤ b) (ow : Int) (s : ByteArray) :
    ∃ r : Int, Yields (fun k => cl env k F_spec_l9Find [.sl es, .int ow, .str s]) [.int r] ∧ Yields (fun k => cl env k F_impl_vaultAt [.sl es, .int ow, .str s]) [.int r] ∧ ((r = -1 ∧ ∀ x ∈ es, hitB ow s x = false) ∨ ∃ (i : Nat) (h : i < es.length), r = (i : Int) ∧ hitB ow s es[i] = true ∧ ∀ j x, j < i → es[j]? = some x → hitB ow s x = false) := by
  have key : ∀ (m i : Nat), i + m = es.length → ∃ r : Int, Yields (fun k => l_spec_l9Find_0 (hl env k fi_spec_l9Find) (.sl es) (.int ow) (.str s) (.int (i : Int))) [.int r] ∧
      Yields (fun k => l_slices_IndexFunc_impl_Kept_0 (hl env k fi_slices_IndexFunc_impl_Kept) (.sl es) (.fn F_impl_vaultAt_1 [.int ow, .str s]) (.int (es.length : Int)) (.int (i : Int))) [.int r] ∧ ((r = -1 ∧ ∀ j x, i ≤ j → es[j]? = some x → hitB ow s x = false) ∨ ∃ (i' : Nat) (h : i' < es.length), r = (i' : Int) ∧ hitB ow s es[i'] = true ∧ ∀ j x, i ≤ j → j < i' → es[j]? = some x → hitB ow s x = false) := by
    intro m
    induction m with
    | zero =>
      intro i hi
      refine ⟨-1, y_spec_l9Find_0 _ _ _ _ (Yields.ff (lt_ff (by omega)) (Yields.some _)), y_slices_IndexFunc_impl_Kept_0 _ _ _ _ (Yields.ff ?_ (Yields.some _)), .inl ⟨rfl, fun j x hj hx => by rw [List.getElem?_eq_none (by omega)] at hx; cases hx⟩⟩
      rw [lt_nat]; exact decide_eq_false (by omega)
    | succ m ih =>
      intro i hi
      have hlt : i < es.length := by omega
      obtain ⟨r, y1, y2, y3⟩ := ih (i + 1) (by omega)
      have hnx := next_ok hlt (Nat.le_trans hlen hb)
      rw [← hnx] at y1 y2
      have d2 : decide ((T.int (i : Int)).i < (T.int (es.length : Int)).i) = true := by rw [lt_nat]; exact decide_eq_true hlt
      have more : hitB ow s es[i] = false → ((r = -1 ∧ ∀ j x, i ≤ j → es[j]? = some x → hitB ow s x = false) ∨ ∃ (i' : Nat) (h : i' < es.length), r = (i' : Int) ∧ hitB ow s es[i'] = true ∧ ∀ j x, i ≤ j → j < i' → es[j]? = some x → hitB ow s x = false) := by
        intro h0
        have at0 : ∀ j x, i ≤ j → ¬ i + 1 ≤ j → es[j]? = some x → hitB ow s x = false := by
          intro j x hj hj2 hx
          have : j = i := by omega
          subst this
          rw [List.getElem?_eq_getElem hlt] at hx
          cases hx; exact h0
        rcases y3 with ⟨y4, y5⟩ | ⟨i', y4, y5, y6, y7⟩
        · exact .inl ⟨y4, fun j x hj hx => if h : i + 1 ≤ j then y5 j x h hx else at0 j x hj h hx⟩
        · exact .inr ⟨i', y4, y5, y6, fun j x hj hj2 hx => if h : i + 1 ≤ j then y7 j x h hj2 hx else at0 j x hj h hx⟩
      have hei : es[i] = ((T.sl es).nth (T.int (i : Int)).i.toNat) := (idx_ok hlt).symm
      generalize hx : ((T.sl es).nth (T.int (i : Int)).i.toNat) = x at *
      have cls : ∀ c : Bool, (bif (x.fld 0).i == ow then (((x.fld 1).fld 0).s.toList == s.toList) else false) = c → Yields (fun k => cl env k F_impl_vaultAt_1 [x, .int ow, .str s]) [.bool c] := by
        intro c hc
        refine y_impl_vaultAt_1 _ _ _ (Yields.ite (fun h => ?_) (fun h => ?_))
        · rw [show ((x.fld 0).i == ow) = true from h, cond_true] at hc
          subst hc; exact Yields.some _
        · rw [show ((x.fld 0).i == ow) = false from h, cond_false] at hc
          subst hc; exact Yields.some _
      cases h1 : ((x.fld 0).i == ow) with
      | false =>
        have hc := cls false (by rw [h1]; rfl)
        rw [← hx] at hc
        exact ⟨r, y_spec_l9Find_0 _ _ _ _ (Yields.tt (lt_tt hlt) (Yields.tt (in_tt hlt) (Yields.ff (by rw [hx]; exact h1) y1))), y_slices_IndexFunc_impl_Kept_0 _ _ _ _ (Yields.tt d2 (Yields.tt (in_tt hlt) (Yields.obind hc (Yields.ff rfl y2)))), more (by rw [hei]; unfold hitB; rw [h1]; rfl)⟩
      | true =>
        cases h2 : (((x.fld 1).fld 0).s.toList == s.toList) with
        | false =>
          have hc := cls false (by rw [h1]; exact h2)
          rw [← hx] at hc
          exact ⟨r, y_spec_l9Find_0 _ _ _ _ (Yields.tt (lt_tt hlt) (Yields.tt (in_tt hlt) (Yields.tt (by rw [hx]; exact h1) (Yields.ff (by rw [hx]; exact h2) y1)))), y_slices_IndexFunc_impl_Kept_0 _ _ _ _ (Yields.tt d2 (Yields.tt (in_tt hlt) (Yields.obind hc (Yields.ff rfl y2)))), more (by rw [hei]; unfold hitB; rw [h1, h2]; rfl)⟩
        | true =>
          have hc := cls true (by rw [h1]; exact h2)
          rw [← hx] at hc
          exact ⟨(i : Int), y_spec_l9Find_0 _ _ _ _ (Yields.tt (lt_tt hlt) (Yields.tt (in_tt hlt) (Yields.tt (by rw [hx]; exact h1) (Yields.tt (by rw [hx]; exact h2) (Yields.some _))))), y_slices_IndexFunc_impl_Kept_0 _ _ _ _ (Yields.tt d2 (Yields.tt (in_tt hlt) (Yields.obind hc (Yields.tt rfl (Yields.some _))))), .inr ⟨i, hlt, rfl, (by rw [hei]; unfold hitB; rw [h1, h2]; rfl), fun j x hj hj2 _ => by omega⟩⟩
  obtain ⟨r, y1, y2, y3⟩ := key es.length 0 (by omega)
  exact ⟨r, y_spec_l9Find _ _ _ y1, y_impl_vaultAt _ _ _ (Yields.obind (y_slices_IndexFunc_impl_Kept _ _ y2) (Yields.some _)), by
    rcases y3 with ⟨y4, y5⟩ | ⟨i', y4, y5, y6, y7⟩
    · exact .inl ⟨y4, fun x hx => by
        obtain ⟨j, hj⟩ := List.mem_iff_getElem?.1 hx
        exact y5 j x (Nat.zero_le _) hj⟩
    · exact .inr ⟨i', y4, y5, y6, fun j x hj hx => y7 j x (Nat.zero_le _) hj hx⟩⟩
theorem find_same {b : Nat} (hb : b ≤ maxLen) (es : List T) (hlen : es.length ≤ b) (ow : Int) (s : ByteArray) :
    ∃ r : Int, Yields (fun k => cl env k F_spec_l9Find [.sl es, .int ow, .str s]) [.int r] ∧ Yields (fun k => cl env k F_impl_vaultAt [.sl es, .int ow, .str s]) [.int r] ∧ (r = -1 ∨ ∃ i : Nat, i < es.length ∧ r = (i : Int)) := by
  obtain ⟨r, y1, y2, y3⟩ := find_first hb es hlen ow s
  exact ⟨r, y1, y2, y3.elim (fun h => .inl h.1) fun ⟨i, h, h2, _⟩ => .inr ⟨i, h, h2⟩⟩
end Go.Proofs.Ytmhjjanaackknaa.Ra
/- Plain side: the order of vaults; a full list has each pair. -/
namespace Go.Proofs.Ytmhjjanaackknaa.Ra
open Go

theorem less_irrefl : ∀ l : List UInt8, Op.bytesLess l l = false
  | [] => rfl
  | a :: l => by
    simp only [Op.bytesLess, less_irrefl l, Bool.and_false, Bool.or_false]
    exact decide_eq_false (by rw [UInt8.lt_iff_toNat_lt]; omega)
theorem less_tri : ∀ a b : List UInt8, a ≠ b → Op.bytesLess a b = !Op.bytesLess b a
  | [], [], h => absurd rfl h
  | [], _ :: _, _ => rfl
  | _ :: _, [], _ => rfl
  | a :: l, b :: m, h => by
    simp only [Op.bytesLess]
    by_cases hab : a = b
    · subst hab
      have hlm : l ≠ m := fun e => h (by rw [e])
      rw [show decide (a < a) = false from decide_eq_false (by rw [UInt8.lt_iff_toNat_lt]; omega), beq_self_eq_true, Bool.true_and, Bool.true_and, Bool.false_or, Bool.false_or]
      exact less_tri l m hlm
    · have hn : ¬ a.toNat = b.toNat := fun e => hab (UInt8.toNat_inj.1 e)
      rw [show (a == b) = false from beq_eq_false_iff_ne.2 hab, show (b == a) = false from beq_eq_false_iff_ne.2 (fun e => hab e.symm), Bool.false_and, Bool.false_and, Bool.or_false, Bool.or_false]
      by_cases hlt : a.toNat < b.toNat
      · rw [show decide (a < b) = true from decide_eq_true (UInt8.lt_iff_toNat_lt.2 hlt), show decide (b < a) = false from decide_eq_false (by rw [UInt8.lt_iff_toNat_lt]; omega)]; rfl
      · rw [show decide (a < b) = false from decide_eq_false (by rw [UInt8.lt_iff_toNat_lt]; omega), show decide (b < a) = true from decide_eq_true (UInt8.lt_iff_toNat_lt.2 (by omega))]; rfl
theorem less_trans : ∀ a b c : List UInt8, Op.bytesLess a b = true → Op.bytesLess b c = true → Op.bytesLess a c = true
  | [], [], _, h, _ => absurd h (by simp [Op.bytesLess])
  | _ :: _, [], _, h, _ => absurd h (by simp [Op.bytesLess])
  | [], _ :: _, [], _, h => absurd h (by simp [Op.bytesLess])
  | [], _ :: _, _ :: _, _, _ => rfl
  | _ :: _, _ :: _, [], _, h => absurd h (by simp [Op.bytesLess])
  | a :: l, b :: m, c :: n, h1, h2 => by
    simp only [Op.bytesLess, Bool.or_eq_true, Bool.and_eq_true, decide_eq_true_eq, beq_iff_eq, UInt8.lt_iff_toNat_lt] at h1 h2 ⊢
    rcases h1 with h1 | ⟨rfl, h1⟩
    · rcases h2 with h2 | ⟨rfl, h2⟩
      · exact .inl (by omega)
      · exact .inl h1
    · rcases h2 with h2 | ⟨rfl, h2⟩
      · exact .inl h2
      · exact .inr ⟨rfl, less_trans l m n h1 h2⟩

theorem kind_list {s : ByteArray} {i j : Nat} (h : kindC s = some (i, j)) : ∃ a b c : UInt8, s.toList = [a, b, c] ∧ a.toNat = 83 ∧ b.toNat = 48 + i ∧ c.toNat = 48 + j := by
  unfold kindC at h
  split at h
  · rename_i hc
    obtain ⟨h0, h1, h2, h3, h4, h5⟩ := hc
    simp only [Option.some.injEq, Prod.mk.injEq] at h
    obtain ⟨ha, hb⟩ := h
    obtain ⟨⟨l⟩⟩ := s
    match l, h0, h1, h2, h3, h4, h5, ha, hb with
    | [a, b, c], _, h1, h2, h3, h4, h5, ha, hb =>
      refine ⟨a, b, c, by rw [ByteArray.toList_eq], ?_⟩
      have e0 : a.toNat = 83 := h1
      have e1 : b.toNat - 48 = i := ha
      have e2 : c.toNat - 48 = j := hb
      have e3 : 48 ≤ b.toNat := h2
      have e4 : 48 ≤ c.toNat := h4
      omega
  · cases h
theorem kind_inj {s u : ByteArray} {i j : Nat} (h1 : kindC s = some (i, j)) (h2 : kindC u = some (i, j)) : s = u := by
  obtain ⟨a, b, c, e1, e2, e3, e4⟩ := kind_list h1
  obtain ⟨a', b', c', f1, f2, f3, f4⟩ := kind_list h2
  have ha : a = a' := UInt8.toNat_inj.1 (by omega)
  have hb : b = b' := UInt8.toNat_inj.1 (by omega)
  have hc : c = c' := UInt8.toNat_inj.1 (by omega)
  subst ha; subst hb; subst hc
  have := e1.trans f1.symm
  rw [ByteArray.toList_eq, ByteArray.toList_eq] at this
  exact WideShapes.bytes_inj this
theorem kind_less {s u : ByteArray} {i j i' j' : Nat} (h1 : kindC s = some (i, j)) (h2 : kindC u = some (i', j')) (h : Op.bytesLess s.toList u.toList = true) : i < i' ∨ i = i' ∧ j < j' := by
  obtain ⟨a, b, c, e1, e2, e3, e4⟩ := kind_list h1
  obtain ⟨a', b', c', f1, f2, f3, f4⟩ := kind_list h2
  rw [e1, f1] at h
  simp only [Op.bytesLess, Bool.or_eq_true, Bool.and_eq_true, decide_eq_true_eq, beq_iff_eq, UInt8.lt_iff_toNat_lt, Bool.and_false, Bool.or_false] at h
  rcases h with h | ⟨_, h | ⟨h, h'⟩⟩
  · omega
  · omega
  · have := congrArg UInt8.toNat h
    omega
theorem kin_kind {ks : List T} {s : ByteArray} (h : kinB ks s = true) (hs : Small ks ks.length) (h3 : ks.length ≤ 3) : ∃ i j, kindC s = some (i, j) ∧ i < 3 ∧ j < 3 := by
  unfold kinB at h
  split at h
  · rename_i i j hk
    obtain ⟨g1, g2⟩ := has_two h
    have := hs i g1 g1
    exact ⟨i, j, hk, by omega, by omega⟩
  · cases h

def codeC (s : ByteArray) : Nat := match kindC s with
  | some (i, j) => 3 * i + j
  | none => 0
/-- The place of a pair of an owner and a kind among all. -/
def numT (x : T) : Nat := 9 * (x.fld 0).i.toNat + codeC ((x.fld 1).fld 0).s
theorem num_at {ks es : List T} (hs : Small ks ks.length) (h3 : ks.length ≤ 3) {j : Nat} {x : T} (h : AtOk ks es j) (hx : es[j]? = some x) : numT x < 36 ∧ (0 < j → ∃ y, es[j - 1]? = some y ∧ (AtOk ks es (j - 1) → numT y < numT x)) := by
  obtain ⟨o, v, hx', h1, h2, _, h4, h5⟩ := h
  rw [hx] at hx'; cases hx'
  obtain ⟨a, b, hk, ha, hb⟩ := kin_kind h4 hs h3
  have hc : codeC (v.fld 0).s = 3 * a + b := by unfold codeC; rw [hk]
  have hn : numT (.st [.int o, v]) = 9 * o.toNat + (3 * a + b) := by show 9 * o.toNat + codeC (v.fld 0).s = _; rw [hc]
  refine ⟨by omega, fun hj => ?_⟩
  obtain ⟨p, u, hp, hb'⟩ := h5 hj
  refine ⟨_, hp, fun ⟨p', u', hp', g1, g2, _, g4, _⟩ => ?_⟩
  rw [hp] at hp'; cases hp'
  obtain ⟨a', b', hk', ha', hb''⟩ := kin_kind g4 hs h3
  have hc' : codeC (u.fld 0).s = 3 * a' + b' := by unfold codeC; rw [hk']
  have hn' : numT (.st [.int p, u]) = 9 * p.toNat + (3 * a' + b') := by show 9 * p.toNat + codeC (u.fld 0).s = _; rw [hc']
  unfold befB at hb'
  rw [Bool.or_eq_true, decide_eq_true_eq, Bool.and_eq_true, beq_iff_eq] at hb'
  rcases hb' with h | ⟨h, h'⟩
  · omega
  · have := kind_less hk' hk h'
    omega
theorem num_full {ks es : List T} (hs : Small ks ks.length) (h3 : ks.length ≤ 3) (hl : ListOk ks es) (h36 : es.length = 36) : ∀ j x, es[j]? = some x → numT x = j := by
  have up : ∀ j x, es[j]? = some x → j ≤ numT x := by
    intro j
    induction j with
    | zero => intro x _; exact Nat.zero_le _
    | succ j ih =>
      intro x hx
      have hj := (List.getElem?_eq_some_iff.1 hx).1
      obtain ⟨_, h⟩ := num_at hs h3 (hl.2 (j + 1) hj) hx
      obtain ⟨y, hy, h⟩ := h (by omega)
      have := ih y hy
      have := h (hl.2 j (by omega))
      omega
  have down : ∀ n j x, j + n + 1 = 36 → es[j]? = some x → numT x ≤ j := by
    intro n
    induction n with
    | zero =>
      intro j x hj hx
      have := (num_at hs h3 (hl.2 j (by omega)) hx).1
      omega
    | succ n ih =>
      intro j x hj hx
      have hj' : j + 1 < es.length := by omega
      have hy := List.getElem?_eq_getElem hj'
      have h1 := ih (j + 1) _ (by omega) hy
      obtain ⟨_, h⟩ := num_at hs h3 (hl.2 (j + 1) hj') hy
      obtain ⟨z, hz, h⟩ := h (by omega)
      have hz' : es[j]? = some z := hz
      rw [hx] at hz'; cases hz'
      have := h (hl.2 j (by omega))
      omega
  intro j x hx
  have hj := (List.getElem?_eq_some_iff.1 hx).1
  have := up j x hx
  have := down (35 - j) j x (by omega) hx
  omega
/-- In a full list each owner has a record of each kind. -/
theorem full_hit {ks es : List T} (hs : Small ks ks.length) (h3 : ks.length ≤ 3) (hl : ListOk ks es) (h36 : es.length = 36) {ow : Int} {s : ByteArray} (h0 : 0 ≤ ow) (h4 : ow ≤ 3) (hk : kinB ks s = true) : ∃ x ∈ es, hitB ow s x = true := by
  obtain ⟨i, j, hkc, hi, hj⟩ := kin_kind hk hs h3
  have hlt : 9 * ow.toNat + (3 * i + j) < es.length := by omega
  have hx := List.getElem?_eq_getElem hlt
  have hn := num_full hs h3 hl h36 _ _ hx
  refine ⟨_, List.getElem_mem hlt, ?_⟩
  obtain ⟨o, v, hx', g1, g2, _, g4, _⟩ := hl.2 _ hlt
  have hx2 := Option.some.inj (hx.symm.trans hx')
  rw [hx2] at hn ⊢
  obtain ⟨i', j', hkc', hi', hj'⟩ := kin_kind g4 hs h3
  have hc : codeC (v.fld 0).s = 3 * i' + j' := by unfold codeC; rw [hkc']
  have hn : 9 * o.toNat + codeC (v.fld 0).s = 9 * ow.toNat + (3 * i + j) := hn
  rw [hc] at hn
  have ho : o = ow := by omega
  have e1 : i' = i := by omega
  have e2 : j' = j := by omega
  subst e1; subst e2; subst ho
  have := kind_inj hkc' hkc
  show ((o == o) && ((v.fld 0).s.toList == s.toList)) = true
  rw [this]; simp

/-- A record stands behind a pair just if the pair does not stand behind the record, or they are of one pair. -/
theorem bef_tri {p o : Int} {u v : T} (h : hitB o (v.fld 0).s (.st [.int p, u]) = false) : befB p u o v = !befB o v p u := by
  have h : ((p == o) && ((u.fld 0).s.toList == (v.fld 0).s.toList)) = false := h
  unfold befB
  by_cases hpo : p = o
  · subst hpo
    rw [beq_self_eq_true, Bool.true_and, beq_eq_false_iff_ne] at h
    rw [beq_self_eq_true, decide_eq_false (by omega : ¬ p < p), Bool.false_or, Bool.false_or, Bool.true_and, Bool.true_and]
    exact less_tri _ _ h
  · rw [show (p == o) = false from beq_eq_false_iff_ne.2 hpo, show (o == p) = false from beq_eq_false_iff_ne.2 (fun e => hpo e.symm), Bool.false_and, Bool.false_and, Bool.or_false, Bool.or_false]
    by_cases hlt : p < o
    · rw [decide_eq_true hlt, decide_eq_false (by omega : ¬ o < p)]; rfl
    · rw [decide_eq_false hlt, decide_eq_true (by omega : o < p)]; rfl
theorem bef_trans {a b c : Int} {u v w : T} (h1 : befB a u b v = true) (h2 : befB b v c w = true) : befB a u c w = true := by
  unfold befB at *
  rw [Bool.or_eq_true, decide_eq_true_eq, Bool.and_eq_true, beq_iff_eq] at h1 h2 ⊢
  rcases h1 with h1 | ⟨rfl, h1⟩
  · rcases h2 with h2 | ⟨rfl, h2⟩
    · exact .inl (by omega)
    · exact .inl h1
  · rcases h2 with h2 | ⟨rfl, h2⟩
    · exact .inl h2
    · exact .inr ⟨rfl, less_trans _ _ _ h1 h2⟩
end Go.Proofs.Ytmhjjanaackknaa.Ra
/- Plain side: copies of vaults; vaults held. -/
namespace Go.Proofs.Ytmhjjanaackknaa.Ra
open Go

theorem st2 {b : Nat} {x : T} (h : IsKept b x) : T.st [x.fld 0, x.fld 1] = x := by obtain ⟨o, v, rfl, _⟩ := h; rfl
theorem kept_val {b : Nat} {x : T} (h : IsKept b x) : IsVal b (x.fld 1) := by obtain ⟨o, v, rfl, _, _, hv⟩ := h; exact hv
theorem clip_kept (l : List T) : Yields (fun k => cl env k F_slices_Clip_impl_Kept [.sl l]) [.sl l] := by
  refine y_slices_Clip_impl_Kept _ (Yields.tt ?_ ?_)
  · simp only [Bool.and_eq_true, decide_eq_true_eq]
    exact ⟨by omega, by show (0 : Int) ≤ (l.length : Int); omega, by omega, by omega⟩
  · show Yields (fun _ => some [T.sl ((l.take l.length).drop 0)]) _
    rw [clip_id]; exact Yields.some _

theorem lcopy_s (es : List T) (hlen : es.length ≤ BB) (he : ∀ x ∈ es, IsKept BB x) : Yields (fun k => cl env k F_spec_l9Copy [.sl es]) [.sl es] := by
  have key : ∀ (m i : Nat), i + m = es.length → Yields (fun k => l_spec_l9Copy_0 (hl env k fi_spec_l9Copy) (.sl es) (.int (i : Int)) (.sl (es.take i))) [.sl es] := by
    intro m
    induction m with
    | zero =>
      intro i hi
      refine y_spec_l9Copy_0 _ _ _ (Yields.ff (lt_ff (by omega)) ?_)
      rw [List.take_of_length_le (by omega)]; exact Yields.some _
    | succ m ih =>
      intro i hi
      have hlt : i < es.length := by omega
      have hk := he _ (List.getElem_mem hlt)
      have hn1 : ((T.sl es).nth (T.int (i : Int)).i.toNat) = es[i] := idx_ok hlt
      have y := copy_s _ (kept_val hk)
      rw [← hn1] at y
      refine y_spec_l9Copy_0 _ _ _ (Yields.tt (lt_tt hlt) (Yields.tt (in_tt hlt) (Yields.obind y (Yields.tt (decide_eq_true ?_) ?_))))
      · show (es.take i).length + 1 ≤ LIM
        have : (es.take i).length ≤ BB := by rw [List.length_take]; omega
        exact bb_lim this (by omega)
      · rw [next_ok hlt (bb_max hlen)]
        show Yields (fun k => l_spec_l9Copy_0 (Ra.hl env k fi_spec_l9Copy) (.sl es) (.int ((i + 1 : Nat) : Int)) (.sl (es.take i ++ [T.st [((T.sl es).nth (T.int (i : Int)).i.toNat).fld 0, T.st [(((T.sl es).nth (T.int (i : Int)).i.toNat).fld 1).fld 0, (((T.sl es).nth (T.int (i : Int)).i.toNat).fld 1).fld 1, (((T.sl es).nth (T.int (i : Int)).i.toNat).fld 1).fld 2, (((T.sl es).nth (T.int (i : Int)).i.toNat).fld 1).fld 3]]]))) _
        rw [hn1, st4 (kept_val hk), st2 hk, List.take_append_getElem hlt]
        exact ih (i + 1) (by omega)
  exact y_spec_l9Copy _ (key es.length 0 (by omega))

theorem lcopy_i (es : List T) (hlen : es.length ≤ BB) (he : ∀ x ∈ es, IsKept BB x) : Yields (fun k => cl env k F_impl_copyKept [.sl es]) [.sl es] := by
  have key : ∀ (m i : Nat), i + m = es.length → Yields (fun k => l_impl_copyKept_0 (hl env k fi_impl_copyKept) (.sl es) (.int (es.length : Int)) (.int (i : Int)) (.sl (es.take i))) [.sl es] := by
    intro m
    induction m with
    | zero =>
      intro i hi
      refine y_impl_copyKept_0 _ _ _ _ (Yields.ff ?_ (Yields.obind (clip_kept _) ?_))
      · rw [lt_nat]; exact decide_eq_false (by omega)
      · show Yields (fun _ => some [T.sl (((es.take i).take (es.take i).length).drop 0)]) _
        rw [clip_id, List.take_of_length_le (by omega)]; exact Yields.some _
    | succ m ih =>
      intro i hi
      have hlt : i < es.length := by omega
      have hk := he _ (List.getElem_mem hlt)
      have hn1 : ((T.sl es).nth (T.int (i : Int)).i.toNat) = es[i] := idx_ok hlt
      have y := copy_i _ (kept_val hk)
      rw [← hn1] at y
      refine y_impl_copyKept_0 _ _ _ _ (Yields.tt ?_ (Yields.tt (in_tt hlt) (Yields.obind y (Yields.tt (decide_eq_true ?_) ?_))))
      · rw [lt_nat]; exact decide_eq_true hlt
      · show (es.take i).length + 1 ≤ LIM
        have : (es.take i).length ≤ BB := by rw [List.length_take]; omega
        exact bb_lim this (by omega)
      · rw [next_ok hlt (bb_max hlen)]
        show Yields (fun k => l_impl_copyKept_0 (Ra.hl env k fi_impl_copyKept) (.sl es) _ (.int ((i + 1 : Nat) : Int)) (.sl (es.take i ++ [T.st [((T.sl es).nth (T.int (i : Int)).i.toNat).fld 0, T.st [(((T.sl es).nth (T.int (i : Int)).i.toNat).fld 1).fld 0, (((T.sl es).nth (T.int (i : Int)).i.toNat).fld 1).fld 1, (((T.sl es).nth (T.int (i : Int)).i.toNat).fld 1).fld 2, (((T.sl es).nth (T.int (i : Int)).i.toNat).fld 1).fld 3]]]))) _
        rw [hn1, st4 (kept_val hk), st2 hk, List.take_append_getElem hlt]
        exact ih (i + 1) (by omega)
  exact y_impl_copyKept _ (key es.length 0 (by omega))

theorem held_list {ts : List T} {k n : Int} (h : Run gKept k ts n) (hl : ts.length ≤ maxLen) : Yields (fun m => cl env m F_laws_heldKeptS [.sl ts, .int k]) [.int n] := by
  refine y_laws_heldKeptS _ _ ?_
  refine held_loop (L := fun m => l_laws_heldKeptS_0 (Ra.hl env m fi_laws_heldKeptS)) (g := gKept) (fun qs rest t k n hg hl r hr => ?_) (fun qs k => y_laws_heldKeptS_0 _ _ _ (Yields.ff (lt_ff (es := qs) (by omega)) (Yields.some _))) h [] (by simpa using hl)
  obtain ⟨s, ps, is, n1, rfl, q1, q2, q3, q4, y1, y2, y3⟩ := hg
  refine y_laws_heldKeptS_0 _ _ _ ?_
  unfold b_laws_heldKeptS_0
  simp only [ti_int, Int.toNat_natCast, nth_mid, es_sl]
  have e1 : IntKind.wrap .i64 (k + 1) = k + 1 := wrapK q1 (by omega) 1 (by omega) (by omega)
  have e2 : IntKind.wrap .i64 (k + 1 + 1) = k + 2 := by rw [wrapK (n := k + 1) (by omega) (by omega) 1 (by omega) (by omega)]; omega
  have e4 : IntKind.wrap .i64 (k + 2 + 1) = k + 3 := by rw [wrapK (n := k + 2) (by omega) (by omega) 1 (by omega) (by omega)]; omega
  have e3 : T.int (IntKind.wrap .i64 ((qs.length : Int) + 1)) = T.int ((qs.length + 1 : Nat) : Int) := next_ok (n := (qs ++ T.st [.int k, .st [.str s, .int (k + 2), ps, is]] :: rest).length) (by simp) hl
  rw [e1, e2, e4, e3]
  refine Yields.tt (lt_mid qs rest _) (Yields.tt (in_mid qs rest _) (Yields.ff (ne_self _) (Yields.obind y1 (Yields.ff (nse_self s) (Yields.ff (ne_self _) (Yields.obind y2 (Yields.ff (decide_eq_false ?_) (Yields.obind y3 (Yields.ff (decide_eq_false ?_) hr)))))))))
  · show ¬ n1 < 0; omega
  · show ¬ n < 0; omega

/-- What both say of vaults, and what holds if they are ones. -/
theorem vaults_same' {b : Nat} (hb : b ≤ maxLen) (ks es : List T) (hk : IsKinds b (.sl ks)) (hl : IsList b (.sl es)) : ∃ c, Yields (fun k => cl env k F_spec_VaultsOk [.sl ks, .sl es]) [.bool c] ∧ Yields (fun k => cl env k F_impl_VaultsOk [.sl ks, .sl es]) [.bool c] ∧
    (c = true → (∀ x ∈ ks, IsRecs b x) ∧ Early ks ks.length 0) := by
  obtain ⟨ks', he, hk1, hk2⟩ := hk
  cases he
  obtain ⟨es', he, hl1, hl2⟩ := hl
  cases he
  obtain ⟨c, y1, y2, y3⟩ := kindsOk_same hk2 hb hk1
  cases c with
  | false => exact ⟨false, y_spec_VaultsOk _ _ (Yields.obind y1 (Yields.ff rfl (Yields.some _))), y_impl_VaultsOk _ _ (Yields.obind y2 (Yields.tt rfl (Yields.some _))), fun h => by cases h⟩
  | true =>
    obtain ⟨c, z1, z2⟩ := vaults_same hb (.sl ks) (.sl es) ⟨ks, rfl, hk1, hk2⟩ ⟨es, rfl, hl1, hl2⟩
    exact ⟨c, z1, z2, fun _ => ⟨hk2, y3 rfl⟩⟩
end Go.Proofs.Ytmhjjanaackknaa.Ra
/- The law of VaultsPut. -/
namespace Go.Proofs.Ytmhjjanaackknaa.Ra
open Go

theorem empty_list (b : Nat) : IsList b (.sl []) := ⟨[], rfl, by simp, fun x h => by cases h⟩
theorem wts_append : ∀ (a b : List T), T.wts (a ++ b) = T.wts a + T.wts b
  | [], b => by simp [T.wts]
  | t :: l, b => by have := wts_append l b; simp only [List.cons_append, T.wts]; omega

/-- Where a record goes: behind all that stand before it. -/
def InsAt (es : List T) (ow : Int) (v : T) (p : Nat) : Prop := p ≤ es.length ∧ (∀ (j : Nat) (o : Int) (u : T), es[j]? = some (.st [.int o, u]) → j < p → befB o u ow v = true) ∧
  (∀ (o : Int) (u : T), es[p]? = some (.st [.int o, u]) → befB o u ow v = false)
theorem ins_at (es : List T) (hes : ∀ x ∈ es, IsKept BB x) (ow : Int) (v : T) : ∃ p, InsAt es ow v p := by
  have key : ∀ (n i : Nat), i + n = es.length → (∀ (j : Nat) (o : Int) (u : T), es[j]? = some (.st [.int o, u]) → j < i → befB o u ow v = true) → ∃ p, InsAt es ow v p := by
    intro n
    induction n with
    | zero => intro i hi h; exact ⟨i, by omega, h, fun o u hx => by rw [List.getElem?_eq_none (by omega)] at hx; cases hx⟩
    | succ n ih =>
      intro i hi h
      have hlt : i < es.length := by omega
      obtain ⟨o, u, hx, _⟩ := hes _ (List.getElem_mem hlt)
      have hx' : es[i]? = some (.st [.int o, u]) := by rw [List.getElem?_eq_getElem hlt, hx]
      cases hb : befB o u ow v with
      | false => exact ⟨i, by omega, h, fun o' u' hy => by rw [hx'] at hy; cases hy; exact hb⟩
      | true =>
        refine ih (i + 1) (by omega) fun j o' u' hy hj => ?_
        by_cases hji : j = i
        · subst hji; rw [hx'] at hy; cases hy; exact hb
        · exact h j o' u' hy (by omega)
  exact key es.length 0 (by omega) fun j _ _ _ h => by omega

theorem roomy {l : List T} {n m : Nat} (h : l.length ≤ n) (hn : n + m ≤ LIM) : decide (l.length + m ≤ LIM) = true := decide_eq_true (by omega)

section
variable {es : List T} {v : T} {ow : Int} {p : Nat}
theorem put_s (hlen : es.length ≤ BB) (hes : ∀ x ∈ es, IsKept BB x) (hv : IsVal BB v) (hno : ∀ x ∈ es, hitB ow (v.fld 0).s x = false) (hp : InsAt es ow v p) :
    Yields (fun k => cl env k F_spec_l9Put [.sl es, .int ow, v]) [.sl (es.take p ++ .st [.int ow, v] :: es.drop p)] := by
  have hst := st4 hv
  have hB : BB + 5 ≤ LIM := by unfold BB LIM; omega
  -- a round ahead of the place, at it, and behind it
  have ahead : ∀ i, i < p → Yields (fun k => l_spec_l9Put_1 (hl env k fi_spec_l9Put) (.sl es) (.int ow) (.bool false) (.int ((i + 1 : Nat) : Int)) v (.sl (es.take (i + 1)))) [.sl (es.take p ++ .st [.int ow, v] :: es.drop p)] →
      Yields (fun k => b_spec_l9Put_1 (hl env k fi_spec_l9Put) (cl env k) (.sl es) (.int ow) (.bool false) (.int (i : Int)) v (.sl (es.take i))) [.sl (es.take p ++ .st [.int ow, v] :: es.drop p)] := by
    intro i hi hr
    have hlt : i < es.length := by have := hp.1; omega
    obtain ⟨o, u, hx, _⟩ := hes _ (List.getElem_mem hlt)
    have hb := hp.2.1 i o u (by rw [List.getElem?_eq_getElem hlt, hx]) hi
    have hnth : ((T.sl es).nth (T.int (i : Int)).i.toNat) = .st [.int o, u] := by rw [idx_ok hlt, hx]
    have hl : decide ((es.take i).length + 1 ≤ LIM) = true := roomy (n := BB) (by rw [List.length_take]; omega) (by omega)
    have hr' : Yields (fun k => l_spec_l9Put_1 (Ra.hl env k fi_spec_l9Put) (.sl es) (.int ow) (.bool false) (T.int (IntKind.wrap .i64 ((T.int (i : Int)).i + (1 : Int)))) v (.sl (es.take i ++ [T.st [.int o, u]]))) [.sl (es.take p ++ .st [.int ow, v] :: es.drop p)] := by
      rw [next_ok hlt (bb_max hlen), ← hx, List.take_append_getElem hlt]; exact hr
    unfold b_spec_l9Put_1
    rw [hnth]
    unfold befB at hb
    refine Yields.tt (lt_tt hlt) (Yields.tt rfl (Yields.tt (in_tt hlt) (Yields.ff ?_ ?_)))
    · refine decide_eq_false ?_
      show ¬ o > ow
      rw [Bool.or_eq_true, decide_eq_true_eq, Bool.and_eq_true, beq_iff_eq] at hb
      omega
    · refine Yields.ite (fun e => ?_) (fun e => Yields.tt hl hr')
      have e' : (o == ow) = true := e
      have ho : o = ow := by simpa using e'
      have hb' : Op.bytesLess (u.fld 0).s.toList (v.fld 0).s.toList = true := by
        rw [decide_eq_false (by omega : ¬ o < ow), e', Bool.false_or, Bool.true_and] at hb; exact hb
      refine Yields.ff ?_ (Yields.tt hl hr')
      show (!(Op.bytesLess (u.fld 0).s.toList (v.fld 0).s.toList || _)) = false
      rw [hb']; rfl
  have behind : ∀ (m i : Nat), i + m = es.length → p ≤ i → ∀ out : List T, out ++ es.drop i = es.take p ++ .st [.int ow, v] :: es.drop p →
      Yields (fun k => l_spec_l9Put_1 (hl env k fi_spec_l9Put) (.sl es) (.int ow) (.bool true) (.int (i : Int)) v (.sl out)) [.sl (es.take p ++ .st [.int ow, v] :: es.drop p)] := by
    intro m
    induction m with
    | zero =>
      intro i hi hpi out ho
      rw [List.drop_eq_nil_of_le (by omega), List.append_nil] at ho
      refine y_spec_l9Put_1 _ _ _ _ _ _ (Yields.ff (lt_ff (by omega)) (Yields.ff rfl ?_))
      rw [← ho]; exact Yields.some _
    | succ m ih =>
      intro i hi hpi out ho
      have hlt : i < es.length := by omega
      have hol : out.length ≤ BB + 1 := by
        have := congrArg List.length ho
        simp only [List.length_append, List.length_cons, List.length_take, List.length_drop] at this
        omega
      refine y_spec_l9Put_1 _ _ _ _ _ _ (Yields.tt (lt_tt hlt) (Yields.ff rfl (Yields.tt (in_tt hlt) (Yields.tt (roomy (n := BB + 1) (m := 1) hol (by omega)) ?_))))
      rw [next_ok hlt (bb_max hlen), idx_ok hlt]
      refine ih (i + 1) (by omega) (by omega) _ ?_
      show (out ++ [es[i]]) ++ es.drop (i + 1) = _
      rw [← ho, List.append_assoc, List.singleton_append, ← List.drop_eq_getElem_cons hlt]
  have place : Yields (fun k => b_spec_l9Put_1 (hl env k fi_spec_l9Put) (cl env k) (.sl es) (.int ow) (.bool false) (.int (p : Int)) v (.sl (es.take p))) [.sl (es.take p ++ .st [.int ow, v] :: es.drop p)] := by
    have hl : decide ((es.take p).length + 1 ≤ LIM) = true := roomy (n := BB) (by rw [List.length_take]; omega) (by omega)
    unfold b_spec_l9Put_1
    by_cases hlt : p < es.length
    · obtain ⟨o, u, hx, _⟩ := hes _ (List.getElem_mem hlt)
      have hb := hp.2.2 o u (by rw [List.getElem?_eq_getElem hlt, hx])
      have hh := hno _ (List.getElem_mem hlt)
      rw [hx] at hh
      have hh : ((o == ow) && ((u.fld 0).s.toList == (v.fld 0).s.toList)) = false := hh
      have hnth : ((T.sl es).nth (T.int (p : Int)).i.toNat) = .st [.int o, u] := by rw [idx_ok hlt, hx]
      have ins : Yields (fun k => obind (cl env k F_spec_l2Copy [v]) fun r1 =>
 bif (decide ((T.sl (es.take p)).es.length + [(T.st [.int ow, (T.st [((rt r1 0).fld 0), ((rt r1 0).fld 1), ((rt r1 0).fld 2), ((rt r1 0).fld 3)])])].length ≤ LIM)) then
 bif (decide (((T.sl (es.take p)).es ++ [(T.st [.int ow, (T.st [((rt r1 0).fld 0), ((rt r1 0).fld 1), ((rt r1 0).fld 2), ((rt r1 0).fld 3)])])]).length + [T.st [.int o, u]].length ≤ LIM)) then
 l_spec_l9Put_1 (Ra.hl env k fi_spec_l9Put) (.sl es) (.int ow) (T.bool true) (T.int (IntKind.wrap .i64 ((T.int (p : Int)).i + (1 : Int)))) v (T.sl (((T.sl (es.take p)).es ++ [(T.st [.int ow, (T.st [((rt r1 0).fld 0), ((rt r1 0).fld 1), ((rt r1 0).fld 2), ((rt r1 0).fld 3)])])]) ++ [T.st [.int o, u]]))
 else
 none
 else
 none) [.sl (es.take p ++ .st [.int ow, v] :: es.drop p)] := by
        have e : T.st [((rt [v] 0).fld 0), ((rt [v] 0).fld 1), ((rt [v] 0).fld 2), ((rt [v] 0).fld 3)] = v := hst
        refine Yields.obind (copy_s v hv) (Yields.tt hl (Yields.tt (roomy (n := BB + 1) (m := 1) (by simp only [T.es, List.length_append, List.length_take, List.length_singleton]; omega) (by omega)) ?_))
        rw [e, next_ok hlt (bb_max hlen), ← hx]
        refine behind (es.length - (p + 1)) (p + 1) (by omega) (by omega) _ ?_
        show (es.take p ++ [T.st [.int ow, v]] ++ [es[p]]) ++ es.drop (p + 1) = _
        rw [List.append_assoc, List.append_assoc, List.singleton_append, List.singleton_append, ← List.drop_eq_getElem_cons hlt]
      rw [hnth]
      refine Yields.tt (lt_tt hlt) (Yields.tt rfl (Yields.tt (in_tt hlt) (Yields.ite (fun _ => ins) (fun e => ?_))))
      have e' : ¬ o > ow := of_decide_eq_false e
      unfold befB at hb
      rw [Bool.or_eq_false_iff, decide_eq_false_iff_not] at hb
      have ho : o = ow := by omega
      subst ho
      rw [beq_self_eq_true, Bool.true_and] at hb hh
      refine Yields.tt (by simp [T.i, T.fld, T.fs]) (Yields.tt ?_ ins)
      show (!(Op.bytesLess (u.fld 0).s.toList (v.fld 0).s.toList || (u.fld 0).s.toList == (v.fld 0).s.toList)) = true
      rw [hb.2, hh]; rfl
    · have e : T.st [((rt [v] 0).fld 0), ((rt [v] 0).fld 1), ((rt [v] 0).fld 2), ((rt [v] 0).fld 3)] = v := hst
      refine Yields.ff (lt_ff hlt) (Yields.tt rfl (Yields.obind (copy_s v hv) (Yields.tt hl ?_)))
      rw [e, List.drop_eq_nil_of_le (by omega)]; exact Yields.some _
  have key : ∀ (m i : Nat), i + m = p → Yields (fun k => b_spec_l9Put_1 (hl env k fi_spec_l9Put) (cl env k) (.sl es) (.int ow) (.bool false) (.int (i : Int)) v (.sl (es.take i))) [.sl (es.take p ++ .st [.int ow, v] :: es.drop p)] := by
    intro m
    induction m with
    | zero =>
      intro i hi
      have : i = p := by omega
      subst this; exact place
    | succ m ih => intro i hi; exact ahead i (by omega) (y_spec_l9Put_1 _ _ _ _ _ _ (ih (i + 1) (by omega)))
  exact y_spec_l9Put _ _ _ (y_spec_l9Put_0 _ _ _ _ _ _ (key p 0 (by omega)))

theorem ins_list (hlen : es.length ≤ 36) (hes : ∀ x ∈ es, IsKept BB x) (ho1 : -9223372036854775808 ≤ ow) (ho2 : ow ≤ 9223372036854775807) (hv : IsVal BB v) : IsList BB (.sl (es.take p ++ .st [.int ow, v] :: es.drop p)) := by
  refine ⟨_, rfl, ?_, fun x hx => ?_⟩
  · simp only [List.length_append, List.length_cons, List.length_take, List.length_drop]; unfold BB; omega
  · rcases List.mem_append.1 hx with hx | hx
    · exact hes x (List.mem_of_mem_take hx)
    · rcases List.mem_cons.1 hx with rfl | hx
      · exact ⟨ow, v, rfl, ho1, ho2, hv⟩
      · exact hes x (List.mem_of_mem_drop hx)

theorem put_i (hlen : es.length ≤ 36) (hes : ∀ x ∈ es, IsKept BB x) (ho1 : -9223372036854775808 ≤ ow) (ho2 : ow ≤ 9223372036854775807) (hv : IsVal BB v) (hp : InsAt es ow v p) :
    Yields (fun k => cl env k F_impl_withKept [.sl es, .st [.int ow, v]]) [.sl (es.take p ++ .st [.int ow, v] :: es.drop p)] := by
  have hB : BB + 5 ≤ LIM := by unfold BB LIM; omega
  have hlb : es.length ≤ BB := by unfold BB; omega
  have hpl := hp.1
  have last : Yields (fun k => bif (decide (0 ≤ (0 : Int)) && (decide ((0 : Int) ≤ (T.int (p : Int)).i) && (decide ((T.int (p : Int)).i ≤ ((T.sl es).es.length : Int)) && decide (((T.sl es).es.length : Int) ≤ ((T.sl es).es.length : Int))))) then
 bif (decide (([] : List T).length + (((T.sl es).es.take (T.int (p : Int)).i.toNat).drop 0).length ≤ LIM)) then
 bif (decide ((([] : List T) ++ (((T.sl es).es.take (T.int (p : Int)).i.toNat).drop 0)).length + [T.st [.int ow, v]].length ≤ LIM)) then
 bif (decide (0 ≤ (T.int (p : Int)).i) && (decide ((T.int (p : Int)).i ≤ ((T.sl es).es.length : Int)) && (decide (((T.sl es).es.length : Int) ≤ ((T.sl es).es.length : Int)) && decide (((T.sl es).es.length : Int) ≤ ((T.sl es).es.length : Int))))) then
 bif (decide (((([] : List T) ++ (((T.sl es).es.take (T.int (p : Int)).i.toNat).drop 0)) ++ [T.st [.int ow, v]]).length + (((T.sl es).es.take (T.sl es).es.length).drop (T.int (p : Int)).i.toNat).length ≤ LIM)) then
 obind (cl env k F_impl_copyKept [(T.sl (((([] : List T) ++ (((T.sl es).es.take (T.int (p : Int)).i.toNat).drop 0)) ++ [T.st [.int ow, v]]) ++ (((T.sl es).es.take (T.sl es).es.length).drop (T.int (p : Int)).i.toNat)))]) fun r2 =>
 some [(rt r2 0)]
 else
 none
 else
 none
 else
 none
 else
 none
 else
 none) [.sl (es.take p ++ .st [.int ow, v] :: es.drop p)] := by
    have e1 : ((T.sl es).es.take (T.int (p : Int)).i.toNat).drop 0 = es.take p := by show (es.take (p : Int).toNat).drop 0 = _; rw [Int.toNat_natCast, List.drop_zero]
    have e2 : ((T.sl es).es.take (T.sl es).es.length).drop (T.int (p : Int)).i.toNat = es.drop p := by show (es.take es.length).drop (p : Int).toNat = _; rw [Int.toNat_natCast, List.take_length]
    rw [e1, e2, List.nil_append]
    obtain ⟨_, hq, hil, him⟩ := ins_list (p := p) hlen hes ho1 ho2 hv
    cases hq
    have hc := lcopy_i _ hil him
    have e3 : es.take p ++ [T.st [.int ow, v]] ++ es.drop p = es.take p ++ .st [.int ow, v] :: es.drop p := by rw [List.append_assoc]; rfl
    rw [e3]
    refine Yields.tt ?_ (Yields.tt (decide_eq_true ?_) (Yields.tt (decide_eq_true ?_) (Yields.tt ?_ (Yields.tt (decide_eq_true ?_) (Yields.obind hc (Yields.some _))))))
    · simp only [Bool.and_eq_true, decide_eq_true_eq]; exact ⟨by omega, by show (0 : Int) ≤ p; omega, by show (p : Int) ≤ (es.length : Int); omega, by omega⟩
    · simp only [List.length_nil, List.length_take]; omega
    · simp only [List.length_take, List.length_singleton]; omega
    · simp only [Bool.and_eq_true, decide_eq_true_eq]; exact ⟨by show (0 : Int) ≤ p; omega, by show (p : Int) ≤ (es.length : Int); omega, by omega, by omega⟩
    · simp only [List.length_append, List.length_take, List.length_singleton, List.length_drop]; omega
  have key : ∀ (m i : Nat), i + m = p → Yields (fun k => l_impl_withKept_0 (hl env k fi_impl_withKept) (.sl es) (.int (i : Int)) (.st [.int ow, v])) [.sl (es.take p ++ .st [.int ow, v] :: es.drop p)] := by
    intro m
    induction m with
    | zero =>
      intro i hi
      have hip : i = p := by omega
      subst hip
      refine y_impl_withKept_0 _ _ _ ?_
      by_cases hlt : i < es.length
      · obtain ⟨o, u, hx, _⟩ := hes _ (List.getElem_mem hlt)
        have hb := hp.2.2 o u (by rw [List.getElem?_eq_getElem hlt, hx])
        have hnth : ((T.sl es).nth (T.int (i : Int)).i.toNat) = .st [.int o, u] := by rw [idx_ok hlt, hx]
        have hbi := before_i o ow u v
        rw [show (decide (o < ow) || ((o == ow) && Op.bytesLess (u.fld 0).s.toList (v.fld 0).s.toList)) = false from hb, ← hnth] at hbi
        exact Yields.tt (lt_tt hlt) (Yields.tt (in_tt hlt) (Yields.obind hbi (Yields.ff rfl last)))
      · exact Yields.ff (lt_ff hlt) last
    | succ m ih =>
      intro i hi
      have hlt : i < es.length := by omega
      obtain ⟨o, u, hx, _⟩ := hes _ (List.getElem_mem hlt)
      have hb := hp.2.1 i o u (by rw [List.getElem?_eq_getElem hlt, hx]) (by omega)
      have hnth : ((T.sl es).nth (T.int (i : Int)).i.toNat) = .st [.int o, u] := by rw [idx_ok hlt, hx]
      have hbi := before_i o ow u v
      rw [show (decide (o < ow) || ((o == ow) && Op.bytesLess (u.fld 0).s.toList (v.fld 0).s.toList)) = true from hb, ← hnth] at hbi
      refine y_impl_withKept_0 _ _ _ (Yields.tt (lt_tt hlt) (Yields.tt (in_tt hlt) (Yields.obind hbi (Yields.tt rfl ?_))))
      rw [next_ok hlt (bb_max hlb)]; exact ih (i + 1) (by omega)
  exact y_impl_withKept _ _ (key p 0 (by omega))
end

/-- The same vaults, the same word. -/
theorem vput_same (ks es : List T) (v : T) (hk : IsKinds BB (.sl ks)) (hl : IsList BB (.sl es)) (hv : IsVal BB v) (ow : Int) (ho1 : -9223372036854775808 ≤ ow) (ho2 : ow ≤ 9223372036854775807) :
    ∃ (ts : List T) (c : Bool), Yields (fun k => cl env k F_spec_VaultsPut [.sl ks, .sl es, .int ow, v]) [.sl ts, .bool c] ∧ Yields (fun k => cl env k F_impl_VaultsPut [.sl ks, .sl es, .int ow, v]) [.sl ts, .bool c] ∧ IsList BB (.sl ts) ∧
      (T.sl ts).wt ≤ (T.sl es).wt + v.wt + 1 := by
  obtain ⟨c, y1, y2, y3, _⟩ := vaults_good (bb_max (Nat.le_refl _)) ks es hk hl
  obtain ⟨es', he, hl1, hl2⟩ := hl
  cases he
  have hz : (T.sl []).wt = 0 := rfl
  cases c with
  | false => exact ⟨[], false, y_spec_VaultsPut _ _ _ _ (Yields.obind y1 (Yields.tt rfl (Yields.some _))), y_impl_VaultsPut _ _ _ _ (Yields.obind y2 (Yields.tt rfl (Yields.some _))), empty_list _, by omega⟩
  | true =>
    obtain ⟨hk2, he, hs, h3, hlo⟩ := y3 rfl
    have hin := in_s ow 0 3
    by_cases hlow : ow < 0
    · rw [decide_eq_false (by omega : ¬ ow ≥ 0), Bool.false_and] at hin
      exact ⟨[], false, y_spec_VaultsPut _ _ _ _ (Yields.obind y1 (Yields.ff rfl (Yields.obind hin (Yields.tt rfl (Yields.some _))))), y_impl_VaultsPut _ _ _ _ (Yields.obind y2 (Yields.ff rfl (Yields.tt (decide_eq_true hlow) (Yields.some _)))), empty_list _, by omega⟩
    by_cases hhigh : ow ≥ 4
    · rw [decide_eq_false (by omega : ¬ ow ≤ 3), Bool.and_false] at hin
      exact ⟨[], false, y_spec_VaultsPut _ _ _ _ (Yields.obind y1 (Yields.ff rfl (Yields.obind hin (Yields.tt rfl (Yields.some _))))), y_impl_VaultsPut _ _ _ _ (Yields.obind y2 (Yields.ff rfl (Yields.ff (decide_eq_false hlow) (Yields.tt (decide_eq_true hhigh) (Yields.some _))))), empty_list _, by omega⟩
    rw [decide_eq_true (by omega : ow ≥ 0), decide_eq_true (by omega : ow ≤ 3)] at hin
    obtain ⟨c, w1, w2, w3⟩ := keep_kin hk2 (bb_max (Nat.le_refl _)) he _ hv
    cases c with
    | false => exact ⟨[], false, y_spec_VaultsPut _ _ _ _ (Yields.obind y1 (Yields.ff rfl (Yields.obind hin (Yields.ff rfl (Yields.obind w1 (Yields.tt rfl (Yields.some _))))))), y_impl_VaultsPut _ _ _ _ (Yields.obind y2 (Yields.ff rfl (Yields.ff (decide_eq_false hlow) (Yields.ff (decide_eq_false hhigh) (Yields.obind w2 (Yields.tt rfl (Yields.some _))))))), empty_list _, by omega⟩
    | true =>
      have hkin := w3 rfl
      obtain ⟨s, n, ps, is, hve, _⟩ := val_shape hv
      obtain ⟨r, z1, z2, z3⟩ := find_first (bb_max (Nat.le_refl _)) es hl1 ow s
      have hf0 : v.fld 0 = .str s := by rw [hve]; rfl
      have hf0s : (v.fld 0).s = s := by rw [hf0]; rfl
      rw [← hf0] at z1 z2
      rcases z3 with ⟨rfl, hno⟩ | ⟨i, hi, rfl, _⟩
      · have h36 : ((es.length : Int) == 36) = false := by
          rw [beq_eq_false_iff_ne]
          intro h
          obtain ⟨x, hx, hh⟩ := full_hit hs h3 hlo (by omega) (by omega : 0 ≤ ow) (by omega) hkin
          rw [hf0s, hno x hx] at hh; cases hh
        obtain ⟨p, hp⟩ := ins_at es hl2 ow v
        rw [← hf0s] at hno
        refine ⟨_, true, y_spec_VaultsPut _ _ _ _ (Yields.obind y1 (Yields.ff rfl (Yields.obind hin (Yields.ff rfl (Yields.obind w1 (Yields.ff rfl (Yields.obind z1 (Yields.ff rfl (Yields.obind (lcopy_s es hl1 hl2) (Yields.obind (put_s hl1 hl2 hv hno hp) (Yields.some _))))))))))),
          y_impl_VaultsPut _ _ _ _ (Yields.obind y2 (Yields.ff rfl (Yields.ff (decide_eq_false hlow) (Yields.ff (decide_eq_false hhigh) (Yields.obind w2 (Yields.ff rfl (Yields.obind z2 (Yields.ff rfl (Yields.ff h36 (Yields.obind (put_i hlo.1 hl2 ho1 ho2 hv hp) (Yields.some _))))))))))), ins_list hlo.1 hl2 ho1 ho2 hv, ?_⟩
        have h1 : T.wts es = T.wts (es.take p) + T.wts (es.drop p) := by rw [← wts_append, List.take_append_drop]
        have h2 : es.length = (es.take p).length + (es.drop p).length := by rw [← List.length_append, List.take_append_drop]
        show T.wts (es.take p ++ T.st [.int ow, v] :: es.drop p) + (es.take p ++ T.st [.int ow, v] :: es.drop p).length ≤ T.wts es + es.length + v.wt + 1
        rw [wts_append]
        simp only [T.wts, T.wt, List.length_append, List.length_cons] at *
        omega
      · have hge : decide ((T.int (i : Int)).i ≥ (0 : Int)) = true := decide_eq_true (by show (i : Int) ≥ 0; omega)
        exact ⟨[], false, y_spec_VaultsPut _ _ _ _ (Yields.obind y1 (Yields.ff rfl (Yields.obind hin (Yields.ff rfl (Yields.obind w1 (Yields.ff rfl (Yields.obind z1 (Yields.tt hge (Yields.some _))))))))),
          y_impl_VaultsPut _ _ _ _ (Yields.obind y2 (Yields.ff rfl (Yields.ff (decide_eq_false hlow) (Yields.ff (decide_eq_false hhigh) (Yields.obind w2 (Yields.ff rfl (Yields.obind z2 (Yields.tt hge (Yields.some _))))))))), empty_list _, by omega⟩

theorem law_exactPut (kt lt v : T) (ow : Int) (ho1 : -9223372036854775808 ≤ ow) (ho2 : ow ≤ 9223372036854775807) (hk : IsKinds maxLen kt) (hl : IsList maxLen lt) (hv : IsVal maxLen v) : Yields (fun k => cl env k F_laws_FnExactVaultsPut [kt, lt, .int ow, v]) [.bool true] := by
  refine y_laws_FnExactVaultsPut _ _ _ _ ?_
  obtain ⟨n, a1, a2, a3, a4⟩ := sz_kinds kt 1048576 hk (by omega) (by omega)
  refine Yields.obind a1 (Yields.ite (fun _ => Yields.some _) (fun e => ?_))
  have hn : ¬ n < 0 := of_decide_eq_false e
  obtain ⟨hk, hkw⟩ := a4 (by omega)
  obtain ⟨m, b1, b2, b3, b4⟩ := sz_list lt n hl (by omega) (by omega)
  refine Yields.obind b1 (Yields.ite (fun _ => Yields.some _) (fun e => ?_))
  have hm : ¬ m < 0 := of_decide_eq_false e
  obtain ⟨hl, hlw⟩ := b4 (by omega)
  obtain ⟨q, g1, g2, g3, g4⟩ := sz_val v hv m (by omega) (by omega)
  refine Yields.obind g1 (Yields.ite (fun _ => Yields.some _) (fun e => ?_))
  have hq : ¬ q < 0 := of_decide_eq_false e
  obtain ⟨hv, hvw⟩ := g4 (by omega)
  have tk := to_kinds kt hk
  have tl := to_list lt hl
  have tv := to_val v hv
  have hb := bb_max (Nat.le_refl BB)
  have ev := eq_val v hv
  have ek := eq_kinds kt hk
  have el := eq_list lt hl
  obtain ⟨n1, t1, d1, d2, d3⟩ := mark_kinds hb kt hk 1 (by omega) (by unfold KB; omega)
  obtain ⟨n2, t2, e1, e2, e3, _, _⟩ := mark_list hb lt hl n1 (by omega) (by unfold KB; omega)
  obtain ⟨ks, rfl, hk1, hk2⟩ := hk
  obtain ⟨es, rfl, hl1, hl2⟩ := hl
  obtain ⟨ts, c, c1, c2, c3, c4⟩ := vput_same ks es v ⟨ks, rfl, hk1, hk2⟩ ⟨es, rfl, hl1, hl2⟩ hv ow ho1 ho2
  have er := eq_list (.sl ts) c3
  obtain ⟨m2, us, f1, f2, f3, f4, f5⟩ := mark_list hb (.sl ts) c3 1 (by omega) (by unfold KB; omega)
  have f6 := held_list f5 (by omega)
  have ne_bool : ∀ c : Bool, (!(c == c)) = false := fun c => by cases c <;> rfl
  cases hv with
  | @mk u q' ps is h1 h2 h3 h4 h5 h6 h7 =>
    obtain ⟨m3, ts', m4, us', k1, k2, k3, k4, k5, _, _⟩ := mark_val hb (.mk h1 h2 h3 h4 h5 h6 h7 : IsVal BB (.st [.str u, .int q', .sl ps, .sl is])) n2 (by omega) (by unfold KB; omega)
    refine Yields.obind tk (Yields.obind tl (Yields.obind tv (Yields.obind c1 (Yields.obind tk (Yields.obind tl (Yields.obind tv (Yields.obind c2 (Yields.obind er (Yields.ff rfl (Yields.ff (ne_bool c) ?_))))))))))
    refine Yields.obind tk (Yields.obind ek (Yields.ff rfl (Yields.obind tl (Yields.obind el (Yields.ff rfl (Yields.obind tv (Yields.obind ev (Yields.ff rfl ?_))))))))
    refine Yields.obind d1 (Yields.obind e1 (Yields.obind k1 (Yields.obind k2 (Yields.ff (decide_eq_false (by show ¬ m4 < 0; omega)) (Yields.obind er (Yields.ff rfl ?_))))))
    refine Yields.obind f1 (Yields.obind f6 (Yields.ff (decide_eq_false (by show ¬ m2 < 0; omega)) (Yields.ff (ne_self m2) ?_)))
    refine Yields.obind tk (Yields.obind tl (Yields.obind tv (Yields.obind c2 (Yields.obind er (Yields.ff rfl (Yields.ff (ne_bool c) ?_))))))
    exact Yields.obind f6 (Yields.ff (decide_eq_false (by show ¬ m2 < 0; omega)) (Yields.ff (ne_self m2) (Yields.some _)))
end Go.Proofs.Ytmhjjanaackknaa.Ra
