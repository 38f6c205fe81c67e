/- A verified evaluator for the program, part PlH of this claim. -/
import Derived.Test.YtmhjjanaackknaaPl1
set_option linter.unusedSimpArgs false
set_option linter.unusedVariables false
/- Plain side: all kinds; values; vaults; counts: both sides say the same. -/
namespace Go.Proofs.Ytmhjjanaackknaa.Ra
open Go

theorem in_s (x lo hi : Int) : Yields (fun k => cl env k F_spec_l6In [.int x, .int lo, .int hi]) [.bool (decide (x ≥ lo) && decide (x ≤ hi))] := by
  refine y_spec_l6In _ _ _ (Yields.ite (fun h => ?_) (fun h => ?_))
  · rw [show decide (x ≥ lo) = true from h, Bool.true_and]; exact Yields.some _
  · rw [show decide (x ≥ lo) = false from h, Bool.false_and]; exact Yields.some _

section
variable {ks : List T} {b : Nat}
theorem rec_shape (hk : ∀ x ∈ ks, IsRecs b x) {m k : Nat} (hm : m < ks.length) (hkk : k < ((T.sl ks).nth m).es.length) : ∃ (a : Int) (fs : List T), ((T.sl ks).nth m).nth k = .st [.int a, .sl fs] ∧ fs.length ≤ b ∧ ∀ x ∈ fs, IsStr x := by
  obtain ⟨rs, h1, h2, h3⟩ := hk _ (List.getElem_mem hm)
  rw [nth_lt hm, h1] at hkk ⊢
  have hkr : k < rs.length := hkk
  rw [nth_lt hkr]
  obtain ⟨a, fs, e1, _, _, e2, e3⟩ := h3 _ (List.getElem_mem hkr)
  exact ⟨a, fs, e1, e2, e3⟩

theorem rec_same (hk : ∀ x ∈ ks, IsRecs b x) (hb : b ≤ maxLen) {m k : Nat} (hm : m < ks.length) (hkk : k < ((T.sl ks).nth m).es.length) (he : Early ks m k) :
    ∃ c, Yields (fun r => cl env r F_spec_l1Record [.sl ks, .int (m : Int), .int (k : Int)]) [.bool c] ∧ Yields (fun r => cl env r F_impl_recordOk [.sl ks, .int (m : Int), .int (k : Int)]) [.bool c] ∧
      (c = true → ∃ a : Int, (((T.sl ks).nth m).nth k).fld 0 = .int a ∧ 0 ≤ a ∧ a ≤ 15) := by
  obtain ⟨a, fs, hr, hf1, hf2⟩ := rec_shape hk hm hkk
  have hrec : ((T.sl ks).nth (T.int (m : Int)).i.toNat).nth ((T.int (k : Int)).i.toNat) = .st [.int a, .sl fs] := by
    show ((T.sl ks).nth ((m : Int).toNat)).nth ((k : Int).toNat) = _
    rw [Int.toNat_natCast, Int.toNat_natCast]; exact hr
  have spec : ∀ {c : Bool} {Z : Nat → R}, ((decide (a ≥ 0) && decide (a ≤ 15)) = false → c = false) → ((decide (a ≥ 0) && decide (a ≤ 15)) = true → (fs.length : Int) > 3 → c = false) →
      ((decide (a ≥ 0) && decide (a ≤ 15)) = true → ¬ (fs.length : Int) > 3 → Yields (fun r => l_spec_l1Record_0 (Ra.hl env r fi_spec_l1Record) (.sl ks) (.int (m : Int)) (.int (k : Int)) (.int 0) (.st [.int a, .sl fs])) [.bool c]) →
      Yields (fun r => cl env r F_spec_l1Record [.sl ks, .int (m : Int), .int (k : Int)]) [.bool c] := by
    intro c Z h1 h2 h3
    refine y_spec_l1Record _ _ _ (Yields.tt (in_tt hm) (Yields.tt (rec_at hkk) ?_))
    rw [hrec]
    refine Yields.obind (in_s a 0 15) ?_
    cases hin : (decide (a ≥ 0) && decide (a ≤ 15)) with
    | false => rw [h1 hin]; exact Yields.tt rfl (Yields.some _)
    | true =>
      refine Yields.ff rfl (Yields.ite (fun e => ?_) (fun e => h3 hin (of_decide_eq_false e)))
      rw [h2 hin (of_decide_eq_true e)]; exact Yields.some _
  have impl : ∀ {c : Bool} {Z : Nat → R}, ((decide (a ≥ 0) && decide (a ≤ 15)) = false → c = false) → ((decide (a ≥ 0) && decide (a ≤ 15)) = true → (fs.length : Int) > 3 → c = false) →
      ((decide (a ≥ 0) && decide (a ≤ 15)) = true → ¬ (fs.length : Int) > 3 → Yields (fun r => l_impl_recordOk_0 (Ra.hl env r fi_impl_recordOk) (.sl ks) (.int (m : Int)) (.int (k : Int)) (.sl fs) (.int (fs.length : Int)) (.int 0) (.st [.int a, .sl fs])) [.bool c]) →
      Yields (fun r => cl env r F_impl_recordOk [.sl ks, .int (m : Int), .int (k : Int)]) [.bool c] := by
    intro c Z h1 h2 h3
    refine y_impl_recordOk _ _ _ (Yields.tt (in_tt hm) (Yields.tt (rec_at hkk) ?_))
    rw [hrec]
    refine Yields.ite (fun e => ?_) (fun e => Yields.ite (fun e2 => ?_) (fun e2 => ?_))
    · have e' : a < 0 := of_decide_eq_true e
      rw [h1 (by rw [decide_eq_false (by omega : ¬ a ≥ 0)]; rfl)]; exact Yields.some _
    · have e' : a > 15 := of_decide_eq_true e2
      rw [h1 (by rw [decide_eq_false (by omega : ¬ a ≤ 15), Bool.and_false])]; exact Yields.some _
    · have e1' : ¬ a < 0 := of_decide_eq_false e
      have e2' : ¬ a > 15 := of_decide_eq_false e2
      have hin : (decide (a ≥ 0) && decide (a ≤ 15)) = true := by rw [decide_eq_true (by omega : a ≥ 0), decide_eq_true (by omega : a ≤ 15)]; rfl
      refine Yields.ite (fun e3 => ?_) (fun e3 => h3 hin (of_decide_eq_false e3))
      rw [h2 hin (of_decide_eq_true e3)]; exact Yields.some _
  have hfld : (((T.sl ks).nth m).nth k).fld 0 = .int a := by rw [hr]; rfl
  cases hin : (decide (a ≥ 0) && decide (a ≤ 15)) with
  | false => exact ⟨false, spec (Z := fun _ => none) (fun _ => rfl) (fun h => by rw [hin] at h; cases h) (fun h => by rw [hin] at h; cases h), impl (Z := fun _ => none) (fun _ => rfl) (fun h => by rw [hin] at h; cases h) (fun h => by rw [hin] at h; cases h), fun h => by cases h⟩
  | true =>
    have hr2 : 0 ≤ a ∧ a ≤ 15 := by rw [Bool.and_eq_true, decide_eq_true_eq, decide_eq_true_eq] at hin; exact ⟨hin.1, hin.2⟩
    by_cases h3 : (fs.length : Int) > 3
    · exact ⟨false, spec (Z := fun _ => none) (fun _ => rfl) (fun _ _ => rfl) (fun _ h => absurd h3 h), impl (Z := fun _ => none) (fun _ => rfl) (fun _ _ => rfl) (fun _ h => absurd h3 h), fun h => by cases h⟩
    · obtain ⟨c, y1, y2⟩ := fields_same he hr2 (Nat.le_trans hf1 hb) hf2
      exact ⟨c, spec (Z := fun _ => none) (fun h => by rw [hin] at h; cases h) (fun _ h => absurd h h3) (fun _ _ => y1), impl (Z := fun _ => none) (fun h => by rw [hin] at h; cases h) (fun _ h => absurd h h3) (fun _ _ => y2), fun _ => ⟨a, hfld, hr2⟩⟩

def KRes (ks : List T) (r : List T) : Prop := ∃ p q : Int, r = [.int p, .int q] ∧ ((p = -1 ∧ Early ks ks.length 0) ∨ 0 ≤ p)
theorem kinds_loop (hk : ∀ x ∈ ks, IsRecs b x) (hb : b ≤ maxLen) (hl : ks.length ≤ b) : ∀ (n m : Nat), m + n = ks.length → Early ks m 0 →
    ∃ r, KRes ks r ∧ Yields (fun k => l_spec_KindsBad_0 (Ra.hl env k fi_spec_KindsBad) (.sl ks) (.int (m : Int))) r ∧
      Yields (fun k => l_impl_KindsBad_0 (Ra.hl env k fi_impl_KindsBad) (.sl ks) (.sl ks) (.int (ks.length : Int)) (.int (m : Int))) r := by
  intro n
  induction n with
  | zero =>
    intro m hm he
    have hmk : m = ks.length := by omega
    subst hmk
    refine ⟨[.int (-1), .int (-1)], ⟨-1, -1, rfl, .inl ⟨rfl, he⟩⟩, y_spec_KindsBad_0 _ _ (Yields.ff (lt_ff (by omega)) (Yields.some _)), y_impl_KindsBad_0 _ _ _ _ (Yields.ff ?_ (Yields.some _))⟩
    rw [lt_nat]; exact decide_eq_false (by omega)
  | succ n ih =>
    intro m hm he
    have hlt : m < ks.length := by omega
    obtain ⟨rs, hrs, hrl, hrr⟩ := hk _ (List.getElem_mem hlt)
    have hnth : ((T.sl ks).nth (T.int (m : Int)).i.toNat) = .sl rs := by rw [idx_ok hlt, hrs]
    have hnth' : ((T.sl ks).nth m) = .sl rs := by rw [nth_lt hlt, hrs]
    have c1 : decide ((T.int (m : Int)).i < (T.int (ks.length : Int)).i) = true := by rw [lt_nat]; exact decide_eq_true hlt
    have hnx := next_ok hlt (Nat.le_trans hl hb)
    -- the inner loop
    have inner : ∀ (n' k : Nat), k + n' = rs.length → Early ks m k →
        ∃ r, KRes ks r ∧ Yields (fun r => l_spec_KindsBad_1 (Ra.hl env r fi_spec_KindsBad) (.sl ks) (.int (m : Int)) (.int (k : Int))) r ∧
          Yields (fun r => l_impl_KindsBad_1 (Ra.hl env r fi_impl_KindsBad) (.sl ks) (.int (m : Int)) (.sl ks) (.int (ks.length : Int)) (.int (m : Int)) (.int (rs.length : Int)) (.int (k : Int))) r := by
      intro n'
      induction n' with
      | zero =>
        intro k hkr hek
        have hkk : k = rs.length := by omega
        subst hkk
        have he' : Early ks (m + 1) 0 := by
          intro i j hij hi hj
          rcases hij with h | ⟨_, h⟩
          · by_cases him : i < m
            · exact he i j (.inl him) hi hj
            · have : i = m := by omega
              subst this
              rw [hnth'] at hj
              exact hek i j (.inr ⟨rfl, hj⟩) hi (by rw [hnth']; exact hj)
          · omega
        obtain ⟨r, r1, y1, y2⟩ := ih (m + 1) (by omega) he'
        refine ⟨r, r1, y_spec_KindsBad_1 _ _ _ (Yields.tt (in_tt hlt) (Yields.ff ?_ ?_)), y_impl_KindsBad_1 _ _ _ _ _ _ _ (Yields.ff ?_ ?_)⟩
        · rw [hnth]; exact lt_ff (by omega)
        · rw [hnx]; exact y1
        · rw [lt_nat]; exact decide_eq_false (by omega)
        · rw [hnx]; exact y2
      | succ n' ihk =>
        intro k hkr hek
        have hkl : k < rs.length := by omega
        have hkk : k < ((T.sl ks).nth m).es.length := by rw [hnth']; exact hkl
        obtain ⟨c, z1, z2, z3⟩ := rec_same hk hb hlt hkk hek
        have c2 : decide ((T.int (k : Int)).i < (T.int (rs.length : Int)).i) = true := by rw [lt_nat]; exact decide_eq_true hkl
        have c3 : decide ((T.int (k : Int)).i < ((((T.sl ks).nth (T.int (m : Int)).i.toNat).es).length : Int)) = true := by rw [hnth]; exact lt_tt hkl
        cases c with
        | false =>
          exact ⟨[.int (m : Int), .int (k : Int)], ⟨m, k, rfl, .inr (by omega)⟩, y_spec_KindsBad_1 _ _ _ (Yields.tt (in_tt hlt) (Yields.tt c3 (Yields.obind z1 (Yields.tt rfl (Yields.some _))))),
            y_impl_KindsBad_1 _ _ _ _ _ _ _ (Yields.tt c2 (Yields.obind z2 (Yields.tt rfl (Yields.some _))))⟩
        | true =>
          have hek' : Early ks m (k + 1) := by
            intro i j hij hi hj
            rcases hij with h | ⟨h1, h2⟩
            · exact hek i j (.inl h) hi hj
            · by_cases hjk : j < k
              · exact hek i j (.inr ⟨h1, hjk⟩) hi hj
              · have : j = k := by omega
                subst this; subst h1
                exact z3 rfl
          obtain ⟨r, r1, y1, y2⟩ := ihk (k + 1) (by omega) hek'
          have hnk := next_ok hkl (Nat.le_trans hrl hb)
          refine ⟨r, r1, y_spec_KindsBad_1 _ _ _ (Yields.tt (in_tt hlt) (Yields.tt c3 (Yields.obind z1 (Yields.ff rfl ?_)))), y_impl_KindsBad_1 _ _ _ _ _ _ _ (Yields.tt c2 (Yields.obind z2 (Yields.ff rfl ?_)))⟩
          · rw [hnk]; exact y1
          · rw [hnk]; exact y2
    by_cases h3 : (rs.length : Int) > 3
    · refine ⟨[.int (m : Int), .int 3], ⟨m, 3, rfl, .inr (by omega)⟩, y_spec_KindsBad_0 _ _ (Yields.tt (lt_tt hlt) (Yields.tt (in_tt hlt) (Yields.tt ?_ (Yields.some _)))),
        y_impl_KindsBad_0 _ _ _ _ (Yields.tt c1 (Yields.tt (in_tt hlt) (Yields.tt ?_ (Yields.some _))))⟩
      · rw [hnth]; exact decide_eq_true h3
      · rw [hnth]; exact decide_eq_true h3
    · obtain ⟨r, r1, y1, y2⟩ := inner rs.length 0 (by omega) he
      refine ⟨r, r1, y_spec_KindsBad_0 _ _ (Yields.tt (lt_tt hlt) (Yields.tt (in_tt hlt) (Yields.ff ?_ ?_))), y_impl_KindsBad_0 _ _ _ _ (Yields.tt c1 (Yields.tt (in_tt hlt) (Yields.ff ?_ ?_)))⟩
      · rw [hnth]; exact decide_eq_false h3
      · exact y1
      · rw [hnth]; exact decide_eq_false h3
      · rw [hnth]; exact y2

theorem kindsBad_same (hk : ∀ x ∈ ks, IsRecs b x) (hb : b ≤ maxLen) (hl : ks.length ≤ b) : ∃ r, KRes ks r ∧ Yields (fun k => cl env k F_spec_KindsBad [.sl ks]) r ∧ Yields (fun k => cl env k F_impl_KindsBad [.sl ks]) r := by
  by_cases h3 : (ks.length : Int) > 3
  · exact ⟨[.int 3, .int 0], ⟨3, 0, rfl, .inr (by omega)⟩, y_spec_KindsBad _ (Yields.tt (decide_eq_true h3) (Yields.some _)), y_impl_KindsBad _ (Yields.tt (decide_eq_true h3) (Yields.some _))⟩
  · obtain ⟨r, r1, y1, y2⟩ := kinds_loop hk hb hl ks.length 0 (by omega) (fun i j h => by omega)
    exact ⟨r, r1, y_spec_KindsBad _ (Yields.ff (decide_eq_false h3) y1), y_impl_KindsBad _ (Yields.ff (decide_eq_false h3) y2)⟩
theorem kindsOk_same (hk : ∀ x ∈ ks, IsRecs b x) (hb : b ≤ maxLen) (hl : ks.length ≤ b) : ∃ c, Yields (fun k => cl env k F_spec_KindsOk [.sl ks]) [.bool c] ∧ Yields (fun k => cl env k F_impl_KindsOk [.sl ks]) [.bool c] ∧ (c = true → Early ks ks.length 0) := by
  obtain ⟨r, ⟨p, q, rfl, hr⟩, y1, y2⟩ := kindsBad_same hk hb hl
  rcases hr with ⟨rfl, he⟩ | hp
  · exact ⟨true, y_spec_KindsOk _ (Yields.obind y1 (Yields.some _)), y_impl_KindsOk _ (Yields.obind y2 (Yields.some _)), fun _ => he⟩
  · refine ⟨false, y_spec_KindsOk _ (Yields.obind y1 ?_), y_impl_KindsOk _ (Yields.obind y2 ?_), fun h => by cases h⟩
    · show Yields (fun _ => some [T.bool (decide (p < 0))]) _
      rw [decide_eq_false (by omega)]; exact Yields.some _
    · show Yields (fun _ => some [T.bool (p == -1)]) _
      rw [show (p == -1) = false from beq_eq_false_iff_ne.2 (by omega)]; exact Yields.some _
end
end Go.Proofs.Ytmhjjanaackknaa.Ra
/- Plain side: values, vaults, counts; the law. -/
namespace Go.Proofs.Ytmhjjanaackknaa.Ra
open Go

theorem val_shape {b : Nat} {v : T} (h : IsVal b v) : ∃ (s : ByteArray) (n : Int) (ps is : List T), v = .st [.str s, .int n, .sl ps, .sl is] ∧ ps.length ≤ b ∧ is.length ≤ b ∧ (∀ x ∈ ps, IsVal b x) ∧ (∀ x ∈ is, ∃ m : Int, x = .int m) ∧ s.size ≤ maxLen ∧ -9223372036854775808 ≤ n ∧ n ≤ 9223372036854775807 := by
  cases h with
  | mk h1 h2 h3 h4 h5 h6 h7 => exact ⟨_, _, _, _, rfl, h4, h5, h7, h6, h1, h2, h3⟩
theorem len0 (l : List T) : (((l.length : Int) == (0 : Int)) : Bool) = l.isEmpty := by
  cases l with
  | nil => rfl
  | cons a l => rw [show (((a :: l).length : Int) == 0) = false from beq_eq_false_iff_ne.2 (by simp; omega)]; rfl
theorem lenpos (l : List T) : decide ((l.length : Int) > (0 : Int)) = !l.isEmpty := by
  cases l with
  | nil => rfl
  | cons a l => rw [decide_eq_true (by simp)]; rfl

section
variable {ks : List T} {b : Nat}
theorem l2plain (s : T) (n : T) (ps is : List T) : Yields (fun k => cl env k F_spec_l2Plain [.st [s, n, .sl ps, .sl is]]) [.bool (ps.isEmpty && is.isEmpty)] := by
  have e2 : ((((T.st [s, n, .sl ps, .sl is]).fld 2).es).length : Int) = (ps.length : Int) := rfl
  have e3 : ((((T.st [s, n, .sl ps, .sl is]).fld 3).es).length : Int) = (is.length : Int) := rfl
  refine y_spec_l2Plain _ ?_
  rw [e2, e3, len0, len0]
  cases ps.isEmpty with
  | true => exact Yields.tt rfl (Yields.some _)
  | false => exact Yields.ff rfl (Yields.some _)

theorem fits_same (hk : ∀ x ∈ ks, IsRecs b x) (hb : b ≤ maxLen) : ∀ v, IsVal b v → ∃ c, Yields (fun k => cl env k F_spec_l2Ok [.sl ks, v]) [.bool c] ∧ Yields (fun k => cl env k F_impl_valueFits [.sl ks, v]) [.bool c] ∧
    (c = true → (baseB (v.fld 0).s || kinB ks (v.fld 0).s) = true) := by
  intro v h
  induction h with
  | @mk s n ps is h1 h2 h3 h4 h5 h6 h7 ih =>
    have e0 : ((T.st [.str s, .int n, .sl ps, .sl is]).fld 0).s = s := rfl
    have e2 : ((((T.st [.str s, .int n, .sl ps, .sl is]).fld 2).es).length : Int) = (ps.length : Int) := rfl
    have e3 : decide (((((T.st [.str s, .int n, .sl ps, .sl is]).fld 3).es).length : Int) > (0 : Int)) = !is.isEmpty := lenpos is
    rw [e0]
    -- the base kinds
    have basic : ∀ (hi : Int) (c : Bool), c = (ps.isEmpty && is.isEmpty && (decide (n ≥ 0) && decide (n ≤ hi))) →
        Yields (fun k => obind (cl env k F_spec_l2Plain [T.st [.str s, .int n, .sl ps, .sl is]]) fun r1 =>
          bif (rt r1 0).b then
            obind (cl env k F_spec_l6In [.int n, (T.int (0 : Int)), (T.int hi)]) fun r2 =>
            some [(rt r2 0)]
          else
            some [(T.bool false)]) [.bool c] := by
      intro hi c hc
      subst hc
      refine Yields.obind (l2plain _ _ ps is) ?_
      cases hpi : (ps.isEmpty && is.isEmpty) with
      | true => exact Yields.tt rfl (Yields.obind (in_s n 0 hi) (Yields.some _))
      | false => exact Yields.ff rfl (Yields.some _)
    by_cases b1 : (s.toList == (⟨#[110]⟩ : ByteArray).toList) = true
    · have hbase : baseB s = true := by unfold baseB; rw [b1]; rfl
      refine ⟨ps.isEmpty && is.isEmpty && (decide (n ≥ 0) && decide (n ≤ 1000000)), y_spec_l2Ok _ _ (Yields.tt b1 (basic 1000000 _ rfl)), ?_, fun _ => by rw [hbase]; rfl⟩
      refine y_impl_valueFits _ _ ?_
      rw [e3]
      cases his : is.isEmpty with
      | false => rw [Bool.and_false, Bool.false_and]; exact Yields.tt rfl (Yields.some _)
      | true =>
        have hpl := plain_i ks s
        rw [hbase, Bool.true_or] at hpl
        refine Yields.ff rfl (Yields.obind hpl (Yields.ff rfl (Yields.tt b1 ?_)))
        rw [Bool.and_true]
        refine Yields.ite (fun q1 => Yields.ite (fun q2 => ?_) (fun q2 => ?_)) (fun q1 => ?_)
        · rw [show decide (n ≥ 0) = true from q1, show decide (n ≤ 1000000) = true from q2, Bool.and_self, Bool.and_true, ← len0]; exact Yields.some _
        · rw [show decide (n ≤ 1000000) = false from q2, Bool.and_false, Bool.and_false]; exact Yields.some _
        · rw [show decide (n ≥ 0) = false from q1, Bool.false_and, Bool.and_false]; exact Yields.some _
    · have b1 := eq_false_of_ne_true b1
      by_cases b2 : (s.toList == (⟨#[98]⟩ : ByteArray).toList) = true
      · have hbase : baseB s = true := by unfold baseB; rw [b2]; simp
        refine ⟨ps.isEmpty && is.isEmpty && (decide (n ≥ 0) && decide (n ≤ 1)), y_spec_l2Ok _ _ (Yields.ff b1 (Yields.tt b2 (basic 1 _ rfl))), ?_, fun _ => by rw [hbase]; rfl⟩
        refine y_impl_valueFits _ _ ?_
        rw [e3]
        cases his : is.isEmpty with
        | false => rw [Bool.and_false, Bool.false_and]; exact Yields.tt rfl (Yields.some _)
        | true =>
          have hpl := plain_i ks s
          rw [hbase, Bool.true_or] at hpl
          refine Yields.ff rfl (Yields.obind hpl (Yields.ff rfl (Yields.ff b1 (Yields.tt b2 ?_))))
          rw [Bool.and_true]
          refine Yields.ite (fun q1 => ?_) (fun q1 => Yields.ite (fun q2 => ?_) (fun q2 => ?_))
          · have q : n = 0 := by have : (n == 0) = true := q1
                                 simpa using this
            subst q
            rw [show (decide ((0 : Int) ≥ 0) && decide ((0 : Int) ≤ 1)) = true from rfl, Bool.and_true, ← len0]; exact Yields.some _
          · have q : n = 1 := by have : (n == 1) = true := q2
                                 simpa using this
            subst q
            rw [show (decide ((1 : Int) ≥ 0) && decide ((1 : Int) ≤ 1)) = true from rfl, Bool.and_true, ← len0]; exact Yields.some _
          · have p0 : ¬ n = 0 := by have : (n == 0) = false := q1
                                    simpa using this
            have p1 : ¬ n = 1 := by have : (n == 1) = false := q2
                                    simpa using this
            have : (decide (n ≥ 0) && decide (n ≤ 1)) = false := by
              by_cases hn : n ≥ 0
              · rw [decide_eq_false (by omega : ¬ n ≤ 1), Bool.and_false]
              · rw [decide_eq_false hn, Bool.false_and]
            rw [this, Bool.and_false]; exact Yields.some _
      · have b2 := eq_false_of_ne_true b2
        by_cases b3 : (s.toList == (⟨#[111]⟩ : ByteArray).toList) = true
        · have hbase : baseB s = true := by unfold baseB; rw [b3]; simp
          refine ⟨ps.isEmpty && is.isEmpty && (decide (n ≥ 0) && decide (n ≤ 3)), y_spec_l2Ok _ _ (Yields.ff b1 (Yields.ff b2 (Yields.tt b3 (basic 3 _ rfl)))), ?_, fun _ => by rw [hbase]; rfl⟩
          refine y_impl_valueFits _ _ ?_
          rw [e3]
          cases his : is.isEmpty with
          | false => rw [Bool.and_false, Bool.false_and]; exact Yields.tt rfl (Yields.some _)
          | true =>
            have hpl := plain_i ks s
            rw [hbase, Bool.true_or] at hpl
            refine Yields.ff rfl (Yields.obind hpl (Yields.ff rfl (Yields.ff b1 (Yields.ff b2 (Yields.tt b3 ?_)))))
            rw [Bool.and_true]
            refine Yields.ite (fun q1 => Yields.ite (fun q2 => ?_) (fun q2 => ?_)) (fun q1 => ?_)
            · have q2' : n < 4 := of_decide_eq_true q2
              rw [show decide (n ≥ 0) = true from q1, decide_eq_true (by omega : n ≤ 3), Bool.and_self, Bool.and_true, ← len0]; exact Yields.some _
            · have q2' : ¬ n < 4 := of_decide_eq_false q2
              rw [decide_eq_false (by omega : ¬ n ≤ 3), Bool.and_false, Bool.and_false]; exact Yields.some _
            · rw [show decide (n ≥ 0) = false from q1, Bool.false_and, Bool.and_false]; exact Yields.some _
        · have b3 := eq_false_of_ne_true b3
          have hbase : baseB s = false := by unfold baseB; rw [b1, b2, b3]; rfl
          have hpl := plain_i ks s
          rw [hbase, Bool.false_or] at hpl ⊢
          -- no plain kind: no
          have nope : kinB ks s = false → ∃ c, Yields (fun k => cl env k F_spec_l2Ok [.sl ks, T.st [.str s, .int n, .sl ps, .sl is]]) [.bool c] ∧ Yields (fun k => cl env k F_impl_valueFits [.sl ks, T.st [.str s, .int n, .sl ps, .sl is]]) [.bool c] ∧ (c = true → kinB ks s = true) := by
            intro hkn
            refine ⟨false, y_spec_l2Ok _ _ (Yields.ff b1 (Yields.ff b2 (Yields.ff b3 (Yields.obind (kind_s s) ?_)))), ?_, fun h => by cases h⟩
            · unfold kinB at hkn
              cases hkc : kindC s with
              | none => exact Yields.tt rfl (Yields.some _)
              | some x =>
                obtain ⟨i, j⟩ := x
                rw [hkc] at hkn
                have hs := has_s ks i j
                rw [show hasB ks i j = false from hkn] at hs
                exact Yields.ff rfl (Yields.obind hs (Yields.tt rfl (Yields.some _)))
            · refine y_impl_valueFits _ _ ?_
              rw [e3]
              rw [hkn] at hpl
              cases is.isEmpty with
              | false => exact Yields.tt rfl (Yields.some _)
              | true => exact Yields.ff rfl (Yields.obind hpl (Yields.tt rfl (Yields.some _)))
          cases hkn : kinB ks s with
          | false =>
            have := nope hkn
            rw [hkn] at this
            exact this
          | true =>
            rw [hkn] at hpl
            have hkn' := hkn
            unfold kinB at hkn'
            cases hkc : kindC s with
            | none => rw [hkc] at hkn'; cases hkn'
            | some x =>
              obtain ⟨i, j⟩ := x
              rw [hkc] at hkn'
              have hh : hasB ks i j = true := hkn'
              obtain ⟨g1, g2⟩ := has_two hh
              obtain ⟨a, fs, hr, hf1, hf2⟩ := rec_shape hk g1 g2
              have hrec : ((T.sl ks).nth (T.int (i : Int)).i.toNat).nth ((T.int (j : Int)).i.toNat) = .st [.int a, .sl fs] := by
                show ((T.sl ks).nth ((i : Int).toNat)).nth ((j : Int).toNat) = _
                rw [Int.toNat_natCast, Int.toNat_natCast]; exact hr
              have hs := has_s ks i j
              rw [hh] at hs
              -- the parts
              have loop : ∃ c, (ps.length = fs.length → Yields (fun k => l_spec_l2Ok_0 (Ra.hl env k fi_spec_l2Ok) (.sl ks) (.int (i : Int)) (.int (j : Int)) (.int 0) (.st [.str s, .int n, .sl ps, .sl is])) [.bool c] ∧
                  Yields (fun k => l_impl_valueFits_0 (Ra.hl env k fi_impl_valueFits) (.sl ks) (.sl fs) (.sl ps) (.int (ps.length : Int)) (.int 0)) [.bool c]) := by
                by_cases hlen : ps.length = fs.length
                · have key : ∀ (m q : Nat), q + m = ps.length → ∃ c, Yields (fun k => l_spec_l2Ok_0 (Ra.hl env k fi_spec_l2Ok) (.sl ks) (.int (i : Int)) (.int (j : Int)) (.int (q : Int)) (.st [.str s, .int n, .sl ps, .sl is])) [.bool c] ∧
                      Yields (fun k => l_impl_valueFits_0 (Ra.hl env k fi_impl_valueFits) (.sl ks) (.sl fs) (.sl ps) (.int (ps.length : Int)) (.int (q : Int))) [.bool c] := by
                    intro m
                    induction m with
                    | zero =>
                      intro q hq
                      refine ⟨true, y_spec_l2Ok_0 _ _ _ _ _ (Yields.ff (lt_ff (es := ps) (by omega)) (Yields.some _)), y_impl_valueFits_0 _ _ _ _ _ (Yields.ff ?_ (Yields.some _))⟩
                      rw [lt_nat]; exact decide_eq_false (by omega)
                    | succ m ihm =>
                      intro q hq
                      have hlt : q < ps.length := by omega
                      have hlf : q < fs.length := by omega
                      obtain ⟨c, y1, y2⟩ := ihm (q + 1) (by omega)
                      obtain ⟨c', z1, z2, _⟩ := ih _ (List.getElem_mem hlt)
                      have hn1 : ((T.sl ps).nth (T.int (q : Int)).i.toNat) = ps[q] := idx_ok hlt
                      have hnx := next_ok hlt (Nat.le_trans h4 hb)
                      have c2 : decide ((T.int (q : Int)).i < (T.int (ps.length : Int)).i) = true := by rw [lt_nat]; exact decide_eq_true hlt
                      have d1 : (decide (0 ≤ (T.int (q : Int)).i) && decide ((T.int (q : Int)).i.toNat < ((((((T.sl ks).nth (T.int (i : Int)).i.toNat).nth ((T.int (j : Int)).i.toNat)).fld 1).es).length))) = true := by rw [hrec]; exact in_tt hlf
                      -- the same test on both sides
                      generalize htest : (!((((T.sl ps).nth (T.int (q : Int)).i.toNat).fld 0).s.toList == ((T.sl fs).nth (T.int (q : Int)).i.toNat).s.toList)) = tst
                      have spec : ∀ r, (tst = true → r = [T.bool false]) → (tst = false → c' = false → r = [T.bool false]) → (tst = false → c' = true → r = [T.bool c]) →
                          Yields (fun k => l_spec_l2Ok_0 (Ra.hl env k fi_spec_l2Ok) (.sl ks) (.int (i : Int)) (.int (j : Int)) (.int (q : Int)) (.st [.str s, .int n, .sl ps, .sl is])) r := by
                        intro r r1 r2 r3
                        refine y_spec_l2Ok_0 _ _ _ _ _ (Yields.tt (lt_tt (es := ps) hlt) (Yields.tt (in_tt (es := ps) hlt) (Yields.tt (in_tt g1) (Yields.tt (rec_at g2) (Yields.tt d1 ?_)))))
                        rw [hrec]
                        refine Yields.ite (fun t => ?_) (fun t => ?_)
                        · rw [r1 (htest.symm.trans t)]; exact Yields.some _
                        · have t' : tst = false := htest.symm.trans t
                          have z1' : Yields (fun k => cl env k F_spec_l2Ok [.sl ks, (((T.st [.str s, .int n, .sl ps, .sl is]).fld 2).nth (T.int (q : Int)).i.toNat)]) [.bool c'] := by
                            rw [show (((T.st [.str s, .int n, .sl ps, .sl is]).fld 2).nth (T.int (q : Int)).i.toNat) = ps[q] from hn1]; exact z1
                          refine Yields.obind z1' ?_
                          cases hc' : c' with
                          | false => rw [r2 t' hc']; exact Yields.tt rfl (Yields.some _)
                          | true => rw [r3 t' hc', hnx]; exact Yields.ff rfl y1
                      have impl : ∀ r, (tst = true → r = [T.bool false]) → (tst = false → c' = false → r = [T.bool false]) → (tst = false → c' = true → r = [T.bool c]) →
                          Yields (fun k => l_impl_valueFits_0 (Ra.hl env k fi_impl_valueFits) (.sl ks) (.sl fs) (.sl ps) (.int (ps.length : Int)) (.int (q : Int))) r := by
                        intro r r1 r2 r3
                        refine y_impl_valueFits_0 _ _ _ _ _ (Yields.tt c2 (Yields.tt (in_tt hlt) (Yields.tt (in_tt hlf) ?_)))
                        refine Yields.ite (fun t => ?_) (fun t => ?_)
                        · rw [r1 (htest.symm.trans t)]; exact Yields.some _
                        · have t' : tst = false := htest.symm.trans t
                          have z2' : Yields (fun k => cl env k F_impl_valueFits [.sl ks, ((T.sl ps).nth (T.int (q : Int)).i.toNat)]) [.bool c'] := by rw [hn1]; exact z2
                          refine Yields.obind z2' ?_
                          cases hc' : c' with
                          | false => rw [r2 t' hc']; exact Yields.tt rfl (Yields.some _)
                          | true => rw [r3 t' hc', hnx]; exact Yields.ff rfl y2
                      cases tst with
                      | true => exact ⟨false, spec _ (fun _ => rfl) (fun h => by cases h) (fun h => by cases h), impl _ (fun _ => rfl) (fun h => by cases h) (fun h => by cases h)⟩
                      | false =>
                        cases c' with
                        | false => exact ⟨false, spec _ (fun h => by cases h) (fun _ _ => rfl) (fun _ h => by cases h), impl _ (fun h => by cases h) (fun _ _ => rfl) (fun _ h => by cases h)⟩
                        | true => exact ⟨c, spec _ (fun h => by cases h) (fun _ h => by cases h) (fun _ _ => rfl), impl _ (fun h => by cases h) (fun _ h => by cases h) (fun _ _ => rfl)⟩
                  obtain ⟨c, y1, y2⟩ := key ps.length 0 (by omega)
                  exact ⟨c, fun _ => ⟨y1, y2⟩⟩
                · exact ⟨false, fun h => absurd h hlen⟩
              obtain ⟨c, hloop⟩ := loop
              let res : Bool := is.isEmpty && ((n == 0) && (decide (ps.length = fs.length) && c))
              refine ⟨res, ?_, ?_, fun _ => rfl⟩
              · refine y_spec_l2Ok _ _ (Yields.ff b1 (Yields.ff b2 (Yields.ff b3 (Yields.obind (kind_s s) ?_))))
                rw [hkc]
                refine Yields.ff rfl (Yields.obind hs (Yields.ff rfl ?_))
                show Yields _ [T.bool (is.isEmpty && ((n == 0) && (decide (ps.length = fs.length) && c)))]
                refine Yields.ite (fun q1 => ?_) (fun q1 => ?_)
                · have : (n == 0) = false := by have : (n != 0) = true := q1
                                                simpa using this
                  rw [this, Bool.false_and, Bool.and_false]; exact Yields.some _
                · have : (n == 0) = true := by have : (n != 0) = false := q1
                                               simpa using this
                  rw [this, Bool.true_and, e3]
                  cases his : is.isEmpty with
                  | false => exact Yields.tt rfl (Yields.some _)
                  | true =>
                    refine Yields.ff rfl (Yields.tt (in_tt g1) (Yields.tt (rec_at g2) ?_))
                    have hrec' : ((T.sl ks).nth (((rt (kindR (some (i, j))) 0).i).toNat)).nth (((rt (kindR (some (i, j))) 1).i).toNat) = .st [.int a, .sl fs] := hrec
                    rw [hrec']
                    by_cases hlen : ps.length = fs.length
                    · rw [decide_eq_true hlen]
                      refine Yields.ff ?_ (hloop hlen).1
                      show (((ps.length : Int)) != (fs.length : Int)) = false
                      rw [hlen]; simp
                    · rw [decide_eq_false hlen]
                      refine Yields.tt ?_ (Yields.some _)
                      show (((ps.length : Int)) != (fs.length : Int)) = true
                      rw [bne_iff_ne]; omega
              · refine y_impl_valueFits _ _ ?_
                rw [e3]
                show Yields _ [T.bool (is.isEmpty && ((n == 0) && (decide (ps.length = fs.length) && c)))]
                cases his : is.isEmpty with
                | false => exact Yields.tt rfl (Yields.some _)
                | true =>
                  have hro := recOf_i ks hkc hh
                  rw [hr] at hro
                  refine Yields.ff rfl (Yields.obind hpl (Yields.ff rfl (Yields.ff b1 (Yields.ff b2 (Yields.ff b3 (Yields.obind hro ?_))))))
                  refine Yields.ite (fun q1 => ?_) (fun q1 => ?_)
                  · have : (n == 0) = false := by have : (n != 0) = true := q1
                                                  simpa using this
                    rw [this]; exact Yields.some _
                  · have : (n == 0) = true := by have : (n != 0) = false := q1
                                                 simpa using this
                    rw [this]
                    by_cases hlen : ps.length = fs.length
                    · rw [decide_eq_true hlen]
                      refine Yields.ff ?_ (hloop hlen).2
                      show (((ps.length : Int)) != (fs.length : Int)) = false
                      rw [hlen]; simp
                    · rw [decide_eq_false hlen]
                      refine Yields.tt ?_ (Yields.some _)
                      show (((ps.length : Int)) != (fs.length : Int)) = true
                      rw [bne_iff_ne]; omega
end
end Go.Proofs.Ytmhjjanaackknaa.Ra
/- Plain side: vaults and counts; the law. -/
namespace Go.Proofs.Ytmhjjanaackknaa.Ra
open Go

theorem keep_fin : ∀ (a : Fin 16), (andI (a.val : Int) 8 != 0) = (((a.val : Int).tdiv 8).tmod 2 == 1) := by decide +kernel
theorem keep_eq {a : Int} (h0 : 0 ≤ a) (h1 : a ≤ 15) : (andI a 8 != 0) = ((a.tdiv 8).tmod 2 == 1) := by
  have := keep_fin ⟨a.toNat, by omega⟩
  simp only at this
  rwa [Int.toNat_of_nonneg h0] at this

section
variable {ks : List T} {b : Nat}
theorem keep_same (hk : ∀ x ∈ ks, IsRecs b x) (hb : b ≤ maxLen) (he : Early ks ks.length 0) (v : T) (hv : IsVal b v) : ∃ c, Yields (fun k => cl env k F_spec_l9Kind [.sl ks, v]) [.bool c] ∧ Yields (fun k => cl env k F_impl_keepable [.sl ks, v]) [.bool c] := by
  obtain ⟨c, y1, y2, y3⟩ := fits_same hk hb v hv
  obtain ⟨s, n, ps, is, rfl, _⟩ := val_shape hv
  have y3 : c = true → (baseB s || kinB ks s) = true := y3
  cases hkc : kindC s with
  | none =>
    have hkn : kinB ks s = false := by unfold kinB; rw [hkc]
    refine ⟨false, y_spec_l9Kind _ _ (Yields.obind (kind_s s) ?_), y_impl_keepable _ _ (Yields.obind (kin_i ks s) ?_)⟩
    · rw [hkc]; exact Yields.ff rfl (Yields.some _)
    · rw [hkn]; exact Yields.ff rfl (Yields.some _)
  | some x =>
    obtain ⟨i, j⟩ := x
    have hnb : baseB s = false := by
      cases hb : baseB s with
      | false => rfl
      | true => rw [base_kind hb] at hkc; cases hkc
    have hkn : kinB ks s = hasB ks i j := by unfold kinB; rw [hkc]
    cases hh : hasB ks i j with
    | false =>
      have hc : c = false := by
        cases c with
        | false => rfl
        | true => have := y3 rfl; rw [hnb, hkn, hh] at this; cases this
      subst hc
      refine ⟨false, y_spec_l9Kind _ _ (Yields.obind (kind_s s) ?_), y_impl_keepable _ _ (Yields.obind (kin_i ks s) ?_)⟩
      · rw [hkc]; exact Yields.tt rfl (Yields.obind y1 (Yields.ff rfl (Yields.some _)))
      · rw [hkn, hh]; exact Yields.ff rfl (Yields.some _)
    | true =>
      obtain ⟨g1, g2⟩ := has_two hh
      obtain ⟨a, ha1, ha2⟩ := he i j (.inl g1) g1 g2
      have hro := recOf_i ks hkc hh
      have hab := able_s ks s (by rw [hkn, hh, Bool.or_true])
      have habt : ableT ks s = .int a := by unfold ableT; rw [hkc]; exact ha1
      rw [habt] at hab
      have hkp := keep_eq ha2.1 ha2.2
      refine ⟨c && (andI a 8 != 0), y_spec_l9Kind _ _ (Yields.obind (kind_s s) ?_), y_impl_keepable _ _ (Yields.obind (kin_i ks s) ?_)⟩
      · rw [hkc, hkp]
        refine Yields.tt rfl (Yields.obind y1 ?_)
        cases c with
        | false => exact Yields.ff rfl (Yields.some _)
        | true => exact Yields.tt rfl (Yields.obind hab (Yields.obind (can_s a 8 ha2 (.inr (.inr (.inr rfl)))) (Yields.some _)))
      · rw [hkn, hh]
        refine Yields.tt rfl (Yields.obind hro ?_)
        show Yields (fun k => bif (andI ((((T.sl ks).nth i).nth j).fld 0).i 8 != 0) then obind (cl env k F_impl_valueFits [.sl ks, .st [.str s, .int n, .sl ps, .sl is]]) (fun r3 => some [rt r3 0]) else some [T.bool false]) _
        rw [ha1]
        show Yields (fun k => bif (andI a 8 != 0) then obind (cl env k F_impl_valueFits [.sl ks, .st [.str s, .int n, .sl ps, .sl is]]) (fun r3 => some [rt r3 0]) else some [T.bool false]) _
        cases (andI a 8 != 0) with
        | true => rw [Bool.and_true]; exact Yields.tt rfl (Yields.obind y2 (Yields.some _))
        | false => rw [Bool.and_false]; exact Yields.ff rfl (Yields.some _)

theorem pred_ok {i : Nat} (h : 0 < i) (hi : i ≤ maxLen) : IntKind.wrap .i64 ((T.int (i : Int)).i - (1 : Int)) = ((i - 1 : Nat) : Int) := by
  rw [maxLen_eq] at hi
  show IntKind.wrap .i64 ((i : Int) - 1) = _
  rw [wrap64 (by omega) (by omega)]; omega
theorem before_i (o o' : Int) (v v' : T) : Yields (fun k => cl env k F_impl_vaultBefore [.st [.int o, v], .st [.int o', v']]) [.bool (decide (o < o') || ((o == o') && Op.bytesLess (v.fld 0).s.toList (v'.fld 0).s.toList))] := by
  refine y_impl_vaultBefore _ _ (Yields.ite (fun h => ?_) (fun h => Yields.ite (fun h2 => ?_) (fun h2 => ?_)))
  · rw [show decide (o < o') = true from h, Bool.true_or]; exact Yields.some _
  · rw [show decide (o < o') = false from h, show (o == o') = true from h2, Bool.false_or, Bool.true_and]; exact Yields.some _
  · rw [show decide (o < o') = false from h, show (o == o') = false from h2]; exact Yields.some _

theorem list_same (hk : ∀ x ∈ ks, IsRecs b x) (hb : b ≤ maxLen) (he : Early ks ks.length 0) (es : List T) (hes : ∀ x ∈ es, IsKept b x) (hle : es.length ≤ b) : ∀ (n i : Nat), i + n = es.length →
    ∃ c, Yields (fun k => l_spec_l9Ok_0 (Ra.hl env k fi_spec_l9Ok) (.sl ks) (.sl es) (.int (i : Int))) [.bool c] ∧ ((es.length : Int) > 36 → c = false) ∧
      (¬ (es.length : Int) > 36 → Yields (fun k => l_impl_VaultsOk_0 (Ra.hl env k fi_impl_VaultsOk) (.sl ks) (.sl es) (.sl es) (.int (es.length : Int)) (.int (i : Int))) [.bool c]) := by
  intro n
  induction n with
  | zero =>
    intro i hi
    refine ⟨decide ((es.length : Int) ≤ 36), y_spec_l9Ok_0 _ _ _ (Yields.ff (lt_ff (by omega)) (Yields.some _)), fun h => decide_eq_false (by omega), fun h => y_impl_VaultsOk_0 _ _ _ _ _ (Yields.ff ?_ ?_)⟩
    · rw [lt_nat]; exact decide_eq_false (by omega)
    · rw [decide_eq_true (by omega)]; exact Yields.some _
  | succ n ih =>
    intro i hi
    have hlt : i < es.length := by omega
    have hnx := next_ok hlt (Nat.le_trans hle hb)
    obtain ⟨o, v, hx, ho1, ho2, hv⟩ := hes _ (List.getElem_mem hlt)
    have hnth : ((T.sl es).nth (T.int (i : Int)).i.toNat) = .st [.int o, v] := by rw [idx_ok hlt, hx]
    have c1 : decide ((T.int (i : Int)).i < (T.int (es.length : Int)).i) = true := by rw [lt_nat]; exact decide_eq_true hlt
    obtain ⟨c, y1, y2, y3⟩ := ih (i + 1) (by omega)
    obtain ⟨d, k1, k2⟩ := keep_same hk hb he v hv
    -- what follows when the vault's own test is passed
    let ord : Bool := if h : 0 < i then
      (match es[i - 1]'(by omega) with
        | .st [.int p, u] => decide (p < o) || ((p == o) && Op.bytesLess (u.fld 0).s.toList (v.fld 0).s.toList)
        | _ => false) else true
    let own : Bool := (decide (o ≥ 0) && decide (o ≤ 3)) && d
    have res : ∃ c', (own = false → c' = false) ∧ (own = true → ord = false → c' = false) ∧ (own = true → ord = true → c' = c) := by
      cases own with
      | false => exact ⟨false, (fun _ => rfl), (fun h => by cases h), (fun h => by cases h)⟩
      | true =>
        cases ord with
        | false => exact ⟨false, (fun h => by cases h), (fun _ _ => rfl), (fun _ h => by cases h)⟩
        | true => exact ⟨c, (fun h => by cases h), (fun _ h => by cases h), (fun _ _ => rfl)⟩
    obtain ⟨c', q1, q2, q3⟩ := res
    have hown : own = ((decide (o ≥ 0) && decide (o ≤ 3)) && d) := rfl
    have hprev : 0 < i → ∃ (p : Int) (u : T), ((T.sl es).nth ((IntKind.wrap .i64 ((T.int (i : Int)).i - (1 : Int))).toNat)) = .st [.int p, u] ∧ ord = (decide (p < o) || ((p == o) && Op.bytesLess (u.fld 0).s.toList (v.fld 0).s.toList)) ∧
        (decide (0 ≤ (IntKind.wrap .i64 ((T.int (i : Int)).i - (1 : Int)))) && decide ((IntKind.wrap .i64 ((T.int (i : Int)).i - (1 : Int))).toNat < (T.sl es).es.length)) = true := by
      intro h0
      obtain ⟨p, u, hp, _⟩ := hes _ (List.getElem_mem (show i - 1 < es.length by omega))
      rw [pred_ok h0 (by omega)]
      refine ⟨p, u, ?_, ?_, ?_⟩
      · rw [Int.toNat_natCast, nth_lt (by omega), hp]
      · show (if h : 0 < i then _ else true) = _
        rw [dif_pos h0, hp]
      · rw [Bool.and_eq_true]
        refine ⟨decide_eq_true (by omega), decide_eq_true ?_⟩
        rw [Int.toNat_natCast]; show i - 1 < es.length; omega
    have hfirst : ¬ 0 < i → ord = true := fun h => by show (if h : 0 < i then _ else true) = true; rw [dif_neg h]
    refine ⟨c', ?_, fun h36 => ?_, fun h36 => ?_⟩
    · refine y_spec_l9Ok_0 _ _ _ (Yields.tt (lt_tt hlt) (Yields.tt (in_tt hlt) ?_))
      rw [hnth]
      refine Yields.obind (in_s o 0 3) ?_
      cases hin : (decide (o ≥ 0) && decide (o ≤ 3)) with
      | false => rw [q1 (by rw [hown, hin]; rfl)]; exact Yields.tt rfl (Yields.some _)
      | true =>
        refine Yields.ff rfl (Yields.obind k1 ?_)
        cases hd : d with
        | false => rw [q1 (by rw [hown, hin, hd]; rfl)]; exact Yields.tt rfl (Yields.some _)
        | true =>
          have ho : own = true := by rw [hown, hin, hd]; rfl
          refine Yields.ff rfl (Yields.ite (fun e => ?_) (fun e => ?_))
          · have h0 : 0 < i := by have : (i : Int) > 0 := of_decide_eq_true e
                                  omega
            obtain ⟨p, u, hp1, hp2, hp3⟩ := hprev h0
            refine Yields.tt hp3 ?_
            rw [hp1]
            refine Yields.ite (fun e1 => ?_) (fun e1 => Yields.ite (fun e2 => Yields.ite (fun e3 => ?_) (fun e3 => ?_)) (fun e2 => ?_))
            · have e1' : p > o := of_decide_eq_true e1
              rw [q2 ho (by rw [hp2, decide_eq_false (by omega : ¬ p < o), show (p == o) = false from beq_eq_false_iff_ne.2 (by omega)]; rfl)]; exact Yields.some _
            · have e2' : (p == o) = true := e2
              have e3' : (!Op.bytesLess (u.fld 0).s.toList (v.fld 0).s.toList) = true := e3
              have e1' : ¬ p > o := of_decide_eq_false e1
              have hpo : p = o := by simpa using e2'
              rw [q2 ho (by rw [hp2, decide_eq_false (by omega : ¬ p < o), e2', Bool.true_and, Bool.false_or]; simpa using e3')]; exact Yields.some _
            · have e2' : (p == o) = true := e2
              have e3' : (!Op.bytesLess (u.fld 0).s.toList (v.fld 0).s.toList) = false := e3
              rw [q3 ho (by rw [hp2, e2', Bool.true_and]; simp only [Bool.not_eq_false'] at e3'; rw [e3', Bool.or_true]), hnx]; exact y1
            · have e2' : (p == o) = false := e2
              have e1' : ¬ p > o := of_decide_eq_false e1
              have hpo : ¬ p = o := by simpa using e2'
              rw [q3 ho (by rw [hp2, decide_eq_true (by omega : p < o), Bool.true_or]), hnx]; exact y1
          · have h0 : ¬ 0 < i := by have : ¬ (i : Int) > 0 := of_decide_eq_false e
                                    omega
            rw [q3 ho (hfirst h0), hnx]; exact y1
    · by_cases ho : own = true
      · by_cases hor : ord = true
        · rw [q3 ho hor]; exact y2 h36
        · exact q2 ho (eq_false_of_ne_true hor)
      · exact q1 (eq_false_of_ne_true ho)
    · refine y_impl_VaultsOk_0 _ _ _ _ _ (Yields.tt c1 (Yields.tt (in_tt hlt) ?_))
      rw [hnth]
      have stop : (decide (o ≥ 0) && decide (o ≤ 3)) = false → Yields (fun _ => some [T.bool false]) [T.bool c'] := fun h => by rw [q1 (by rw [hown, h]; rfl)]; exact Yields.some _
      refine Yields.ite (fun e => ?_) (fun e => Yields.ite (fun e2 => ?_) (fun e2 => ?_))
      · have e' : o < 0 := of_decide_eq_true e
        exact stop (by rw [decide_eq_false (by omega : ¬ o ≥ 0)]; rfl)
      · have e' : o ≥ 4 := of_decide_eq_true e2
        exact stop (by rw [decide_eq_false (by omega : ¬ o ≤ 3), Bool.and_false])
      · have e' : ¬ o < 0 := of_decide_eq_false e
        have e2' : ¬ o ≥ 4 := of_decide_eq_false e2
        have hin : (decide (o ≥ 0) && decide (o ≤ 3)) = true := by rw [decide_eq_true (by omega : o ≥ 0), decide_eq_true (by omega : o ≤ 3)]; rfl
        refine Yields.obind k2 ?_
        cases hd : d with
        | false => rw [q1 (by rw [hown, hin, hd]; rfl)]; exact Yields.tt rfl (Yields.some _)
        | true =>
          have ho : own = true := by rw [hown, hin, hd]; rfl
          refine Yields.ff rfl (Yields.ite (fun e => ?_) (fun e => ?_))
          · have h0 : 0 < i := by have : (i : Int) > 0 := of_decide_eq_true e
                                  omega
            obtain ⟨p, u, hp1, hp2, hp3⟩ := hprev h0
            refine Yields.tt hp3 ?_
            rw [hp1]
            have hbf := before_i p o u v
            rw [← hp2] at hbf
            refine Yields.obind hbf ?_
            cases hor : ord with
            | false => rw [q2 ho hor]; exact Yields.tt rfl (Yields.some _)
            | true => rw [q3 ho hor, hnx]; exact Yields.ff rfl (y3 h36)
          · have h0 : ¬ 0 < i := by have : ¬ (i : Int) > 0 := of_decide_eq_false e
                                    omega
            rw [q3 ho (hfirst h0), hnx]; exact y3 h36
end

theorem vaults_same {b : Nat} (hb : b ≤ maxLen) (kt lt : T) (hk : IsKinds b kt) (hl : IsList b lt) : ∃ c, Yields (fun k => cl env k F_spec_VaultsOk [kt, lt]) [.bool c] ∧ Yields (fun k => cl env k F_impl_VaultsOk [kt, lt]) [.bool c] := by
  obtain ⟨ks, rfl, hk1, hk2⟩ := hk
  obtain ⟨es, rfl, hl1, hl2⟩ := hl
  obtain ⟨c, y1, y2, y3⟩ := kindsOk_same hk2 hb hk1
  cases c with
  | false => exact ⟨false, y_spec_VaultsOk _ _ (Yields.obind y1 (Yields.ff rfl (Yields.some _))), y_impl_VaultsOk _ _ (Yields.obind y2 (Yields.tt rfl (Yields.some _)))⟩
  | true =>
    obtain ⟨c, z1, z2, z3⟩ := list_same hk2 hb (y3 rfl) es hl2 hl1 es.length 0 (by omega)
    refine ⟨c, y_spec_VaultsOk _ _ (Yields.obind y1 (Yields.tt rfl (Yields.obind (y_spec_l9Ok _ _ z1) (Yields.some _)))), y_impl_VaultsOk _ _ (Yields.obind y2 (Yields.ff rfl (Yields.ite (fun e => ?_) (fun e => ?_))))⟩
    · rw [z2 (of_decide_eq_true e)]; exact Yields.some _
    · exact z3 (of_decide_eq_false e)

theorem count_same {b : Nat} (hb : b ≤ maxLen) (s : ByteArray) : ∀ v, IsVal b v → ∃ n : Int, Yields (fun k => cl env k F_spec_l2Count [v, .str s]) [.int n] ∧ Yields (fun k => cl env k F_impl_countIn [v, .str s]) [.int n] := by
  intro v h
  induction h with
  | @mk u m ps is h1 h2 h3 h4 h5 h6 h7 ih =>
    have loop : ∀ (n q : Nat), q + n = ps.length → ∀ z : Int, ∃ r : Int, Yields (fun k => l_spec_l2Count_0 (Ra.hl env k fi_spec_l2Count) (.str s) (.int z) (.int (q : Int)) (.st [.str u, .int m, .sl ps, .sl is])) [.int r] ∧
        Yields (fun k => l_impl_countIn_0 (Ra.hl env k fi_impl_countIn) (.str s) (.int z) (.sl ps) (.int (ps.length : Int)) (.int (q : Int))) [.int r] := by
      intro n
      induction n with
      | zero =>
        intro q hq z
        refine ⟨z, y_spec_l2Count_0 _ _ _ _ (Yields.ff (lt_ff (es := ps) (by omega)) (Yields.some _)), y_impl_countIn_0 _ _ _ _ _ (Yields.ff ?_ (Yields.some _))⟩
        rw [lt_nat]; exact decide_eq_false (by omega)
      | succ n ihn =>
        intro q hq z
        have hlt : q < ps.length := by omega
        obtain ⟨w, c1, c2⟩ := ih _ (List.getElem_mem hlt)
        obtain ⟨r, y1, y2⟩ := ihn (q + 1) (by omega) (IntKind.wrap .i64 (z + w))
        have hn1 : ((T.sl ps).nth (T.int (q : Int)).i.toNat) = ps[q] := idx_ok hlt
        have hnx := next_ok hlt (Nat.le_trans h4 hb)
        have d2 : decide ((T.int (q : Int)).i < (T.int (ps.length : Int)).i) = true := by rw [lt_nat]; exact decide_eq_true hlt
        rw [← hn1] at c1 c2
        refine ⟨r, y_spec_l2Count_0 _ _ _ _ (Yields.tt (lt_tt (es := ps) hlt) (Yields.tt (in_tt (es := ps) hlt) (Yields.obind c1 ?_))), y_impl_countIn_0 _ _ _ _ _ (Yields.tt d2 (Yields.tt (in_tt hlt) (Yields.obind c2 ?_)))⟩
        · rw [hnx]; exact y1
        · rw [hnx]; exact y2
    by_cases hs : (u.toList == s.toList) = true
    · obtain ⟨r, y1, y2⟩ := loop ps.length 0 (by omega) 1
      exact ⟨r, y_spec_l2Count _ _ (Yields.tt hs y1), y_impl_countIn _ _ (Yields.tt hs y2)⟩
    · obtain ⟨r, y1, y2⟩ := loop ps.length 0 (by omega) 0
      exact ⟨r, y_spec_l2Count _ _ (Yields.ff (eq_false_of_ne_true hs) y1), y_impl_countIn _ _ (Yields.ff (eq_false_of_ne_true hs) y2)⟩

theorem vaultsCount_same {b : Nat} (hb : b ≤ maxLen) (kt lt : T) (hk : IsKinds b kt) (hl : IsList b lt) (s : ByteArray) :
    ∃ n : Int, Yields (fun k => cl env k F_spec_VaultsCount [kt, lt, .str s]) [.int n] ∧ Yields (fun k => cl env k F_impl_VaultsCount [kt, lt, .str s]) [.int n] := by
  obtain ⟨c, y1, y2⟩ := vaults_same hb kt lt hk hl
  obtain ⟨ks, rfl, hk1, hk2⟩ := hk
  obtain ⟨es, rfl, hl1, hl2⟩ := hl
  cases c with
  | false => exact ⟨-1, y_spec_VaultsCount _ _ _ (Yields.obind (kind_s s) (Yields.obind y1 (Yields.tt rfl (Yields.some _)))), y_impl_VaultsCount _ _ _ (Yields.obind y2 (Yields.tt rfl (Yields.some _)))⟩
  | true =>
    have loop : ∀ (n q : Nat), q + n = es.length → ∀ z : Int, ∃ r : Int, Yields (fun k => l_spec_VaultsCount_0 (Ra.hl env k fi_spec_VaultsCount) (.sl es) (.str s) (.int z) (.int (q : Int))) [.int r] ∧
        Yields (fun k => l_impl_VaultsCount_0 (Ra.hl env k fi_impl_VaultsCount) (.str s) (.int z) (.sl es) (.int (es.length : Int)) (.int (q : Int))) [.int r] := by
      intro n
      induction n with
      | zero =>
        intro q hq z
        refine ⟨z, y_spec_VaultsCount_0 _ _ _ _ (Yields.ff (lt_ff (by omega)) (Yields.some _)), y_impl_VaultsCount_0 _ _ _ _ _ (Yields.ff ?_ (Yields.some _))⟩
        rw [lt_nat]; exact decide_eq_false (by omega)
      | succ n ihn =>
        intro q hq z
        have hlt : q < es.length := by omega
        obtain ⟨o, v, hx, _, _, hv⟩ := hl2 _ (List.getElem_mem hlt)
        obtain ⟨w, c1, c2⟩ := count_same hb s v hv
        obtain ⟨r, z1, z2⟩ := ihn (q + 1) (by omega) (IntKind.wrap .i64 (z + w))
        have hn1 : ((T.sl es).nth (T.int (q : Int)).i.toNat).fld 1 = v := by rw [idx_ok hlt, hx]; rfl
        have hnx := next_ok hlt (Nat.le_trans hl1 hb)
        have d2 : decide ((T.int (q : Int)).i < (T.int (es.length : Int)).i) = true := by rw [lt_nat]; exact decide_eq_true hlt
        rw [← hn1] at c1 c2
        refine ⟨r, y_spec_VaultsCount_0 _ _ _ _ (Yields.tt (lt_tt hlt) (Yields.tt (in_tt hlt) (Yields.obind c1 ?_))), y_impl_VaultsCount_0 _ _ _ _ _ (Yields.tt d2 (Yields.tt (in_tt hlt) (Yields.obind c2 ?_)))⟩
        · rw [hnx]; exact z1
        · rw [hnx]; exact z2
    cases hkc : kindC s with
    | none =>
      have hkn : kinB ks s = false := by unfold kinB; rw [hkc]
      have hki := kin_i ks s
      rw [hkn] at hki
      refine ⟨-1, y_spec_VaultsCount _ _ _ (Yields.obind (kind_s s) (Yields.obind y1 (Yields.ff rfl ?_))), y_impl_VaultsCount _ _ _ (Yields.obind y2 (Yields.ff rfl (Yields.obind hki (Yields.tt rfl (Yields.some _)))))⟩
      rw [hkc]; exact Yields.tt rfl (Yields.some _)
    | some x =>
      obtain ⟨i, j⟩ := x
      have hnb : baseB s = false := by
        cases hb : baseB s with
        | false => rfl
        | true => rw [base_kind hb] at hkc; cases hkc
      have hpl := plain_s ks s
      have hki := kin_i ks s
      rw [hnb, Bool.false_or] at hpl
      cases hkn : kinB ks s with
      | false =>
        rw [hkn] at hpl hki
        refine ⟨-1, y_spec_VaultsCount _ _ _ (Yields.obind (kind_s s) (Yields.obind y1 (Yields.ff rfl ?_))), y_impl_VaultsCount _ _ _ (Yields.obind y2 (Yields.ff rfl (Yields.obind hki (Yields.tt rfl (Yields.some _)))))⟩
        rw [hkc]; exact Yields.ff rfl (Yields.obind hpl (Yields.tt rfl (Yields.some _)))
      | true =>
        rw [hkn] at hpl hki
        obtain ⟨r, z1, z2⟩ := loop es.length 0 (by omega) 0
        refine ⟨r, y_spec_VaultsCount _ _ _ (Yields.obind (kind_s s) (Yields.obind y1 (Yields.ff rfl ?_))), y_impl_VaultsCount _ _ _ (Yields.obind y2 (Yields.ff rfl (Yields.obind hki (Yields.ff rfl z2))))⟩
        rw [hkc]; exact Yields.ff rfl (Yields.obind hpl (Yields.ff rfl z1))

theorem law_exactCount (kt lt : T) (s : ByteArray) (hk : IsKinds maxLen kt) (hl : IsList maxLen lt) : Yields (fun k => cl env k F_laws_FnExactVaultsCount [kt, lt, .str s]) [.bool true] := by
  refine y_laws_FnExactVaultsCount _ _ _ (Yields.ite (fun _ => Yields.some _) (fun _ => ?_))
  obtain ⟨n, a1, a2, a3, a4⟩ := sz_kinds kt 1048576 hk (by omega) (by omega)
  refine Yields.obind a1 (Yields.ite (fun _ => Yields.some _) (fun e => ?_))
  have hn : ¬ n < 0 := of_decide_eq_false e
  have hk := a4 (by omega)
  obtain ⟨m, b1, b2, b3, b4⟩ := sz_list lt n hl (by omega) (by omega)
  refine Yields.obind b1 (Yields.ite (fun _ => Yields.some _) (fun e => ?_))
  have hm : ¬ m < 0 := of_decide_eq_false e
  have hl := b4 (by omega)
  obtain ⟨r, c1, c2⟩ := vaultsCount_same (bb_max (Nat.le_refl _)) kt lt hk hl s
  have tk := to_kinds kt hk
  have tl := to_list lt hl
  refine Yields.obind tk (Yields.obind tl (Yields.obind c1 (Yields.obind tk (Yields.obind tl (Yields.obind c2 (Yields.ff (ne_self _) ?_))))))
  exact Yields.obind tk (Yields.obind (eq_kinds kt hk) (Yields.ff rfl (Yields.obind tl (Yields.obind (eq_list lt hl) (Yields.ff rfl (Yields.some _))))))
end Go.Proofs.Ytmhjjanaackknaa.Ra
