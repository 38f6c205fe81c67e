/- A verified evaluator for the program, part Pl2 of this claim. -/
import Derived.Test.YtfelodpbejdhlaaGreatDoorPl1
set_option linter.unusedSimpArgs false
set_option linter.unusedVariables false
/- Plain side: all kinds; values; vaults; counts: both sides say the same. -/
namespace Go.Proofs.YtfelodpbejdhlaaGreatDoor.Ra
open Go

theorem in_s (x lo hi : Int) : Yields (fun k => cl env k F_spec_l6In [.int x, .int lo, .int hi]) [.bool (decide (x ≥ lo) && decide (x ≤ hi))] := by
  refine y_spec_l6In _ _ _ (Yields.ite (fun h => ?_) (fun h => ?_))
  · rw [show decide (x ≥ lo) = true from h, Bool.true_and]; exact Yields.some _
  · rw [show decide (x ≥ lo) = false from h, Bool.false_and]; exact Yields.some _

section
variable {ks : List T} {b : Nat}
theorem rec_shape (hk : ∀ x ∈ ks, IsRecs b x) {m k : Nat} (hm : m < ks.length) (hkk : k < ((T.sl ks).nth m).es.length) : ∃ (a : Int) (fs : List T), ((T.sl ks).nth m).nth k = .st [.int a, .sl fs] ∧ fs.length ≤ b ∧ ∀ x ∈ fs, IsStr x := by
  obtain ⟨rs, h1, h2, h3⟩ := hk _ (List.getElem_mem hm)
  rw [nth_lt hm, h1] at hkk ⊢
  have hkr : k < rs.length := hkk
  rw [nth_lt hkr]
  obtain ⟨a, fs, e1, _, _, e2, e3⟩ := h3 _ (List.getElem_mem hkr)
  exact ⟨a, fs, e1, e2, e3⟩

theorem rec_same (hk : ∀ x ∈ ks, IsRecs b x) (hb : b ≤ maxLen) {m k : Nat} (hm : m < ks.length) (hkk : k < ((T.sl ks).nth m).es.length) (he : Early ks m k) :
    ∃ c, Yields (fun r => cl env r F_spec_l1Record [.sl ks, .int (m : Int), .int (k : Int)]) [.bool c] ∧ Yields (fun r => cl env r F_impl_recordOk [.sl ks, .int (m : Int), .int (k : Int)]) [.bool c] ∧
      (c = true → ∃ a : Int, (((T.sl ks).nth m).nth k).fld 0 = .int a ∧ 0 ≤ a ∧ a ≤ 15) := by
  obtain ⟨a, fs, hr, hf1, hf2⟩ := rec_shape hk hm hkk
  have hrec : ((T.sl ks).nth (T.int (m : Int)).i.toNat).nth ((T.int (k : Int)).i.toNat) = .st [.int a, .sl fs] := by
    show ((T.sl ks).nth ((m : Int).toNat)).nth ((k : Int).toNat) = _
    rw [Int.toNat_natCast, Int.toNat_natCast]; exact hr
  have spec : ∀ {c : Bool} {Z : Nat → R}, ((decide (a ≥ 0) && decide (a ≤ 15)) = false → c = false) → ((decide (a ≥ 0) && decide (a ≤ 15)) = true → (fs.length : Int) > 3 → c = false) →
      ((decide (a ≥ 0) && decide (a ≤ 15)) = true → ¬ (fs.length : Int) > 3 → Yields (fun r => l_spec_l1Record_0 (Ra.hl env r fi_spec_l1Record) (.sl ks) (.int (m : Int)) (.int (k : Int)) (.int 0) (.st [.int a, .sl fs])) [.bool c]) →
      Yields (fun r => cl env r F_spec_l1Record [.sl ks, .int (m : Int), .int (k : Int)]) [.bool c] := by
    intro c Z h1 h2 h3
    refine y_spec_l1Record _ _ _ (Yields.tt (in_tt hm) (Yields.tt (rec_at hkk) ?_))
    rw [hrec]
    refine Yields.obind (in_s a 0 15) ?_
    cases hin : (decide (a ≥ 0) && decide (a ≤ 15)) with
    | false => rw [h1 hin]; exact Yields.tt rfl (Yields.some _)
    | true =>
      refine Yields.ff rfl (Yields.ite (fun e => ?_) (fun e => h3 hin (of_decide_eq_false e)))
      rw [h2 hin (of_decide_eq_true e)]; exact Yields.some _
  have impl : ∀ {c : Bool} {Z : Nat → R}, ((decide (a ≥ 0) && decide (a ≤ 15)) = false → c = false) → ((decide (a ≥ 0) && decide (a ≤ 15)) = true → (fs.length : Int) > 3 → c = false) →
      ((decide (a ≥ 0) && decide (a ≤ 15)) = true → ¬ (fs.length : Int) > 3 → Yields (fun r => l_impl_recordOk_0 (Ra.hl env r fi_impl_recordOk) (.sl ks) (.int (m : Int)) (.int (k : Int)) (.sl fs) (.int (fs.length : Int)) (.int 0) (.st [.int a, .sl fs])) [.bool c]) →
      Yields (fun r => cl env r F_impl_recordOk [.sl ks, .int (m : Int), .int (k : Int)]) [.bool c] := by
    intro c Z h1 h2 h3
    refine y_impl_recordOk _ _ _ (Yields.tt (in_tt hm) (Yields.tt (rec_at hkk) ?_))
    rw [hrec]
    refine Yields.ite (fun e => ?_) (fun e => Yields.ite (fun e2 => ?_) (fun e2 => ?_))
    · have e' : a < 0 := of_decide_eq_true e
      rw [h1 (by rw [decide_eq_false (by omega : ¬ a ≥ 0)]; rfl)]; exact Yields.some _
    · have e' : a > 15 := of_decide_eq_true e2
      rw [h1 (by rw [decide_eq_false (by omega : ¬ a ≤ 15), Bool.and_false])]; exact Yields.some _
    · have e1' : ¬ a < 0 := of_decide_eq_false e
      have e2' : ¬ a > 15 := of_decide_eq_false e2
      have hin : (decide (a ≥ 0) && decide (a ≤ 15)) = true := by rw [decide_eq_true (by omega : a ≥ 0), decide_eq_true (by omega : a ≤ 15)]; rfl
      refine Yields.ite (fun e3 => ?_) (fun e3 => h3 hin (of_decide_eq_false e3))
      rw [h2 hin (of_decide_eq_true e3)]; exact Yields.some _
  have hfld : (((T.sl ks).nth m).nth k).fld 0 = .int a := by rw [hr]; rfl
  cases hin : (decide (a ≥ 0) && decide (a ≤ 15)) with
  | false => exact ⟨false, spec (Z := fun _ => none) (fun _ => rfl) (fun h => by rw [hin] at h; cases h) (fun h => by rw [hin] at h; cases h), impl (Z := fun _ => none) (fun _ => rfl) (fun h => by rw [hin] at h; cases h) (fun h => by rw [hin] at h; cases h), fun h => by cases h⟩
  | true =>
    have hr2 : 0 ≤ a ∧ a ≤ 15 := by rw [Bool.and_eq_true, decide_eq_true_eq, decide_eq_true_eq] at hin; exact ⟨hin.1, hin.2⟩
    by_cases h3 : (fs.length : Int) > 3
    · exact ⟨false, spec (Z := fun _ => none) (fun _ => rfl) (fun _ _ => rfl) (fun _ h => absurd h3 h), impl (Z := fun _ => none) (fun _ => rfl) (fun _ _ => rfl) (fun _ h => absurd h3 h), fun h => by cases h⟩
    · obtain ⟨c, y1, y2⟩ := fields_same he hr2 (Nat.le_trans hf1 hb) hf2
      exact ⟨c, spec (Z := fun _ => none) (fun h => by rw [hin] at h; cases h) (fun _ h => absurd h h3) (fun _ _ => y1), impl (Z := fun _ => none) (fun h => by rw [hin] at h; cases h) (fun _ h => absurd h h3) (fun _ _ => y2), fun _ => ⟨a, hfld, hr2⟩⟩

/-- Each of the first modules has few records. -/
def Small (ks : List T) (m : Nat) : Prop := ∀ i, i < m → i < ks.length → ((T.sl ks).nth i).es.length ≤ 3
def KRes (ks : List T) (r : List T) : Prop := ∃ p q : Int, r = [.int p, .int q] ∧ ((p = -1 ∧ Early ks ks.length 0 ∧ Small ks ks.length) ∨ 0 ≤ p)
theorem kinds_loop (hk : ∀ x ∈ ks, IsRecs b x) (hb : b ≤ maxLen) (hl : ks.length ≤ b) : ∀ (n m : Nat), m + n = ks.length → Early ks m 0 → Small ks m →
    ∃ r, KRes ks r ∧ Yields (fun k => l_spec_KindsBad_0 (Ra.hl env k fi_spec_KindsBad) (.sl ks) (.int (m : Int))) r ∧
      Yields (fun k => l_impl_KindsBad_0 (Ra.hl env k fi_impl_KindsBad) (.sl ks) (.sl ks) (.int (ks.length : Int)) (.int (m : Int))) r := by
  intro n
  induction n with
  | zero =>
    intro m hm he hsm
    have hmk : m = ks.length := by omega
    subst hmk
    refine ⟨[.int (-1), .int (-1)], ⟨-1, -1, rfl, .inl ⟨rfl, he, hsm⟩⟩, y_spec_KindsBad_0 _ _ (Yields.ff (lt_ff (by omega)) (Yields.some _)), y_impl_KindsBad_0 _ _ _ _ (Yields.ff ?_ (Yields.some _))⟩
    rw [lt_nat]; exact decide_eq_false (by omega)
  | succ n ih =>
    intro m hm he hsm
    have hlt : m < ks.length := by omega
    obtain ⟨rs, hrs, hrl, hrr⟩ := hk _ (List.getElem_mem hlt)
    have hnth : ((T.sl ks).nth (T.int (m : Int)).i.toNat) = .sl rs := by rw [idx_ok hlt, hrs]
    have hnth' : ((T.sl ks).nth m) = .sl rs := by rw [nth_lt hlt, hrs]
    have c1 : decide ((T.int (m : Int)).i < (T.int (ks.length : Int)).i) = true := by rw [lt_nat]; exact decide_eq_true hlt
    have hnx := next_ok hlt (Nat.le_trans hl hb)
    -- the inner loop
    have inner : rs.length ≤ 3 → ∀ (n' k : Nat), k + n' = rs.length → Early ks m k →
        ∃ r, KRes ks r ∧ Yields (fun r => l_spec_KindsBad_1 (Ra.hl env r fi_spec_KindsBad) (.sl ks) (.int (m : Int)) (.int (k : Int))) r ∧
          Yields (fun r => l_impl_KindsBad_1 (Ra.hl env r fi_impl_KindsBad) (.sl ks) (.int (m : Int)) (.sl ks) (.int (ks.length : Int)) (.int (m : Int)) (.int (rs.length : Int)) (.int (k : Int))) r := by
      intro h3 n'
      have hsm' : Small ks (m + 1) := fun i hi hi2 => by
        by_cases him : i < m
        · exact hsm i him hi2
        · have : i = m := by omega
          subst this
          rw [hnth']; exact h3
      induction n' with
      | zero =>
        intro k hkr hek
        have hkk : k = rs.length := by omega
        subst hkk
        have he' : Early ks (m + 1) 0 := by
          intro i j hij hi hj
          rcases hij with h | ⟨_, h⟩
          · by_cases him : i < m
            · exact he i j (.inl him) hi hj
            · have : i = m := by omega
              subst this
              rw [hnth'] at hj
              exact hek i j (.inr ⟨rfl, hj⟩) hi (by rw [hnth']; exact hj)
          · omega
        obtain ⟨r, r1, y1, y2⟩ := ih (m + 1) (by omega) he' hsm'
        refine ⟨r, r1, y_spec_KindsBad_1 _ _ _ (Yields.tt (in_tt hlt) (Yields.ff ?_ ?_)), y_impl_KindsBad_1 _ _ _ _ _ _ _ (Yields.ff ?_ ?_)⟩
        · rw [hnth]; exact lt_ff (by omega)
        · rw [hnx]; exact y1
        · rw [lt_nat]; exact decide_eq_false (by omega)
        · rw [hnx]; exact y2
      | succ n' ihk =>
        intro k hkr hek
        have hkl : k < rs.length := by omega
        have hkk : k < ((T.sl ks).nth m).es.length := by rw [hnth']; exact hkl
        obtain ⟨c, z1, z2, z3⟩ := rec_same hk hb hlt hkk hek
        have c2 : decide ((T.int (k : Int)).i < (T.int (rs.length : Int)).i) = true := by rw [lt_nat]; exact decide_eq_true hkl
        have c3 : decide ((T.int (k : Int)).i < ((((T.sl ks).nth (T.int (m : Int)).i.toNat).es).length : Int)) = true := by rw [hnth]; exact lt_tt hkl
        cases c with
        | false =>
          exact ⟨[.int (m : Int), .int (k : Int)], ⟨m, k, rfl, .inr (by omega)⟩, y_spec_KindsBad_1 _ _ _ (Yields.tt (in_tt hlt) (Yields.tt c3 (Yields.obind z1 (Yields.tt rfl (Yields.some _))))),
            y_impl_KindsBad_1 _ _ _ _ _ _ _ (Yields.tt c2 (Yields.obind z2 (Yields.tt rfl (Yields.some _))))⟩
        | true =>
          have hek' : Early ks m (k + 1) := by
            intro i j hij hi hj
            rcases hij with h | ⟨h1, h2⟩
            · exact hek i j (.inl h) hi hj
            · by_cases hjk : j < k
              · exact hek i j (.inr ⟨h1, hjk⟩) hi hj
              · have : j = k := by omega
                subst this; subst h1
                exact z3 rfl
          obtain ⟨r, r1, y1, y2⟩ := ihk (k + 1) (by omega) hek'
          have hnk := next_ok hkl (Nat.le_trans hrl hb)
          refine ⟨r, r1, y_spec_KindsBad_1 _ _ _ (Yields.tt (in_tt hlt) (Yields.tt c3 (Yields.obind z1 (Yields.ff rfl ?_)))), y_impl_KindsBad_1 _ _ _ _ _ _ _ (Yields.tt c2 (Yields.obind z2 (Yields.ff rfl ?_)))⟩
          · rw [hnk]; exact y1
          · rw [hnk]; exact y2
    by_cases h3 : (rs.length : Int) > 3
    · refine ⟨[.int (m : Int), .int 3], ⟨m, 3, rfl, .inr (by omega)⟩, y_spec_KindsBad_0 _ _ (Yields.tt (lt_tt hlt) (Yields.tt (in_tt hlt) (Yields.tt ?_ (Yields.some _)))),
        y_impl_KindsBad_0 _ _ _ _ (Yields.tt c1 (Yields.tt (in_tt hlt) (Yields.tt ?_ (Yields.some _))))⟩
      · rw [hnth]; exact decide_eq_true h3
      · rw [hnth]; exact decide_eq_true h3
    · obtain ⟨r, r1, y1, y2⟩ := inner (by omega) rs.length 0 (by omega) he
      refine ⟨r, r1, y_spec_KindsBad_0 _ _ (Yields.tt (lt_tt hlt) (Yields.tt (in_tt hlt) (Yields.ff ?_ ?_))), y_impl_KindsBad_0 _ _ _ _ (Yields.tt c1 (Yields.tt (in_tt hlt) (Yields.ff ?_ ?_)))⟩
      · rw [hnth]; exact decide_eq_false h3
      · exact y1
      · rw [hnth]; exact decide_eq_false h3
      · rw [hnth]; exact y2

theorem kindsBad_same (hk : ∀ x ∈ ks, IsRecs b x) (hb : b ≤ maxLen) (hl : ks.length ≤ b) : ∃ r, (KRes ks r ∧ (ks.length ≤ 3 ∨ r = [.int 3, .int 0])) ∧ Yields (fun k => cl env k F_spec_KindsBad [.sl ks]) r ∧ Yields (fun k => cl env k F_impl_KindsBad [.sl ks]) r := by
  by_cases h3 : (ks.length : Int) > 3
  · exact ⟨[.int 3, .int 0], ⟨⟨3, 0, rfl, .inr (by omega)⟩, .inr rfl⟩, y_spec_KindsBad _ (Yields.tt (decide_eq_true h3) (Yields.some _)), y_impl_KindsBad _ (Yields.tt (decide_eq_true h3) (Yields.some _))⟩
  · obtain ⟨r, r1, y1, y2⟩ := kinds_loop hk hb hl ks.length 0 (by omega) (fun i j h => by omega) (fun i h => by omega)
    exact ⟨r, ⟨r1, .inl (by omega)⟩, y_spec_KindsBad _ (Yields.ff (decide_eq_false h3) y1), y_impl_KindsBad _ (Yields.ff (decide_eq_false h3) y2)⟩
theorem kindsOk_small (hk : ∀ x ∈ ks, IsRecs b x) (hb : b ≤ maxLen) (hl : ks.length ≤ b) : ∃ c, Yields (fun k => cl env k F_spec_KindsOk [.sl ks]) [.bool c] ∧ Yields (fun k => cl env k F_impl_KindsOk [.sl ks]) [.bool c] ∧ (c = true → Early ks ks.length 0 ∧ Small ks ks.length ∧ ks.length ≤ 3) := by
  obtain ⟨r, ⟨⟨p, q, rfl, hr⟩, h3⟩, y1, y2⟩ := kindsBad_same hk hb hl
  rcases hr with ⟨rfl, he, hs⟩ | hp
  · exact ⟨true, y_spec_KindsOk _ (Yields.obind y1 (Yields.some _)), y_impl_KindsOk _ (Yields.obind y2 (Yields.some _)), fun _ => ⟨he, hs, h3.elim id fun h => by cases h⟩⟩
  · refine ⟨false, y_spec_KindsOk _ (Yields.obind y1 ?_), y_impl_KindsOk _ (Yields.obind y2 ?_), fun h => by cases h⟩
    · show Yields (fun _ => some [T.bool (decide (p < 0))]) _
      rw [decide_eq_false (by omega)]; exact Yields.some _
    · show Yields (fun _ => some [T.bool (p == -1)]) _
      rw [show (p == -1) = false from beq_eq_false_iff_ne.2 (by omega)]; exact Yields.some _
theorem kindsOk_same (hk : ∀ x ∈ ks, IsRecs b x) (hb : b ≤ maxLen) (hl : ks.length ≤ b) : ∃ c, Yields (fun k => cl env k F_spec_KindsOk [.sl ks]) [.bool c] ∧ Yields (fun k => cl env k F_impl_KindsOk [.sl ks]) [.bool c] ∧ (c = true → Early ks ks.length 0) := by
  obtain ⟨c, y1, y2, y3⟩ := kindsOk_small hk hb hl
  exact ⟨c, y1, y2, fun h => (y3 h).1⟩
end
end Go.Proofs.YtfelodpbejdhlaaGreatDoor.Ra
/- Plain side: values, vaults, counts; the law. -/
namespace Go.Proofs.YtfelodpbejdhlaaGreatDoor.Ra
open Go

theorem val_shape {b : Nat} {v : T} (h : IsVal b v) : ∃ (s : ByteArray) (n : Int) (ps is : List T), v = .st [.str s, .int n, .sl ps, .sl is] ∧ ps.length ≤ b ∧ is.length ≤ b ∧ (∀ x ∈ ps, IsVal b x) ∧ (∀ x ∈ is, ∃ m : Int, x = .int m) ∧ s.size ≤ maxLen ∧ -9223372036854775808 ≤ n ∧ n ≤ 9223372036854775807 := by
  cases h with
  | mk h1 h2 h3 h4 h5 h6 h7 => exact ⟨_, _, _, _, rfl, h4, h5, h7, h6, h1, h2, h3⟩
theorem len0 (l : List T) : (((l.length : Int) == (0 : Int)) : Bool) = l.isEmpty := by
  cases l with
  | nil => rfl
  | cons a l => rw [show (((a :: l).length : Int) == 0) = false from beq_eq_false_iff_ne.2 (by simp; omega)]; rfl
theorem lenpos (l : List T) : decide ((l.length : Int) > (0 : Int)) = !l.isEmpty := by
  cases l with
  | nil => rfl
  | cons a l => rw [decide_eq_true (by simp)]; rfl

section
variable {ks : List T} {b : Nat}
theorem l2plain (s : T) (n : T) (ps is : List T) : Yields (fun k => cl env k F_spec_l2Plain [.st [s, n, .sl ps, .sl is]]) [.bool (ps.isEmpty && is.isEmpty)] := by
  have e2 : ((((T.st [s, n, .sl ps, .sl is]).fld 2).es).length : Int) = (ps.length : Int) := rfl
  have e3 : ((((T.st [s, n, .sl ps, .sl is]).fld 3).es).length : Int) = (is.length : Int) := rfl
  refine y_spec_l2Plain _ ?_
  unfold b_spec_l2Plain
  rw [e2, e3, len0, len0]
  cases ps.isEmpty with
  | true => exact Yields.tt rfl (Yields.some _)
  | false => exact Yields.ff rfl (Yields.some _)

theorem fits_same (hk : ∀ x ∈ ks, IsRecs b x) (hb : b ≤ maxLen) : ∀ v, IsVal b v → ∃ c, Yields (fun k => cl env k F_spec_l2Ok [.sl ks, v]) [.bool c] ∧ Yields (fun k => cl env k F_impl_valueFits [.sl ks, v]) [.bool c] ∧
    (c = true → (baseB (v.fld 0).s || kinB ks (v.fld 0).s) = true) := by
  intro v h
  induction h with
  | @mk s n ps is h1 h2 h3 h4 h5 h6 h7 ih =>
    have e0 : ((T.st [.str s, .int n, .sl ps, .sl is]).fld 0).s = s := rfl
    have e2 : ((((T.st [.str s, .int n, .sl ps, .sl is]).fld 2).es).length : Int) = (ps.length : Int) := rfl
    have e3 : decide (((((T.st [.str s, .int n, .sl ps, .sl is]).fld 3).es).length : Int) > (0 : Int)) = !is.isEmpty := lenpos is
    rw [e0]
    -- the base kinds
    have basic : ∀ (hi : Int) (c : Bool), c = (ps.isEmpty && is.isEmpty && (decide (n ≥ 0) && decide (n ≤ hi))) →
        Yields (fun k => obind (cl env k F_spec_l2Plain [T.st [.str s, .int n, .sl ps, .sl is]]) fun r1 =>
          bif (rt r1 0).b then
            obind (cl env k F_spec_l6In [.int n, (T.int (0 : Int)), (T.int hi)]) fun r2 =>
            some [(rt r2 0)]
          else
            some [(T.bool false)]) [.bool c] := by
      intro hi c hc
      subst hc
      refine Yields.obind (l2plain _ _ ps is) ?_
      cases hpi : (ps.isEmpty && is.isEmpty) with
      | true => exact Yields.tt rfl (Yields.obind (in_s n 0 hi) (Yields.some _))
      | false => exact Yields.ff rfl (Yields.some _)
    by_cases b1 : (s.toList == (⟨#[110]⟩ : ByteArray).toList) = true
    · have hbase : baseB s = true := by unfold baseB; rw [b1]; rfl
      refine ⟨ps.isEmpty && is.isEmpty && (decide (n ≥ 0) && decide (n ≤ 1000000)), y_spec_l2Ok _ _ (Yields.tt b1 (basic 1000000 _ rfl)), ?_, fun _ => by rw [hbase]; rfl⟩
      refine y_impl_valueFits _ _ ?_
      unfold b_impl_valueFits
      rw [e3]
      cases his : is.isEmpty with
      | false => rw [Bool.and_false, Bool.false_and]; exact Yields.tt rfl (Yields.some _)
      | true =>
        have hpl := plain_i ks s
        rw [hbase, Bool.true_or] at hpl
        refine Yields.ff rfl (Yields.obind hpl (Yields.ff rfl (Yields.tt b1 ?_)))
        rw [Bool.and_true]
        refine Yields.ite (fun q1 => Yields.ite (fun q2 => ?_) (fun q2 => ?_)) (fun q1 => ?_)
        · rw [show decide (n ≥ 0) = true from q1, show decide (n ≤ 1000000) = true from q2, Bool.and_self, Bool.and_true, ← len0]; exact Yields.some _
        · rw [show decide (n ≤ 1000000) = false from q2, Bool.and_false, Bool.and_false]; exact Yields.some _
        · rw [show decide (n ≥ 0) = false from q1, Bool.false_and, Bool.and_false]; exact Yields.some _
    · have b1 := eq_false_of_ne_true b1
      by_cases b2 : (s.toList == (⟨#[98]⟩ : ByteArray).toList) = true
      · have hbase : baseB s = true := by unfold baseB; rw [b2]; simp
        refine ⟨ps.isEmpty && is.isEmpty && (decide (n ≥ 0) && decide (n ≤ 1)), y_spec_l2Ok _ _ (Yields.ff b1 (Yields.tt b2 (basic 1 _ rfl))), ?_, fun _ => by rw [hbase]; rfl⟩
        refine y_impl_valueFits _ _ ?_
        unfold b_impl_valueFits
        rw [e3]
        cases his : is.isEmpty with
        | false => rw [Bool.and_false, Bool.false_and]; exact Yields.tt rfl (Yields.some _)
        | true =>
          have hpl := plain_i ks s
          rw [hbase, Bool.true_or] at hpl
          refine Yields.ff rfl (Yields.obind hpl (Yields.ff rfl (Yields.ff b1 (Yields.tt b2 ?_))))
          rw [Bool.and_true]
          refine Yields.ite (fun q1 => ?_) (fun q1 => Yields.ite (fun q2 => ?_) (fun q2 => ?_))
          · have q : n = 0 := by have : (n == 0) = true := q1
                                 simpa using this
            subst q
            rw [show (decide ((0 : Int) ≥ 0) && decide ((0 : Int) ≤ 1)) = true from rfl, Bool.and_true, ← len0]; exact Yields.some _
          · have q : n = 1 := by have : (n == 1) = true := q2
                                 simpa using this
            subst q
            rw [show (decide ((1 : Int) ≥ 0) && decide ((1 : Int) ≤ 1)) = true from rfl, Bool.and_true, ← len0]; exact Yields.some _
          · have p0 : ¬ n = 0 := by have : (n == 0) = false := q1
                                    simpa using this
            have p1 : ¬ n = 1 := by have : (n == 1) = false := q2
                                    simpa using this
            have : (decide (n ≥ 0) && decide (n ≤ 1)) = false := by
              by_cases hn : n ≥ 0
              · rw [decide_eq_false (by omega : ¬ n ≤ 1), Bool.and_false]
              · rw [decide_eq_false hn, Bool.false_and]
            rw [this, Bool.and_false]; exact Yields.some _
      · have b2 := eq_false_of_ne_true b2
        by_cases b3 : (s.toList == (⟨#[111]⟩ : ByteArray).toList) = true
        · have hbase : baseB s = true := by unfold baseB; rw [b3]; simp
          refine ⟨ps.isEmpty && is.isEmpty && (decide (n ≥ 0) && decide (n ≤ 3)), y_spec_l2Ok _ _ (Yields.ff b1 (Yields.ff b2 (Yields.tt b3 (basic 3 _ rfl)))), ?_, fun _ => by rw [hbase]; rfl⟩
          refine y_impl_valueFits _ _ ?_
          unfold b_impl_valueFits
          rw [e3]
          cases his : is.isEmpty with
          | false => rw [Bool.and_false, Bool.false_and]; exact Yields.tt rfl (Yields.some _)
          | true =>
            have hpl := plain_i ks s
            rw [hbase, Bool.true_or] at hpl
            refine Yields.ff rfl (Yields.obind hpl (Yields.ff rfl (Yields.ff b1 (Yields.ff b2 (Yields.tt b3 ?_)))))
            rw [Bool.and_true]
            refine Yields.ite (fun q1 => Yields.ite (fun q2 => ?_) (fun q2 => ?_)) (fun q1 => ?_)
            · have q2' : n < 4 := of_decide_eq_true q2
              rw [show decide (n ≥ 0) = true from q1, decide_eq_true (by omega : n ≤ 3), Bool.and_self, Bool.and_true, ← len0]; exact Yields.some _
            · have q2' : ¬ n < 4 := of_decide_eq_false q2
              rw [decide_eq_false (by omega : ¬ n ≤ 3), Bool.and_false, Bool.and_false]; exact Yields.some _
            · rw [show decide (n ≥ 0) = false from q1, Bool.false_and, Bool.and_false]; exact Yields.some _
        · have b3 := eq_false_of_ne_true b3
          have hbase : baseB s = false := by unfold baseB; rw [b1, b2, b3]; rfl
          have hpl := plain_i ks s
          rw [hbase, Bool.false_or] at hpl ⊢
          -- no plain kind: no
          have nope : kinB ks s = false → ∃ c, Yields (fun k => cl env k F_spec_l2Ok [.sl ks, T.st [.str s, .int n, .sl ps, .sl is]]) [.bool c] ∧ Yields (fun k => cl env k F_impl_valueFits [.sl ks, T.st [.str s, .int n, .sl ps, .sl is]]) [.bool c] ∧ (c = true → kinB ks s = true) := by
            intro hkn
            refine ⟨false, y_spec_l2Ok _ _ (Yields.ff b1 (Yields.ff b2 (Yields.ff b3 (Yields.obind (kind_s s) ?_)))), ?_, fun h => by cases h⟩
            · unfold kinB at hkn
              cases hkc : kindC s with
              | none => exact Yields.tt rfl (Yields.some _)
              | some x =>
                obtain ⟨i, j⟩ := x
                rw [hkc] at hkn
                have hs := has_s ks i j
                rw [show hasB ks i j = false from hkn] at hs
                exact Yields.ff rfl (Yields.obind hs (Yields.tt rfl (Yields.some _)))
            · refine y_impl_valueFits _ _ ?_
              unfold b_impl_valueFits
              rw [e3]
              rw [hkn] at hpl
              cases is.isEmpty with
              | false => exact Yields.tt rfl (Yields.some _)
              | true => exact Yields.ff rfl (Yields.obind hpl (Yields.tt rfl (Yields.some _)))
          cases hkn : kinB ks s with
          | false =>
            have := nope hkn
            rw [hkn] at this
            exact this
          | true =>
            rw [hkn] at hpl
            have hkn' := hkn
            unfold kinB at hkn'
            cases hkc : kindC s with
            | none => rw [hkc] at hkn'; cases hkn'
            | some x =>
              obtain ⟨i, j⟩ := x
              rw [hkc] at hkn'
              have hh : hasB ks i j = true := hkn'
              obtain ⟨g1, g2⟩ := has_two hh
              obtain ⟨a, fs, hr, hf1, hf2⟩ := rec_shape hk g1 g2
              have hrec : ((T.sl ks).nth (T.int (i : Int)).i.toNat).nth ((T.int (j : Int)).i.toNat) = .st [.int a, .sl fs] := by
                show ((T.sl ks).nth ((i : Int).toNat)).nth ((j : Int).toNat) = _
                rw [Int.toNat_natCast, Int.toNat_natCast]; exact hr
              have hs := has_s ks i j
              rw [hh] at hs
              -- the parts
              have loop : ∃ c, (ps.length = fs.length → Yields (fun k => l_spec_l2Ok_0 (Ra.hl env k fi_spec_l2Ok) (.sl ks) (.int (i : Int)) (.int (j : Int)) (.int 0) (.st [.str s, .int n, .sl ps, .sl is])) [.bool c] ∧
                  Yields (fun k => l_impl_valueFits_0 (Ra.hl env k fi_impl_valueFits) (.sl ks) (.sl fs) (.sl ps) (.int (ps.length : Int)) (.int 0)) [.bool c]) := by
                by_cases hlen : ps.length = fs.length
                · have key : ∀ (m q : Nat), q + m = ps.length → ∃ c, Yields (fun k => l_spec_l2Ok_0 (Ra.hl env k fi_spec_l2Ok) (.sl ks) (.int (i : Int)) (.int (j : Int)) (.int (q : Int)) (.st [.str s, .int n, .sl ps, .sl is])) [.bool c] ∧
                      Yields (fun k => l_impl_valueFits_0 (Ra.hl env k fi_impl_valueFits) (.sl ks) (.sl fs) (.sl ps) (.int (ps.length : Int)) (.int (q : Int))) [.bool c] := by
                    intro m
                    induction m with
                    | zero =>
                      intro q hq
                      refine ⟨true, y_spec_l2Ok_0 _ _ _ _ _ (Yields.ff (lt_ff (es := ps) (by omega)) (Yields.some _)), y_impl_valueFits_0 _ _ _ _ _ (Yields.ff ?_ (Yields.some _))⟩
                      rw [lt_nat]; exact decide_eq_false (by omega)
                    | succ m ihm =>
                      intro q hq
                      have hlt : q < ps.length := by omega
                      have hlf : q < fs.length := by omega
                      obtain ⟨c, y1, y2⟩ := ihm (q + 1) (by omega)
                      obtain ⟨c', z1, z2, _⟩ := ih _ (List.getElem_mem hlt)
                      have hn1 : ((T.sl ps).nth (T.int (q : Int)).i.toNat) = ps[q] := idx_ok hlt
                      have hnx := next_ok hlt (Nat.le_trans h4 hb)
                      have c2 : decide ((T.int (q : Int)).i < (T.int (ps.length : Int)).i) = true := by rw [lt_nat]; exact decide_eq_true hlt
                      have d1 : (decide (0 ≤ (T.int (q : Int)).i) && decide ((T.int (q : Int)).i.toNat < ((((((T.sl ks).nth (T.int (i : Int)).i.toNat).nth ((T.int (j : Int)).i.toNat)).fld 1).es).length))) = true := by rw [hrec]; exact in_tt hlf
                      -- the same test on both sides
                      generalize htest : (!((((T.sl ps).nth (T.int (q : Int)).i.toNat).fld 0).s.toList == ((T.sl fs).nth (T.int (q : Int)).i.toNat).s.toList)) = tst
                      have spec : ∀ r, (tst = true → r = [T.bool false]) → (tst = false → c' = false → r = [T.bool false]) → (tst = false → c' = true → r = [T.bool c]) →
                          Yields (fun k => l_spec_l2Ok_0 (Ra.hl env k fi_spec_l2Ok) (.sl ks) (.int (i : Int)) (.int (j : Int)) (.int (q : Int)) (.st [.str s, .int n, .sl ps, .sl is])) r := by
                        intro r r1 r2 r3
                        refine y_spec_l2Ok_0 _ _ _ _ _ (Yields.tt (lt_tt (es := ps) hlt) (Yields.tt (in_tt (es := ps) hlt) (Yields.tt (in_tt g1) (Yields.tt (rec_at g2) (Yields.tt d1 ?_)))))
                        rw [hrec]
                        refine Yields.ite (fun t => ?_) (fun t => ?_)
                        · rw [r1 (htest.symm.trans t)]; exact Yields.some _
                        · have t' : tst = false := htest.symm.trans t
                          have z1' : Yields (fun k => cl env k F_spec_l2Ok [.sl ks, (((T.st [.str s, .int n, .sl ps, .sl is]).fld 2).nth (T.int (q : Int)).i.toNat)]) [.bool c'] := by
                            rw [show (((T.st [.str s, .int n, .sl ps, .sl is]).fld 2).nth (T.int (q : Int)).i.toNat) = ps[q] from hn1]; exact z1
                          refine Yields.obind z1' ?_
                          cases hc' : c' with
                          | false => rw [r2 t' hc']; exact Yields.tt rfl (Yields.some _)
                          | true => rw [r3 t' hc', hnx]; exact Yields.ff rfl y1
                      have impl : ∀ r, (tst = true → r = [T.bool false]) → (tst = false → c' = false → r = [T.bool false]) → (tst = false → c' = true → r = [T.bool c]) →
                          Yields (fun k => l_impl_valueFits_0 (Ra.hl env k fi_impl_valueFits) (.sl ks) (.sl fs) (.sl ps) (.int (ps.length : Int)) (.int (q : Int))) r := by
                        intro r r1 r2 r3
                        refine y_impl_valueFits_0 _ _ _ _ _ (Yields.tt c2 (Yields.tt (in_tt hlt) (Yields.tt (in_tt hlf) ?_)))
                        refine Yields.ite (fun t => ?_) (fun t => ?_)
                        · rw [r1 (htest.symm.trans t)]; exact Yields.some _
                        · have t' : tst = false := htest.symm.trans t
                          have z2' : Yields (fun k => cl env k F_impl_valueFits [.sl ks, ((T.sl ps).nth (T.int (q : Int)).i.toNat)]) [.bool c'] := by rw [hn1]; exact z2
                          refine Yields.obind z2' ?_
                          cases hc' : c' with
                          | false => rw [r2 t' hc']; exact Yields.tt rfl (Yields.some _)
                          | true => rw [r3 t' hc', hnx]; exact Yields.ff rfl y2
                      cases tst with
                      | true => exact ⟨false, spec _ (fun _ => rfl) (fun h => by cases h) (fun h => by cases h), impl _ (fun _ => rfl) (fun h => by cases h) (fun h => by cases h)⟩
                      | false =>
                        cases c' with
                        | false => exact ⟨false, spec _ (fun h => by cases h) (fun _ _ => rfl) (fun _ h => by cases h), impl _ (fun h => by cases h) (fun _ _ => rfl) (fun _ h => by cases h)⟩
                        | true => exact ⟨c, spec _ (fun h => by cases h) (fun _ h => by cases h) (fun _ _ => rfl), impl _ (fun h => by cases h) (fun _ h => by cases h) (fun _ _ => rfl)⟩
                  obtain ⟨c, y1, y2⟩ := key ps.length 0 (by omega)
                  exact ⟨c, fun _ => ⟨y1, y2⟩⟩
                · exact ⟨false, fun h => absurd h hlen⟩
              obtain ⟨c, hloop⟩ := loop
              let res : Bool := is.isEmpty && ((n == 0) && (decide (ps.length = fs.length) && c))
              refine ⟨res, ?_, ?_, fun _ => rfl⟩
              · refine y_spec_l2Ok _ _ (Yields.ff b1 (Yields.ff b2 (Yields.ff b3 (Yields.obind (kind_s s) ?_))))
                rw [hkc]
                refine Yields.ff rfl (Yields.obind hs (Yields.ff rfl ?_))
                show Yields _ [T.bool (is.isEmpty && ((n == 0) && (decide (ps.length = fs.length) && c)))]
                refine Yields.ite (fun q1 => ?_) (fun q1 => ?_)
                · have : (n == 0) = false := by have : (n != 0) = true := q1
                                                simpa using this
                  rw [this, Bool.false_and, Bool.and_false]; exact Yields.some _
                · have : (n == 0) = true := by have : (n != 0) = false := q1
                                               simpa using this
                  rw [this, Bool.true_and, e3]
                  cases his : is.isEmpty with
                  | false => exact Yields.tt rfl (Yields.some _)
                  | true =>
                    refine Yields.ff rfl (Yields.tt (in_tt g1) (Yields.tt (rec_at g2) ?_))
                    have hrec' : ((T.sl ks).nth (((rt (kindR (some (i, j))) 0).i).toNat)).nth (((rt (kindR (some (i, j))) 1).i).toNat) = .st [.int a, .sl fs] := hrec
                    rw [hrec']
                    by_cases hlen : ps.length = fs.length
                    · rw [decide_eq_true hlen]
                      refine Yields.ff ?_ (hloop hlen).1
                      show (((ps.length : Int)) != (fs.length : Int)) = false
                      rw [hlen]; simp
                    · rw [decide_eq_false hlen]
                      refine Yields.tt ?_ (Yields.some _)
                      show (((ps.length : Int)) != (fs.length : Int)) = true
                      rw [bne_iff_ne]; omega
              · refine y_impl_valueFits _ _ ?_
                unfold b_impl_valueFits
                rw [e3]
                show Yields _ [T.bool (is.isEmpty && ((n == 0) && (decide (ps.length = fs.length) && c)))]
                cases his : is.isEmpty with
                | false => exact Yields.tt rfl (Yields.some _)
                | true =>
                  have hro := recOf_i ks hkc hh
                  rw [hr] at hro
                  refine Yields.ff rfl (Yields.obind hpl (Yields.ff rfl (Yields.ff b1 (Yields.ff b2 (Yields.ff b3 (Yields.obind hro ?_))))))
                  refine Yields.ite (fun q1 => ?_) (fun q1 => ?_)
                  · have : (n == 0) = false := by have : (n != 0) = true := q1
                                                  simpa using this
                    rw [this]; exact Yields.some _
                  · have : (n == 0) = true := by have : (n != 0) = false := q1
                                                 simpa using this
                    rw [this]
                    by_cases hlen : ps.length = fs.length
                    · rw [decide_eq_true hlen]
                      refine Yields.ff ?_ (hloop hlen).2
                      show (((ps.length : Int)) != (fs.length : Int)) = false
                      rw [hlen]; simp
                    · rw [decide_eq_false hlen]
                      refine Yields.tt ?_ (Yields.some _)
                      show (((ps.length : Int)) != (fs.length : Int)) = true
                      rw [bne_iff_ne]; omega
end
end Go.Proofs.YtfelodpbejdhlaaGreatDoor.Ra
/- Plain side: vaults and counts; the law. -/
namespace Go.Proofs.YtfelodpbejdhlaaGreatDoor.Ra
open Go

theorem keep_fin : ∀ (a : Fin 16), (andI (a.val : Int) 8 != 0) = (((a.val : Int).tdiv 8).tmod 2 == 1) := by decide +kernel
theorem keep_eq {a : Int} (h0 : 0 ≤ a) (h1 : a ≤ 15) : (andI a 8 != 0) = ((a.tdiv 8).tmod 2 == 1) := by
  have := keep_fin ⟨a.toNat, by omega⟩
  simp only at this
  rwa [Int.toNat_of_nonneg h0] at this

section
variable {ks : List T} {b : Nat}
theorem keep_kin (hk : ∀ x ∈ ks, IsRecs b x) (hb : b ≤ maxLen) (he : Early ks ks.length 0) (v : T) (hv : IsVal b v) : ∃ c, Yields (fun k => cl env k F_spec_l9Kind [.sl ks, v]) [.bool c] ∧ Yields (fun k => cl env k F_impl_keepable [.sl ks, v]) [.bool c] ∧ (c = true → kinB ks (v.fld 0).s = true) := by
  obtain ⟨c, y1, y2, y3⟩ := fits_same hk hb v hv
  obtain ⟨s, n, ps, is, rfl, _⟩ := val_shape hv
  have y3 : c = true → (baseB s || kinB ks s) = true := y3
  cases hkc : kindC s with
  | none =>
    have hkn : kinB ks s = false := by unfold kinB; rw [hkc]
    refine ⟨false, y_spec_l9Kind _ _ (Yields.obind (kind_s s) ?_), y_impl_keepable _ _ (Yields.obind (kin_i ks s) ?_), fun h => by cases h⟩
    · rw [hkc]; exact Yields.ff rfl (Yields.some _)
    · rw [hkn]; exact Yields.ff rfl (Yields.some _)
  | some x =>
    obtain ⟨i, j⟩ := x
    have hnb : baseB s = false := by
      cases hb : baseB s with
      | false => rfl
      | true => rw [base_kind hb] at hkc; cases hkc
    have hkn : kinB ks s = hasB ks i j := by unfold kinB; rw [hkc]
    cases hh : hasB ks i j with
    | false =>
      have hc : c = false := by
        cases c with
        | false => rfl
        | true => have := y3 rfl; rw [hnb, hkn, hh] at this; cases this
      subst hc
      refine ⟨false, y_spec_l9Kind _ _ (Yields.obind (kind_s s) ?_), y_impl_keepable _ _ (Yields.obind (kin_i ks s) ?_), fun h => by cases h⟩
      · rw [hkc]; exact Yields.tt rfl (Yields.obind y1 (Yields.ff rfl (Yields.some _)))
      · rw [hkn, hh]; exact Yields.ff rfl (Yields.some _)
    | true =>
      obtain ⟨g1, g2⟩ := has_two hh
      obtain ⟨a, ha1, ha2⟩ := he i j (.inl g1) g1 g2
      have hro := recOf_i ks hkc hh
      have hab := able_s ks s (by rw [hkn, hh, Bool.or_true])
      have habt : ableT ks s = .int a := by unfold ableT; rw [hkc]; exact ha1
      rw [habt] at hab
      have hkp := keep_eq ha2.1 ha2.2
      refine ⟨c && (andI a 8 != 0), y_spec_l9Kind _ _ (Yields.obind (kind_s s) ?_), y_impl_keepable _ _ (Yields.obind (kin_i ks s) ?_), fun _ => (by show kinB ks s = true; rw [hkn, hh])⟩
      · rw [hkc, hkp]
        refine Yields.tt rfl (Yields.obind y1 ?_)
        cases c with
        | false => exact Yields.ff rfl (Yields.some _)
        | true => exact Yields.tt rfl (Yields.obind hab (Yields.obind (can_s a 8 ha2 (.inr (.inr (.inr rfl)))) (Yields.some _)))
      · rw [hkn, hh]
        refine Yields.tt rfl (Yields.obind hro ?_)
        show Yields (fun k => bif (andI ((((T.sl ks).nth i).nth j).fld 0).i 8 != 0) then obind (cl env k F_impl_valueFits [.sl ks, .st [.str s, .int n, .sl ps, .sl is]]) (fun r3 => some [rt r3 0]) else some [T.bool false]) _
        rw [ha1]
        show Yields (fun k => bif (andI a 8 != 0) then obind (cl env k F_impl_valueFits [.sl ks, .st [.str s, .int n, .sl ps, .sl is]]) (fun r3 => some [rt r3 0]) else some [T.bool false]) _
        cases (andI a 8 != 0) with
        | true => rw [Bool.and_true]; exact Yields.tt rfl (Yields.obind y2 (Yields.some _))
        | false => rw [Bool.and_false]; exact Yields.ff rfl (Yields.some _)

theorem keep_same (hk : ∀ x ∈ ks, IsRecs b x) (hb : b ≤ maxLen) (he : Early ks ks.length 0) (v : T) (hv : IsVal b v) : ∃ c, Yields (fun k => cl env k F_spec_l9Kind [.sl ks, v]) [.bool c] ∧ Yields (fun k => cl env k F_impl_keepable [.sl ks, v]) [.bool c] := by
  obtain ⟨c, y1, y2, _⟩ := keep_kin hk hb he v hv
  exact ⟨c, y1, y2⟩

def KeepOk (ks : List T) (v : T) : Prop := Yields (fun k => cl env k F_spec_l9Kind [.sl ks, v]) [.bool true]
def befB (p : Int) (u : T) (o : Int) (v : T) : Bool := decide (p < o) || ((p == o) && Op.bytesLess (u.fld 0).s.toList (v.fld 0).s.toList)
/-- The j-th record of vaults is one that may stand there. -/
def AtOk (ks es : List T) (j : Nat) : Prop := ∃ (o : Int) (v : T), es[j]? = some (.st [.int o, v]) ∧ 0 ≤ o ∧ o ≤ 3 ∧ KeepOk ks v ∧ kinB ks (v.fld 0).s = true ∧
  (0 < j → ∃ (p : Int) (u : T), es[j - 1]? = some (.st [.int p, u]) ∧ befB p u o v = true)
def ListOk (ks es : List T) : Prop := es.length ≤ 36 ∧ ∀ j, j < es.length → AtOk ks es j

theorem pred_ok {i : Nat} (h : 0 < i) (hi : i ≤ maxLen) : IntKind.wrap .i64 ((T.int (i : Int)).i - (1 : Int)) = ((i - 1 : Nat) : Int) := by
  rw [maxLen_eq] at hi
  show IntKind.wrap .i64 ((i : Int) - 1) = _
  rw [wrap64 (by omega) (by omega)]; omega
theorem before_i (o o' : Int) (v v' : T) : Yields (fun k => cl env k F_impl_vaultBefore [.st [.int o, v], .st [.int o', v']]) [.bool (decide (o < o') || ((o == o') && Op.bytesLess (v.fld 0).s.toList (v'.fld 0).s.toList))] := by
  refine y_impl_vaultBefore _ _ (Yields.ite (fun h => ?_) (fun h => Yields.ite (fun h2 => ?_) (fun h2 => ?_)))
  · rw [show decide (o < o') = true from h, Bool.true_or]; exact Yields.some _
  · rw [show decide (o < o') = false from h, show (o == o') = true from h2, Bool.false_or, Bool.true_and]; exact Yields.some _
  · rw [show decide (o < o') = false from h, show (o == o') = false from h2]; exact Yields.some _

theorem list_same (hk : ∀ x ∈ ks, IsRecs b x) (hb : b ≤ maxLen) (he : Early ks ks.length 0) (es : List T) (hes : ∀ x ∈ es, IsKept b x) (hle : es.length ≤ b) : ∀ (n i : Nat), i + n = es.length →
    ∃ c, Yields (fun k => l_spec_l9Ok_0 (Ra.hl env k fi_spec_l9Ok) (.sl ks) (.sl es) (.int (i : Int))) [.bool c] ∧ ((es.length : Int) > 36 → c = false) ∧
      (¬ (es.length : Int) > 36 → Yields (fun k => l_impl_VaultsOk_0 (Ra.hl env k fi_impl_VaultsOk) (.sl ks) (.sl es) (.sl es) (.int (es.length : Int)) (.int (i : Int))) [.bool c]) ∧
      (c = true ↔ es.length ≤ 36 ∧ ∀ j, i ≤ j → j < es.length → AtOk ks es j) := by
  intro n
  induction n with
  | zero =>
    intro i hi
    refine ⟨decide ((es.length : Int) ≤ 36), y_spec_l9Ok_0 _ _ _ (Yields.ff (lt_ff (by omega)) (Yields.some _)), fun h => decide_eq_false (by omega), fun h => y_impl_VaultsOk_0 _ _ _ _ _ (Yields.ff ?_ ?_), ?_⟩
    · rw [lt_nat]; exact decide_eq_false (by omega)
    · rw [decide_eq_true (by omega)]; exact Yields.some _
    · rw [decide_eq_true_eq]; exact ⟨fun h => ⟨by omega, fun j h1 h2 => by omega⟩, fun h => by omega⟩
  | succ n ih =>
    intro i hi
    have hlt : i < es.length := by omega
    have hnx := next_ok hlt (Nat.le_trans hle hb)
    obtain ⟨o, v, hx, ho1, ho2, hv⟩ := hes _ (List.getElem_mem hlt)
    have hnth : ((T.sl es).nth (T.int (i : Int)).i.toNat) = .st [.int o, v] := by rw [idx_ok hlt, hx]
    have c1 : decide ((T.int (i : Int)).i < (T.int (es.length : Int)).i) = true := by rw [lt_nat]; exact decide_eq_true hlt
    obtain ⟨c, y1, y2, y3, y4⟩ := ih (i + 1) (by omega)
    obtain ⟨d, k1, k2, k3⟩ := keep_kin hk hb he v hv
    -- what follows when the vault's own test is passed
    let ord : Bool := if h : 0 < i then
      (match es[i - 1]'(by omega) with
        | .st [.int p, u] => decide (p < o) || ((p == o) && Op.bytesLess (u.fld 0).s.toList (v.fld 0).s.toList)
        | _ => false) else true
    let own : Bool := (decide (o ≥ 0) && decide (o ≤ 3)) && d
    have res : ∃ c', (own = false → c' = false) ∧ (own = true → ord = false → c' = false) ∧ (own = true → ord = true → c' = c) ∧ (c' = true → own = true ∧ ord = true ∧ c = true) := by
      cases own with
      | false => exact ⟨false, (fun _ => rfl), (fun h => by cases h), (fun h => by cases h), (fun h => by cases h)⟩
      | true =>
        cases ord with
        | false => exact ⟨false, (fun h => by cases h), (fun _ _ => rfl), (fun _ h => by cases h), (fun h => by cases h)⟩
        | true => exact ⟨c, (fun h => by cases h), (fun _ h => by cases h), (fun _ _ => rfl), (fun h => ⟨rfl, rfl, h⟩)⟩
    obtain ⟨c', q1, q2, q3, q4⟩ := res
    have hown : own = ((decide (o ≥ 0) && decide (o ≤ 3)) && d) := rfl
    have hprev : 0 < i → ∃ (p : Int) (u : T), ((T.sl es).nth ((IntKind.wrap .i64 ((T.int (i : Int)).i - (1 : Int))).toNat)) = .st [.int p, u] ∧ ord = (decide (p < o) || ((p == o) && Op.bytesLess (u.fld 0).s.toList (v.fld 0).s.toList)) ∧
        (decide (0 ≤ (IntKind.wrap .i64 ((T.int (i : Int)).i - (1 : Int)))) && decide ((IntKind.wrap .i64 ((T.int (i : Int)).i - (1 : Int))).toNat < (T.sl es).es.length)) = true := by
      intro h0
      obtain ⟨p, u, hp, _⟩ := hes _ (List.getElem_mem (show i - 1 < es.length by omega))
      rw [pred_ok h0 (by omega)]
      refine ⟨p, u, ?_, ?_, ?_⟩
      · rw [Int.toNat_natCast, nth_lt (by omega), hp]
      · show (if h : 0 < i then _ else true) = _
        rw [dif_pos h0, hp]
      · rw [Bool.and_eq_true]
        refine ⟨decide_eq_true (by omega), decide_eq_true ?_⟩
        rw [Int.toNat_natCast]; show i - 1 < es.length; omega
    have hfirst : ¬ 0 < i → ord = true := fun h => by show (if h : 0 < i then _ else true) = true; rw [dif_neg h]
    have hat : own = true ∧ ord = true ↔ AtOk ks es i := by
      constructor
      · intro ⟨h1, h2⟩
        rw [hown, Bool.and_eq_true, Bool.and_eq_true, decide_eq_true_eq, decide_eq_true_eq] at h1
        obtain ⟨⟨g1, g2⟩, g3⟩ := h1
        subst g3
        refine ⟨o, v, by rw [List.getElem?_eq_getElem hlt, hx], g1, g2, k1, k3 rfl, fun h0 => ?_⟩
        obtain ⟨p, u, hp, _⟩ := hes _ (List.getElem_mem (show i - 1 < es.length by omega))
        refine ⟨p, u, by rw [List.getElem?_eq_getElem (by omega), hp], ?_⟩
        have h2' : (if h : 0 < i then _ else true) = true := h2
        rw [dif_pos h0, hp] at h2'
        exact h2'
      · intro ⟨o', v', g0, g1, g2, g3, _, g4⟩
        rw [List.getElem?_eq_getElem hlt, hx] at g0
        cases g0
        have hd : d = true := by have := Yields.uniq k1 g3; cases this; rfl
        refine ⟨by rw [hown, decide_eq_true g1, decide_eq_true g2, hd]; rfl, ?_⟩
        show (if h : 0 < i then _ else true) = true
        by_cases h0 : 0 < i
        · rw [dif_pos h0]
          obtain ⟨p, u, hp, hb⟩ := g4 h0
          rw [List.getElem?_eq_getElem (by omega)] at hp
          rw [Option.some.inj hp]; exact hb
        · rw [dif_neg h0]
    refine ⟨c', ?_, fun h36 => ?_, fun h36 => ?_, ?_⟩
    rotate_left 3
    · constructor
      · intro h
        obtain ⟨h1, h2, h3⟩ := q4 h
        obtain ⟨h4, h5⟩ := y4.1 h3
        refine ⟨h4, fun j hj hj2 => ?_⟩
        by_cases hji : j = i
        · subst hji; exact hat.1 ⟨h1, h2⟩
        · exact h5 j (by omega) hj2
      · intro ⟨h4, h5⟩
        obtain ⟨h1, h2⟩ := hat.2 (h5 i (by omega) hlt)
        rw [q3 h1 h2]
        exact y4.2 ⟨h4, fun j hj hj2 => h5 j (by omega) hj2⟩
    · refine y_spec_l9Ok_0 _ _ _ (Yields.tt (lt_tt hlt) (Yields.tt (in_tt hlt) ?_))
      rw [hnth]
      refine Yields.obind (in_s o 0 3) ?_
      cases hin : (decide (o ≥ 0) && decide (o ≤ 3)) with
      | false => rw [q1 (by rw [hown, hin]; rfl)]; exact Yields.tt rfl (Yields.some _)
      | true =>
        refine Yields.ff rfl (Yields.obind k1 ?_)
        cases hd : d with
        | false => rw [q1 (by rw [hown, hin, hd]; rfl)]; exact Yields.tt rfl (Yields.some _)
        | true =>
          have ho : own = true := by rw [hown, hin, hd]; rfl
          refine Yields.ff rfl (Yields.ite (fun e => ?_) (fun e => ?_))
          · have h0 : 0 < i := by have : (i : Int) > 0 := of_decide_eq_true e
                                  omega
            obtain ⟨p, u, hp1, hp2, hp3⟩ := hprev h0
            refine Yields.tt hp3 ?_
            rw [hp1]
            refine Yields.ite (fun e1 => ?_) (fun e1 => Yields.ite (fun e2 => Yields.ite (fun e3 => ?_) (fun e3 => ?_)) (fun e2 => ?_))
            · have e1' : p > o := of_decide_eq_true e1
              rw [q2 ho (by rw [hp2, decide_eq_false (by omega : ¬ p < o), show (p == o) = false from beq_eq_false_iff_ne.2 (by omega)]; rfl)]; exact Yields.some _
            · have e2' : (p == o) = true := e2
              have e3' : (!Op.bytesLess (u.fld 0).s.toList (v.fld 0).s.toList) = true := e3
              have e1' : ¬ p > o := of_decide_eq_false e1
              have hpo : p = o := by simpa using e2'
              rw [q2 ho (by rw [hp2, decide_eq_false (by omega : ¬ p < o), e2', Bool.true_and, Bool.false_or]; simpa using e3')]; exact Yields.some _
            · have e2' : (p == o) = true := e2
              have e3' : (!Op.bytesLess (u.fld 0).s.toList (v.fld 0).s.toList) = false := e3
              rw [q3 ho (by rw [hp2, e2', Bool.true_and]; simp only [Bool.not_eq_false'] at e3'; rw [e3', Bool.or_true]), hnx]; exact y1
            · have e2' : (p == o) = false := e2
              have e1' : ¬ p > o := of_decide_eq_false e1
              have hpo : ¬ p = o := by simpa using e2'
              rw [q3 ho (by rw [hp2, decide_eq_true (by omega : p < o), Bool.true_or]), hnx]; exact y1
          · have h0 : ¬ 0 < i := by have : ¬ (i : Int) > 0 := of_decide_eq_false e
                                    omega
            rw [q3 ho (hfirst h0), hnx]; exact y1
    · by_cases ho : own = true
      · by_cases hor : ord = true
        · rw [q3 ho hor]; exact y2 h36
        · exact q2 ho (eq_false_of_ne_true hor)
      · exact q1 (eq_false_of_ne_true ho)
    · refine y_impl_VaultsOk_0 _ _ _ _ _ (Yields.tt c1 (Yields.tt (in_tt hlt) ?_))
      rw [hnth]
      have stop : (decide (o ≥ 0) && decide (o ≤ 3)) = false → Yields (fun _ => some [T.bool false]) [T.bool c'] := fun h => by rw [q1 (by rw [hown, h]; rfl)]; exact Yields.some _
      refine Yields.ite (fun e => ?_) (fun e => Yields.ite (fun e2 => ?_) (fun e2 => ?_))
      · have e' : o < 0 := of_decide_eq_true e
        exact stop (by rw [decide_eq_false (by omega : ¬ o ≥ 0)]; rfl)
      · have e' : o ≥ 4 := of_decide_eq_true e2
        exact stop (by rw [decide_eq_false (by omega : ¬ o ≤ 3), Bool.and_false])
      · have e' : ¬ o < 0 := of_decide_eq_false e
        have e2' : ¬ o ≥ 4 := of_decide_eq_false e2
        have hin : (decide (o ≥ 0) && decide (o ≤ 3)) = true := by rw [decide_eq_true (by omega : o ≥ 0), decide_eq_true (by omega : o ≤ 3)]; rfl
        refine Yields.obind k2 ?_
        cases hd : d with
        | false => rw [q1 (by rw [hown, hin, hd]; rfl)]; exact Yields.tt rfl (Yields.some _)
        | true =>
          have ho : own = true := by rw [hown, hin, hd]; rfl
          refine Yields.ff rfl (Yields.ite (fun e => ?_) (fun e => ?_))
          · have h0 : 0 < i := by have : (i : Int) > 0 := of_decide_eq_true e
                                  omega
            obtain ⟨p, u, hp1, hp2, hp3⟩ := hprev h0
            refine Yields.tt hp3 ?_
            rw [hp1]
            have hbf := before_i p o u v
            rw [← hp2] at hbf
            refine Yields.obind hbf ?_
            cases hor : ord with
            | false => rw [q2 ho hor]; exact Yields.tt rfl (Yields.some _)
            | true => rw [q3 ho hor, hnx]; exact Yields.ff rfl (y3 h36)
          · have h0 : ¬ 0 < i := by have : ¬ (i : Int) > 0 := of_decide_eq_false e
                                    omega
            rw [q3 ho (hfirst h0), hnx]; exact y3 h36
end

end Go.Proofs.YtfelodpbejdhlaaGreatDoor.Ra
/- Plain side: modules: sizes, copies, equality. -/
namespace Go.Proofs.YtfelodpbejdhlaaGreatDoor.Ra
open Go

def IsIns (t : T) : Prop := ∃ (s : ByteArray) (a b : Int), t = .st [.str s, .int a, .int b] ∧ s.size ≤ maxLen
def IsNums (is : List T) : Prop := ∀ x ∈ is, ∃ m : Int, x = .int m
inductive IsFunc (b : Nat) : T → Prop
  | mk {n : Int} {ags rs ls tk cd : List T} : ags.length ≤ b → rs.length ≤ b → ls.length ≤ b → tk.length ≤ b → cd.length ≤ b → (∀ x ∈ ags, IsStr x) → (∀ x ∈ rs, IsStr x) → (∀ x ∈ ls, IsStr x) → IsNums tk →
      (∀ x ∈ cd, IsIns x) → IsFunc b (.st [.int n, .sl ags, .sl rs, .sl ls, .sl tk, .sl cd])
inductive IsMod (b : Nat) : T → Prop
  | mk {rs fs fr : List T} : IsRecs b (.sl rs) → fs.length ≤ b → (∀ x ∈ fs, IsFunc b x) → fr.length ≤ b → IsNums fr → IsMod b (.st [.sl rs, .sl fs, .sl fr])
def IsShelf (b : Nat) (t : T) : Prop := ∃ ms : List T, t = .sl ms ∧ ms.length ≤ b ∧ ∀ x ∈ ms, IsMod b x
def IsInss (b : Nat) (t : T) : Prop := ∃ ms : List T, t = .sl ms ∧ ms.length ≤ b ∧ ∀ x ∈ ms, IsIns x
def IsFuncs (b : Nat) (t : T) : Prop := ∃ ms : List T, t = .sl ms ∧ ms.length ≤ b ∧ ∀ x ∈ ms, IsFunc b x

/- ---- sizes ---- -/
theorem sz_ins : SzOk F_laws_szIns (fun _ => IsIns) := by
  rintro t left ⟨s, a, b, rfl, hs⟩ h0 hl
  have hw : IntKind.wrap .i64 ((T.int left).i - ((((T.st [.str s, .int a, .int b]).fld 0).s).size : Int)) = left - (s.size : Int) := sub_ok h0 hl hs
  by_cases hn : left - (s.size : Int) < 0
  · refine ⟨-1, y_laws_szIns _ _ (Yields.tt ?_ (Yields.some _)), by omega, by omega, fun h => by omega⟩
    rw [hw]; exact decide_eq_true hn
  · refine ⟨left - s.size, y_laws_szIns _ _ (Yields.ff ?_ ?_), by omega, by omega, fun _ => ⟨⟨s, a, b, rfl, hs⟩, by simp only [T.wt, T.wts]; omega⟩⟩
    · rw [hw]; exact decide_eq_false hn
    · rw [hw]; exact Yields.some _
theorem sz_inss : SzOk F_laws_szInsS IsInss :=
  sz_slice (L := fun k => l_laws_szInsS_0 (hl env k fi_laws_szInsS)) sz_ins (fun a0 a1 r h => y_laws_szInsS a0 a1 h) (fun x1 x2 x3 r h => y_laws_szInsS_0 x1 x2 x3 h)
theorem sz_func : SzOk F_laws_szFunc IsFunc := by
  rintro t left h h0 hl
  cases h with
  | @mk n ags rs ls tk cd h1 h2 h3 h4 h5 g1 g2 g3 g4 g5 =>
    obtain ⟨n1, y1, a1, b1, c1⟩ := sz_str ags left h1 g1 h0 hl
    by_cases e1 : n1 < 0
    · exact ⟨-1, y_laws_szFunc _ _ (Yields.obind y1 (Yields.tt (decide_eq_true e1) (Yields.some _))), by omega, by omega, fun h => by omega⟩
    have e1 := decide_eq_false e1
    have p1 := of_decide_eq_false e1
    obtain ⟨n2, y2, a2, b2, c2⟩ := sz_str rs n1 h2 g2 (by omega) (by omega)
    by_cases e2 : n2 < 0
    · exact ⟨-1, y_laws_szFunc _ _ (Yields.obind y1 (Yields.ff e1 (Yields.obind y2 (Yields.tt (decide_eq_true e2) (Yields.some _))))), by omega, by omega, fun h => by omega⟩
    have e2 := decide_eq_false e2
    have p2 := of_decide_eq_false e2
    obtain ⟨n3, y3, a3, b3, c3⟩ := sz_str ls n2 h3 g3 (by omega) (by omega)
    by_cases e3 : n3 < 0
    · exact ⟨-1, y_laws_szFunc _ _ (Yields.obind y1 (Yields.ff e1 (Yields.obind y2 (Yields.ff e2 (Yields.obind y3 (Yields.tt (decide_eq_true e3) (Yields.some _))))))), by omega, by omega, fun h => by omega⟩
    have e3 := decide_eq_false e3
    have p3 := of_decide_eq_false e3
    obtain ⟨n4, y4, a4, b4, c4⟩ := sz_int tk n3 h4 (by omega) (by omega)
    by_cases e4 : n4 < 0
    · exact ⟨-1, y_laws_szFunc _ _ (Yields.obind y1 (Yields.ff e1 (Yields.obind y2 (Yields.ff e2 (Yields.obind y3 (Yields.ff e3 (Yields.obind y4 (Yields.tt (decide_eq_true e4) (Yields.some _))))))))), by omega, by omega, fun h => by omega⟩
    have e4 := decide_eq_false e4
    have p4 := of_decide_eq_false e4
    obtain ⟨n5, y5, a5, b5, c5⟩ := sz_inss (.sl cd) n4 ⟨cd, rfl, h5, g5⟩ (by omega) (by omega)
    by_cases e5 : n5 < 0
    · exact ⟨-1, y_laws_szFunc _ _ (Yields.obind y1 (Yields.ff e1 (Yields.obind y2 (Yields.ff e2 (Yields.obind y3 (Yields.ff e3 (Yields.obind y4 (Yields.ff e4 (Yields.obind y5 (Yields.tt (decide_eq_true e5) (Yields.some _))))))))))), by omega, by omega, fun h => by omega⟩
    refine ⟨n5, y_laws_szFunc _ _ (Yields.obind y1 (Yields.ff e1 (Yields.obind y2 (Yields.ff e2 (Yields.obind y3 (Yields.ff e3 (Yields.obind y4 (Yields.ff e4 (Yields.obind y5 (Yields.ff (decide_eq_false e5) (Yields.some _))))))))))), a5, by omega, fun h => ?_⟩
    obtain ⟨q1, w1⟩ := c1 (by omega)
    obtain ⟨q2, w2⟩ := c2 (by omega)
    obtain ⟨q3, w3⟩ := c3 (by omega)
    obtain ⟨q4, w4⟩ := c4 (by omega)
    obtain ⟨⟨cd', hq, q5, _⟩, w5⟩ := c5 (by omega)
    cases hq
    refine ⟨.mk q1 q2 q3 q4 q5 g1 g2 g3 g4 g5, ?_⟩
    simp only [T.wt, T.wts, wts_strs g1, wts_strs g2, wts_strs g3, wts_ints g4] at w5 ⊢
    omega
theorem sz_funcs : SzOk F_laws_szFuncS IsFuncs :=
  sz_slice (L := fun k => l_laws_szFuncS_0 (hl env k fi_laws_szFuncS)) sz_func (fun a0 a1 r h => y_laws_szFuncS a0 a1 h) (fun x1 x2 x3 r h => y_laws_szFuncS_0 x1 x2 x3 h)
theorem sz_mod : SzOk F_laws_szModule IsMod := by
  rintro t left h h0 hl
  cases h with
  | @mk rs fs fr h1 h2 g2 h3 g3 =>
    obtain ⟨n1, y1, a1, b1, c1⟩ := sz_recs (.sl rs) left h1 h0 hl
    by_cases e1 : n1 < 0
    · exact ⟨-1, y_laws_szModule _ _ (Yields.obind y1 (Yields.tt (decide_eq_true e1) (Yields.some _))), by omega, by omega, fun h => by omega⟩
    have e1 := decide_eq_false e1
    have p1 := of_decide_eq_false e1
    obtain ⟨n2, y2, a2, b2, c2⟩ := sz_funcs (.sl fs) n1 ⟨fs, rfl, h2, g2⟩ (by omega) (by omega)
    by_cases e2 : n2 < 0
    · exact ⟨-1, y_laws_szModule _ _ (Yields.obind y1 (Yields.ff e1 (Yields.obind y2 (Yields.tt (decide_eq_true e2) (Yields.some _))))), by omega, by omega, fun h => by omega⟩
    have e2 := decide_eq_false e2
    have p2 := of_decide_eq_false e2
    obtain ⟨n3, y3, a3, b3, c3⟩ := sz_int fr n2 h3 (by omega) (by omega)
    by_cases e3 : n3 < 0
    · exact ⟨-1, y_laws_szModule _ _ (Yields.obind y1 (Yields.ff e1 (Yields.obind y2 (Yields.ff e2 (Yields.obind y3 (Yields.tt (decide_eq_true e3) (Yields.some _))))))), by omega, by omega, fun h => by omega⟩
    refine ⟨n3, y_laws_szModule _ _ (Yields.obind y1 (Yields.ff e1 (Yields.obind y2 (Yields.ff e2 (Yields.obind y3 (Yields.ff (decide_eq_false e3) (Yields.some _))))))), a3, by omega, fun h => ?_⟩
    obtain ⟨q1, w1⟩ := c1 (by omega)
    obtain ⟨⟨fs', hq, q2, g2'⟩, w2⟩ := c2 (by omega)
    obtain ⟨q3, w3⟩ := c3 (by omega)
    cases hq
    refine ⟨.mk q1 q2 g2' q3 g3, ?_⟩
    simp only [T.wt, T.wts, wts_ints g3] at w1 w2 ⊢
    omega
theorem sz_shelf : SzOk F_laws_szModuleS IsShelf :=
  sz_slice (L := fun k => l_laws_szModuleS_0 (hl env k fi_laws_szModuleS)) sz_mod (fun a0 a1 r h => y_laws_szModuleS a0 a1 h) (fun x1 x2 x3 r h => y_laws_szModuleS_0 x1 x2 x3 h)
theorem sz_vals : SzOk F_laws_szValueS IsVals :=
  sz_slice (L := fun k => l_laws_szValueS_0 (hl env k fi_laws_szValueS)) (p := IsVal) (fun t left h h0 h1 => sz_val t h left h0 h1) (fun a0 a1 r h => y_laws_szValueS a0 a1 h) (fun x1 x2 x3 r h => y_laws_szValueS_0 x1 x2 x3 h)

/- ---- copies ---- -/
theorem to_ins : ToOk F_laws_toIns IsIns := by
  rintro t ⟨s, a, b, rfl, _⟩
  exact y_laws_toIns _ (Yields.some _)
theorem to_inss (t : T) (h : IsInss BB t) : Yields (fun k => cl env k F_laws_toInsS [t]) [t] := by
  obtain ⟨ks, rfl, hlen, hk⟩ := h
  exact to_slice (L := fun k => l_laws_toInsS_0 (hl env k fi_laws_toInsS)) (p := IsIns) (put := fun t => t)
    (fun t _ => rfl) (fun a0 r h => y_laws_toInsS a0 h) (fun x1 x2 x3 r h => y_laws_toInsS_0 x1 x2 x3 h) ks hlen fun t ht => ⟨hk t ht, to_ins t (hk t ht)⟩
theorem to_func : ToOk F_laws_toFunc (IsFunc BB) := by
  rintro t h
  cases h with
  | @mk n ags rs ls tk cd h1 h2 h3 h4 h5 g1 g2 g3 g4 g5 =>
    exact y_laws_toFunc _ (Yields.obind (to_str ags h1) (Yields.obind (to_str rs h2) (Yields.obind (to_str ls h3) (Yields.obind (to_int tk h4) (Yields.obind (to_inss (.sl cd) ⟨cd, rfl, h5, g5⟩) (Yields.some _))))))
theorem to_funcs (t : T) (h : IsFuncs BB t) : Yields (fun k => cl env k F_laws_toFuncS [t]) [t] := by
  obtain ⟨ks, rfl, hlen, hk⟩ := h
  exact to_slice (L := fun k => l_laws_toFuncS_0 (hl env k fi_laws_toFuncS)) (p := IsFunc BB) (put := fun t => T.st [t.fld 0, t.fld 1, t.fld 2, t.fld 3, t.fld 4, t.fld 5])
    (fun t ht => by cases ht; rfl) (fun a0 r h => y_laws_toFuncS a0 h) (fun x1 x2 x3 r h => y_laws_toFuncS_0 x1 x2 x3 h) ks hlen fun t ht => ⟨hk t ht, to_func t (hk t ht)⟩
theorem to_mod : ToOk F_laws_toModule (IsMod BB) := by
  rintro t h
  cases h with
  | @mk rs fs fr h1 h2 g2 h3 g3 => exact y_laws_toModule _ (Yields.obind (to_recs (.sl rs) h1) (Yields.obind (to_funcs (.sl fs) ⟨fs, rfl, h2, g2⟩) (Yields.obind (to_int fr h3) (Yields.some _))))
theorem to_shelf (t : T) (h : IsShelf BB t) : Yields (fun k => cl env k F_laws_toModuleS [t]) [t] := by
  obtain ⟨ks, rfl, hlen, hk⟩ := h
  exact to_slice (L := fun k => l_laws_toModuleS_0 (hl env k fi_laws_toModuleS)) (p := IsMod BB) (put := fun t => T.st [t.fld 0, t.fld 1, t.fld 2])
    (fun t ht => by cases ht; rfl) (fun a0 r h => y_laws_toModuleS a0 h) (fun x1 x2 x3 r h => y_laws_toModuleS_0 x1 x2 x3 h) ks hlen fun t ht => ⟨hk t ht, to_mod t (hk t ht)⟩
theorem to_vals (t : T) (h : IsVals BB t) : Yields (fun k => cl env k F_laws_toValueS [t]) [t] := by
  obtain ⟨ks, rfl, hlen, hk⟩ := h
  exact to_slice (L := fun k => l_laws_toValueS_0 (hl env k fi_laws_toValueS)) (p := IsVal BB) (put := fun t => T.st [t.fld 0, t.fld 1, t.fld 2, t.fld 3])
    (fun t ht => by cases ht; rfl) (fun a0 r h => y_laws_toValueS a0 h) (fun x1 x2 x3 r h => y_laws_toValueS_0 x1 x2 x3 h) ks hlen fun t ht => ⟨hk t ht, to_val t (hk t ht)⟩

/- ---- equality ---- -/
theorem eq_ins (t : T) (h : IsIns t) : Yields (fun k => cl env k F_laws_eqIns [t, t]) [.bool true] := by
  obtain ⟨s, a, b, rfl, _⟩ := h
  exact y_laws_eqIns _ _ (Yields.ff (nse_self _) (Yields.ff (ne_self _) (Yields.ff (ne_self _) (Yields.some _))))
theorem eq_inss (cd : List T) (h : cd.length ≤ BB) (hi : ∀ x ∈ cd, IsIns x) : Yields (fun k => cl env k F_laws_eqInsS [.sl cd, .sl cd]) [.bool true] :=
  y_laws_eqInsS _ _ (Yields.ff (ne_self _) (eq_loop (F := F_laws_eqIns) (L := fun k => l_laws_eqInsS_0 (hl env k fi_laws_eqInsS)) (fun x1 x2 x3 r h => y_laws_eqInsS_0 x1 x2 x3 h) cd (bb_max h) fun t ht => eq_ins t (hi t ht)))
theorem eq_func (t : T) (h : IsFunc BB t) : Yields (fun k => cl env k F_laws_eqFunc [t, t]) [.bool true] := by
  cases h with
  | @mk n ags rs ls tk cd h1 h2 h3 h4 h5 g1 g2 g3 g4 g5 =>
    exact y_laws_eqFunc _ _ (Yields.ff (ne_self _) (Yields.obind (eq_str ags (bb_max h1)) (Yields.ff rfl (Yields.obind (eq_str rs (bb_max h2)) (Yields.ff rfl (Yields.obind (eq_str ls (bb_max h3)) (Yields.ff rfl (Yields.obind (eq_int tk (bb_max h4)) (Yields.ff rfl
      (Yields.obind (eq_inss cd h5 g5) (Yields.ff rfl (Yields.some _))))))))))))
theorem eq_mod (t : T) (h : IsMod BB t) : Yields (fun k => cl env k F_laws_eqModule [t, t]) [.bool true] := by
  cases h with
  | @mk rs fs fr h1 h2 g2 h3 g3 =>
    have hf : Yields (fun k => cl env k F_laws_eqFuncS [.sl fs, .sl fs]) [.bool true] :=
      y_laws_eqFuncS _ _ (Yields.ff (ne_self _) (eq_loop (F := F_laws_eqFunc) (L := fun k => l_laws_eqFuncS_0 (hl env k fi_laws_eqFuncS)) (fun x1 x2 x3 r h => y_laws_eqFuncS_0 x1 x2 x3 h) fs (bb_max h2) fun t ht => eq_func t (g2 t ht)))
    exact y_laws_eqModule _ _ (Yields.obind (eq_recs _ h1) (Yields.ff rfl (Yields.obind hf (Yields.ff rfl (Yields.obind (eq_int fr (bb_max h3)) (Yields.ff rfl (Yields.some _)))))))
theorem eq_shelf (t : T) (h : IsShelf BB t) : Yields (fun k => cl env k F_laws_eqModuleS [t, t]) [.bool true] := by
  obtain ⟨ks, rfl, hlen, hk⟩ := h
  exact y_laws_eqModuleS _ _ (Yields.ff (ne_self _) (eq_loop (F := F_laws_eqModule) (L := fun k => l_laws_eqModuleS_0 (hl env k fi_laws_eqModuleS)) (fun x1 x2 x3 r h => y_laws_eqModuleS_0 x1 x2 x3 h) ks (bb_max hlen) fun t ht => eq_mod t (hk t ht)))
theorem eq_vals (t : T) (h : IsVals BB t) : Yields (fun k => cl env k F_laws_eqValueS [t, t]) [.bool true] := by
  obtain ⟨ks, rfl, hlen, hk⟩ := h
  exact y_laws_eqValueS _ _ (Yields.ff (ne_self _) (eq_loop (F := F_laws_eqValue) (L := fun k => l_laws_eqValueS_0 (hl env k fi_laws_eqValueS)) (fun x1 x2 x3 r h => y_laws_eqValueS_0 x1 x2 x3 h) ks (bb_max hlen) fun t ht => eq_val t (hk t ht)))
end Go.Proofs.YtfelodpbejdhlaaGreatDoor.Ra
/- Plain side: instructions, types, functions, shelves: both sides say the same. -/
namespace Go.Proofs.YtfelodpbejdhlaaGreatDoor.Ra
open Go

/- ---- loops that ask each ---- -/
def allF (t : Nat → Bool) : Nat → Nat → Bool
  | _, 0 => true
  | i, m + 1 => t i && allF t (i + 1) m
theorem allF_true {t : Nat → Bool} : ∀ {m i : Nat}, allF t i m = true → ∀ j, i ≤ j → j < i + m → t j = true
  | 0, i, _, j, h1, h2 => by omega
  | m + 1, i, h, j, h1, h2 => by
    simp only [allF, Bool.and_eq_true] at h
    by_cases hj : j = i
    · subst hj; exact h.1
    · exact allF_true h.2 j (by omega) (by omega)
/-- Each is asked; the first no ends all. -/
theorem ask_each {A : Nat → Nat → R} {n : Nat} {t : Nat → Bool} {r : List T} (step : ∀ i, i < n → (t i = false → r = [T.bool false]) → (t i = true → Yields (A (i + 1)) r) → Yields (A i) r)
    (yes : allF t 0 n = true → Yields (A n) r) (no : allF t 0 n = false → r = [T.bool false]) : Yields (A 0) r := by
  have key : ∀ m i, i + m = n → (allF t i m = true → Yields (A n) r) → (allF t i m = false → r = [T.bool false]) → Yields (A i) r := by
    intro m
    induction m with
    | zero => intro i hi hy _; have : i = n := by omega
              subst this; exact hy rfl
    | succ m ih =>
      intro i hi hy hn
      refine step i (by omega) (fun h => hn (by simp only [allF, h, Bool.false_and])) fun h => ih (i + 1) (by omega) (fun h2 => hy (by simp only [allF, h, h2, Bool.and_self])) fun h2 => hn (by simp only [allF, h, h2, Bool.and_false])
  exact key n 0 (by omega) yes no
theorem ask_all {A : Nat → Nat → R} {n : Nat} {t : Nat → Bool} {e : Bool} (step : ∀ i, i < n → ∀ r, (t i = false → r = [T.bool false]) → (t i = true → Yields (A (i + 1)) r) → Yields (A i) r)
    (stop : Yields (A n) [.bool e]) : Yields (A 0) [.bool (allF t 0 n && e)] := by
  refine ask_each (t := t) (fun i hi h1 h2 => step i hi _ h1 h2) (fun h => ?_) fun h => ?_
  · rw [h, Bool.true_and]; exact stop
  · rw [h, Bool.false_and]
open Classical in
/-- What a call that answers a bool says. -/
noncomputable def yB (X : Nat → R) : Bool := if Yields X [.bool true] then true else false
theorem yB_eq {X : Nat → R} {c : Bool} (h : Yields X [.bool c]) : yB X = c := by
  unfold yB
  cases c with
  | true => exact if_pos h
  | false => exact if_neg fun h' => by have := Yields.uniq h h'; cases this
theorem yB_of {X : Nat → R} {c : Bool} (h : Yields X [.bool c]) : Yields X [.bool (yB X)] := by rw [yB_eq h]; exact h

/- ---- instructions ---- -/
noncomputable def insTab : T := ((b_spec_l3Table (fun _ _ => none) (fun _ _ => none)).getD []).headD (.int 0)
theorem forms_s : Yields (fun k => cl env k F_spec_l3Table []) [insTab] := y_spec_l3Table (Yields.some _)
set_option maxRecDepth 100000 in
theorem forms_i0 : ∀ k, cl env (k + 40) F_impl_insForms [] = some [insTab] := fun k => by kernel_rfl
theorem forms_i : Yields (fun k => cl env k F_impl_insForms []) [insTab] := ⟨40, fun k hk => by obtain ⟨j, rfl⟩ : ∃ j, k = j + 40 := ⟨k - 40, by omega⟩; exact forms_i0 j⟩
def smallB (x : T) : Bool := decide (0 ≤ (x.fld 1).i) && decide ((x.fld 1).i ≤ 2000000) && (decide (0 ≤ (x.fld 2).i) && decide ((x.fld 2).i ≤ 2000000))
theorem tab_small : (insTab.es.all smallB && decide (insTab.es.length ≤ 100)) = true := by kernel_rfl
theorem tab_sl : insTab = .sl insTab.es := by kernel_rfl
def zeroI : T := .st [.str ⟨#[]⟩, .int 0, .int 0]
theorem needs_same (s : ByteArray) : ∃ (x : T) (b : Bool), Yields (fun k => cl env k F_spec_l3Needs [.str s]) [x, .bool b] ∧ Yields (fun k => cl env k F_impl_formOf [.str s]) [x, .bool b] ∧ smallB x = true := by
  have hall := tab_small
  rw [Bool.and_eq_true, List.all_eq_true, decide_eq_true_eq] at hall
  obtain ⟨hsm, hlen⟩ := hall
  have f1 := forms_s
  have f2 := forms_i
  rw [tab_sl] at f1 f2
  generalize insTab.es = es at *
  have key : ∀ (m i : Nat), i + m = es.length → ∃ (x : T) (b : Bool), Yields (fun k => l_spec_l3Needs_0 (hl env k fi_spec_l3Needs) (.str s) (.int (i : Int)) zeroI (.sl es)) [x, .bool b] ∧
      Yields (fun k => l_impl_formOf_0 (hl env k fi_impl_formOf) (.str s) (.int (es.length : Int)) (.int (i : Int)) zeroI (.sl es)) [x, .bool b] ∧ smallB x = true := by
    intro m
    induction m with
    | zero =>
      intro i hi
      refine ⟨zeroI, false, y_spec_l3Needs_0 _ _ _ _ (Yields.ff (lt_ff (by omega)) (Yields.some _)), y_impl_formOf_0 _ _ _ _ _ (Yields.ff ?_ (Yields.some _)), rfl⟩
      rw [lt_nat]; exact decide_eq_false (by omega)
    | succ m ih =>
      intro i hi
      have hlt : i < es.length := by omega
      have c1 : decide ((T.int (i : Int)).i < (T.int (es.length : Int)).i) = true := by rw [lt_nat]; exact decide_eq_true hlt
      have hn := next_ok hlt (by rw [maxLen_eq]; omega)
      cases hc : ((((T.sl es).nth (T.int (i : Int)).i.toNat).fld 0).s.toList == (T.str s).s.toList) with
      | true =>
        refine ⟨_, true, y_spec_l3Needs_0 _ _ _ _ (Yields.tt (lt_tt hlt) (Yields.tt (in_tt hlt) (Yields.tt hc (Yields.some _)))), y_impl_formOf_0 _ _ _ _ _ (Yields.tt c1 (Yields.tt (in_tt hlt) (Yields.tt hc (Yields.some _)))), ?_⟩
        rw [idx_ok hlt]; exact hsm _ (List.getElem_mem hlt)
      | false =>
        obtain ⟨x, b, y1, y2, y3⟩ := ih (i + 1) (by omega)
        rw [← hn] at y1 y2
        exact ⟨x, b, y_spec_l3Needs_0 _ _ _ _ (Yields.tt (lt_tt hlt) (Yields.tt (in_tt hlt) (Yields.ff hc y1))), y_impl_formOf_0 _ _ _ _ _ (Yields.tt c1 (Yields.tt (in_tt hlt) (Yields.ff hc y2))), y3⟩
  obtain ⟨x, b, y1, y2, y3⟩ := key es.length 0 (by omega)
  exact ⟨x, b, y_spec_l3Needs _ (Yields.obind f1 y1), y_impl_formOf _ (Yields.obind f2 y2), y3⟩
def limB (l n : Int) : Bool := bif l == 0 then n == 0 else decide (n ≥ 0) && decide (n ≤ l - 1)
theorem lim_same {t : T} {n : Int} (h0 : 0 ≤ t.i) (h1 : t.i ≤ 2000000) : Yields (fun k => cl env k F_spec_l3Fits [.int n, t]) [.bool (limB t.i n)] ∧ Yields (fun k => cl env k F_impl_limitOk [t, .int n]) [.bool (limB t.i n)] := by
  constructor
  · refine y_spec_l3Fits _ _ (Yields.ite (fun h => ?_) (fun h => ?_))
    · unfold limB; rw [show (t.i == 0) = true from h, cond_true]; exact Yields.some _
    · have h2 := in_s n 0 (t.i - 1)
      unfold limB; rw [show (t.i == 0) = false from h, cond_false]
      rw [wrap64 (by omega) (by omega)]
      exact Yields.obind h2 (Yields.some _)
  · refine y_impl_limitOk _ _ (Yields.ite (fun h => ?_) (fun h => Yields.ite (fun h2 => ?_) (fun h2 => ?_)))
    · have hn : n = 0 := by have : (n == 0) = true := h
                            simpa using this
      subst hn
      have : limB t.i 0 = true := by
        unfold limB
        cases ht : (t.i == 0) with
        | true => rfl
        | false =>
          have : ¬ t.i = 0 := by simpa using ht
          rw [cond_false, decide_eq_true (by omega), decide_eq_true (by omega)]; rfl
      rw [this]; exact Yields.some _
    · have hn : n > 0 := of_decide_eq_true h2
      have : limB t.i n = decide ((T.int n).i < t.i) := by
        unfold limB
        show _ = decide (n < t.i)
        cases ht : (t.i == 0) with
        | true =>
          have : t.i = 0 := by simpa using ht
          rw [cond_true, decide_eq_false (by omega)]; simp; omega
        | false =>
          rw [cond_false, decide_eq_true (by omega : n ≥ 0), Bool.true_and]
          by_cases hlt : n < t.i
          · rw [decide_eq_true hlt, decide_eq_true (by omega)]
          · rw [decide_eq_false hlt, decide_eq_false (by omega)]
      rw [this]; exact Yields.some _
    · have hn : ¬ n > 0 := of_decide_eq_false h2
      have hne : ¬ n = 0 := by have : (n == 0) = false := h
                               simpa using this
      have : limB t.i n = false := by
        unfold limB
        cases ht : (t.i == 0) with
        | true => rw [cond_true]; simpa using hne
        | false => rw [cond_false, decide_eq_false (by omega), Bool.false_and]
      rw [this]; exact Yields.some _
noncomputable def insB (t : T) : Bool := yB fun k => cl env k F_spec_InsOk [t]
theorem ins_same (t : T) (h : IsIns t) : Yields (fun k => cl env k F_spec_InsOk [t]) [.bool (insB t)] ∧ Yields (fun k => cl env k F_impl_InsOk [t]) [.bool (insB t)] := by
  have : ∃ c, Yields (fun k => cl env k F_spec_InsOk [t]) [.bool c] ∧ Yields (fun k => cl env k F_impl_InsOk [t]) [.bool c] := by
    obtain ⟨s, a, b, rfl, _⟩ := h
    obtain ⟨x, c, y1, y2, y3⟩ := needs_same s
    unfold smallB at y3
    simp only [Bool.and_eq_true, decide_eq_true_eq] at y3
    obtain ⟨⟨q1, q2⟩, q3, q4⟩ := y3
    obtain ⟨z1, z2⟩ := lim_same (n := a) q1 q2
    obtain ⟨z3, z4⟩ := lim_same (n := b) q3 q4
    cases c with
    | false => exact ⟨false, y_spec_InsOk _ (Yields.obind y1 (Yields.ff rfl (Yields.some _))), y_impl_InsOk _ (Yields.obind y2 (Yields.ff rfl (Yields.some _)))⟩
    | true =>
      cases hb : limB (x.fld 1).i a with
      | false => rw [hb] at z1 z2; exact ⟨false, y_spec_InsOk _ (Yields.obind y1 (Yields.tt rfl (Yields.obind z1 (Yields.ff rfl (Yields.some _))))), y_impl_InsOk _ (Yields.obind y2 (Yields.tt rfl (Yields.obind z2 (Yields.ff rfl (Yields.some _)))))⟩
      | true => rw [hb] at z1 z2; exact ⟨_, y_spec_InsOk _ (Yields.obind y1 (Yields.tt rfl (Yields.obind z1 (Yields.tt rfl (Yields.obind z3 (Yields.some _)))))), y_impl_InsOk _ (Yields.obind y2 (Yields.tt rfl (Yields.obind z2 (Yields.tt rfl (Yields.obind z4 (Yields.some _))))))⟩
  obtain ⟨c, y1, y2⟩ := this
  have hc : insB t = c := yB_eq y1
  rw [hc]; exact ⟨y1, y2⟩

/- ---- types ---- -/
def refB (s : ByteArray) : Bool := decide (s.size > 0) && (byteN s 0 == 38 || byteN s 0 == 33)
def ofB (s : ByteArray) : ByteArray := bif refB s then s.extract 1 s.size else s
theorem emp_size (s : ByteArray) : (s.toList == (⟨#[]⟩ : ByteArray).toList) = !decide (s.size > 0) := by
  by_cases h : s.size > 0
  · rw [decide_eq_true h]
    rw [beq_eq_false_iff_ne.2]; · rfl
    rw [ne_eq, ByteArray.toList_eq, ByteArray.toList_eq]
    intro he
    have : s = ⟨#[]⟩ := WideShapes.bytes_inj he
    subst this
    exact absurd h (by decide)
  · have : s = ⟨#[]⟩ := by
      obtain ⟨⟨l⟩⟩ := s
      cases l with
      | nil => rfl
      | cons a l => exact absurd (by show 0 < (a :: l).length; simp) h
    subst this; simp [ByteArray.size]
theorem byte_eq (s : ByteArray) (c : Nat) : (((s.data.getD 0 0).toNat : Int) == (c : Int)) = (byteN s 0 == c) := by
  rw [getD0]
  by_cases h : byteN s 0 = c
  · rw [h]; simp
  · rw [beq_eq_false_iff_ne.2 h, beq_eq_false_iff_ne]; omega
theorem ref_a (s : ByteArray) : Yields (fun k => cl env k F_spec_l1Ref [.str s]) [.bool (refB s)] := by
  refine y_spec_l1Ref _ ?_
  unfold refB
  by_cases h : s.size > 0
  · refine Yields.tt (decide_eq_true (by show (s.size : Int) > 0; omega)) (Yields.tt (by rw [Bool.and_eq_true]; exact ⟨rfl, decide_eq_true h⟩) ?_)
    rw [decide_eq_true h, Bool.true_and]
    refine Yields.ite (fun e => ?_) (fun e => ?_)
    · have : (byteN s 0 == 38) = true := by rw [← byte_eq]; exact e
      rw [this, Bool.true_or]; exact Yields.some _
    · have : (byteN s 0 == 38) = false := by rw [← byte_eq]; exact e
      rw [this, Bool.false_or, ← byte_eq]; exact Yields.some _
  · rw [decide_eq_false h, Bool.false_and]
    exact Yields.ff (decide_eq_false (by show ¬ (s.size : Int) > 0; omega)) (Yields.some _)
theorem cut_tt {n : Nat} (h : n > 0) : (decide (0 ≤ (1 : Int)) && (decide ((1 : Int) ≤ (n : Int)) && (decide ((n : Int) ≤ (n : Int)) && decide ((n : Int) ≤ (n : Int))))) = true := by
  simp only [Bool.and_eq_true, decide_eq_true_eq]; exact ⟨by omega, by omega, by omega, by omega⟩
theorem cut_t1 {n : Nat} (h : n > 0) : (decide (0 ≤ (0 : Int)) && (decide ((0 : Int) ≤ (1 : Int)) && (decide ((1 : Int) ≤ (n : Int)) && decide ((n : Int) ≤ (n : Int))))) = true := by
  simp only [Bool.and_eq_true, decide_eq_true_eq]; exact ⟨by omega, by omega, by omega, by omega⟩
theorem ref_size {s : ByteArray} (h : refB s = true) : s.size > 0 := by unfold refB at h; rw [Bool.and_eq_true, decide_eq_true_eq] at h; exact h.1
theorem of_s (s : ByteArray) : Yields (fun k => cl env k F_spec_l1Of [.str s]) [.str (ofB s)] := by
  refine y_spec_l1Of _ (Yields.obind (ref_a s) ?_)
  unfold ofB
  cases h : refB s with
  | true => exact Yields.tt rfl (Yields.tt (cut_tt (ref_size h)) (Yields.some _))
  | false => exact Yields.ff rfl (Yields.some _)
theorem sign_a (s : ByteArray) : ∃ g : ByteArray, Yields (fun k => cl env k F_impl_signOf [.str s]) [.str g, .str (ofB s)] ∧ (!(g.toList == (⟨#[]⟩ : ByteArray).toList)) = refB s := by
  by_cases h : s.size > 0
  · have he : (!(s.toList == (⟨#[]⟩ : ByteArray).toList)) = true := by rw [emp_size, decide_eq_true h]; rfl
    have hin : (decide (0 ≤ (0 : Int)) && decide (0 < s.size)) = true := by rw [Bool.and_eq_true]; exact ⟨rfl, decide_eq_true h⟩
    have hx : (!((s.extract 0 1).toList == (⟨#[]⟩ : ByteArray).toList)) = true := by rw [emp_size, decide_eq_true (by rw [ByteArray.size_extract]; omega)]; rfl
    cases h1 : (byteN s 0 == 38) with
    | true =>
      have hr : refB s = true := by unfold refB; rw [decide_eq_true h, h1]; rfl
      refine ⟨s.extract 0 1, ?_, by rw [hx, hr]⟩
      unfold ofB; rw [hr, cond_true]
      exact y_impl_signOf _ (Yields.tt he (Yields.tt hin (Yields.tt ((byte_eq s 38).trans h1) (Yields.tt (cut_t1 h) (Yields.tt (cut_tt h) (Yields.some _))))))
    | false =>
      cases h2 : (byteN s 0 == 33) with
      | true =>
        have hr : refB s = true := by unfold refB; rw [decide_eq_true h, h1, h2]; rfl
        refine ⟨s.extract 0 1, ?_, by rw [hx, hr]⟩
        unfold ofB; rw [hr, cond_true]
        exact y_impl_signOf _ (Yields.tt he (Yields.tt hin (Yields.ff ((byte_eq s 38).trans h1) (Yields.tt ((byte_eq s 33).trans h2) (Yields.tt (cut_t1 h) (Yields.tt (cut_tt h) (Yields.some _)))))))
      | false =>
        have hr : refB s = false := by unfold refB; rw [decide_eq_true h, h1, h2]; rfl
        refine ⟨⟨#[]⟩, ?_, by rw [hr]; simp⟩
        unfold ofB; rw [hr, cond_false]
        exact y_impl_signOf _ (Yields.tt he (Yields.tt hin (Yields.ff ((byte_eq s 38).trans h1) (Yields.ff ((byte_eq s 33).trans h2) (Yields.some _)))))
  · have hr : refB s = false := by unfold refB; rw [decide_eq_false h]; rfl
    refine ⟨⟨#[]⟩, ?_, by rw [hr]; simp⟩
    unfold ofB; rw [hr, cond_false]
    exact y_impl_signOf _ (Yields.ff (by show (!(s.toList == (⟨#[]⟩ : ByteArray).toList)) = false; rw [emp_size, decide_eq_false h]; rfl) (Yields.some _))
theorem plain_s (ks : List T) (s : ByteArray) : Yields (fun k => cl env k F_spec_l1Plain [.sl ks, .str s]) [.bool (baseB s || kinB ks s)] := by
  refine y_spec_l1Plain _ _ (Yields.obind (kind_s s) (Yields.obind (base_s s) ?_))
  cases hb : baseB s with
  | true => exact Yields.tt rfl (Yields.some _)
  | false =>
    refine Yields.ff rfl ?_
    rw [Bool.false_or]
    unfold kinB
    cases hk : kindC s with
    | none => exact Yields.ff rfl (Yields.some _)
    | some x => obtain ⟨i, j⟩ := x; exact Yields.tt rfl (Yields.obind (has_s ks i j) (Yields.some _))
def typeB (ks : List T) (x : T) : Bool := baseB (ofB x.s) || kinB ks (ofB x.s)
theorem types_s (ks xs : List T) (hx : ∀ x ∈ xs, IsStr x) (hl : xs.length ≤ maxLen) : Yields (fun k => cl env k F_spec_l4Types [.sl ks, .sl xs]) [.bool (allF (fun i => typeB ks ((T.sl xs).nth i)) 0 xs.length && true)] := by
  refine y_spec_l4Types _ _ (ask_all (A := fun i k => l_spec_l4Types_0 (Ra.hl env k fi_spec_l4Types) (.sl ks) (.sl xs) (.int (i : Int))) (fun i hi r h1 h2 => ?_) (y_spec_l4Types_0 _ _ _ (Yields.ff (lt_ff (by omega)) (Yields.some _))))
  obtain ⟨s, hs, _⟩ := hx _ (List.getElem_mem hi)
  have hn : ((T.sl xs).nth (T.int (i : Int)).i.toNat) = .str s := by rw [idx_ok hi, hs]
  have hn' : ((T.sl xs).nth i) = .str s := by rw [nth_lt hi, hs]
  rw [hn'] at h1 h2
  refine y_spec_l4Types_0 _ _ _ (Yields.tt (lt_tt hi) (Yields.tt (in_tt hi) ?_))
  rw [hn]
  refine Yields.obind (of_s s) (Yields.obind (plain_s ks (ofB s)) ?_)
  cases hc : (baseB (ofB s) || kinB ks (ofB s)) with
  | true => refine Yields.ff rfl ?_
            rw [next_ok hi hl]; exact h2 hc
  | false => refine Yields.tt rfl ?_
             rw [h1 hc]; exact Yields.some _
theorem types_i (ks xs : List T) (hx : ∀ x ∈ xs, IsStr x) (hl : xs.length ≤ maxLen) : Yields (fun k => cl env k F_impl_typesFit [.sl ks, .sl xs]) [.bool (allF (fun i => typeB ks ((T.sl xs).nth i)) 0 xs.length && true)] := by
  refine y_impl_typesFit _ _ (ask_all (A := fun i k => l_impl_typesFit_0 (Ra.hl env k fi_impl_typesFit) (.sl ks) (.sl xs) (.int (xs.length : Int)) (.int (i : Int))) (fun i hi r h1 h2 => ?_) (y_impl_typesFit_0 _ _ _ _ (Yields.ff (by rw [lt_nat]; exact decide_eq_false (by omega)) (Yields.some _))))
  obtain ⟨s, hs, _⟩ := hx _ (List.getElem_mem hi)
  have hn : ((T.sl xs).nth (T.int (i : Int)).i.toNat) = .str s := by rw [idx_ok hi, hs]
  have hn' : ((T.sl xs).nth i) = .str s := by rw [nth_lt hi, hs]
  rw [hn'] at h1 h2
  obtain ⟨g, hg, _⟩ := sign_a s
  refine y_impl_typesFit_0 _ _ _ _ (Yields.tt (by rw [lt_nat]; exact decide_eq_true hi) (Yields.tt (in_tt hi) ?_))
  rw [hn]
  refine Yields.obind hg (Yields.obind (plain_i ks (ofB s)) ?_)
  cases hc : (baseB (ofB s) || kinB ks (ofB s)) with
  | true => refine Yields.ff rfl ?_
            rw [next_ok hi hl]; exact h2 hc
  | false => refine Yields.tt rfl ?_
             rw [h1 hc]; exact Yields.some _

/- ---- numbers that rise ---- -/
def riseB (xs : List T) (lo hi : Int) (i : Nat) : Bool := (decide (((T.sl xs).nth i).i ≥ lo) && decide (((T.sl xs).nth i).i ≤ hi)) && (decide (i = 0) || decide (((T.sl xs).nth (i - 1)).i < ((T.sl xs).nth i).i))
theorem rises_s (xs : List T) (hx : IsNums xs) (hl : xs.length ≤ maxLen) (lo hi : Int) : Yields (fun k => cl env k F_spec_l4Rises [.sl xs, .int lo, .int hi]) [.bool (allF (riseB xs lo hi) 0 xs.length && true)] := by
  refine y_spec_l4Rises _ _ _ (ask_all (A := fun i k => l_spec_l4Rises_0 (Ra.hl env k fi_spec_l4Rises) (.sl xs) (.int lo) (.int hi) (.int (i : Int))) (fun i hi' r h1 h2 => ?_) (y_spec_l4Rises_0 _ _ _ _ (Yields.ff (lt_ff (by omega)) (Yields.some _))))
  obtain ⟨n, hn0⟩ := hx _ (List.getElem_mem hi')
  have hn : ((T.sl xs).nth (T.int (i : Int)).i.toNat) = .int n := by rw [idx_ok hi', hn0]
  have hn' : ((T.sl xs).nth i) = .int n := by rw [nth_lt hi', hn0]
  unfold riseB at h1 h2
  rw [hn'] at h1 h2
  have h1 : ((decide (n ≥ lo) && decide (n ≤ hi)) && (decide (i = 0) || decide (((T.sl xs).nth (i - 1)).i < n))) = false → r = [T.bool false] := h1
  have h2 : ((decide (n ≥ lo) && decide (n ≤ hi)) && (decide (i = 0) || decide (((T.sl xs).nth (i - 1)).i < n))) = true → _ := h2
  refine y_spec_l4Rises_0 _ _ _ _ (Yields.tt (lt_tt hi') (Yields.tt (in_tt hi') ?_))
  rw [hn]
  refine Yields.obind (in_s n lo hi) ?_
  cases hc : (decide (n ≥ lo) && decide (n ≤ hi)) with
  | false => rw [hc] at h1; refine Yields.tt rfl ?_
             rw [h1 rfl]; exact Yields.some _
  | true =>
    rw [hc, Bool.true_and] at h1 h2
    refine Yields.ff rfl (Yields.ite (fun e => ?_) (fun e => ?_))
    · have h0 : 0 < i := by have : (i : Int) > 0 := of_decide_eq_true e
                            omega
      rw [pred_ok h0 (by omega), next_ok hi' hl]
      rw [decide_eq_false (by omega : ¬ i = 0), Bool.false_or] at h1 h2
      refine Yields.tt ?_ (Yields.ite (fun e => ?_) (fun e => ?_))
      · rw [Bool.and_eq_true]; refine ⟨decide_eq_true (by omega), decide_eq_true ?_⟩
        rw [Int.toNat_natCast]; show i - 1 < xs.length; omega
      · rw [Int.toNat_natCast] at e
        have e' : ((T.sl xs).nth (i - 1)).i ≥ n := of_decide_eq_true e
        rw [h1 (decide_eq_false (by omega))]; exact Yields.some _
      · rw [Int.toNat_natCast] at e
        have e' : ¬ ((T.sl xs).nth (i - 1)).i ≥ n := of_decide_eq_false e
        exact h2 (decide_eq_true (by omega))
    · have h0 : i = 0 := by have : ¬ (i : Int) > 0 := of_decide_eq_false e
                            omega
      rw [next_ok hi' hl]
      exact h2 (by rw [decide_eq_true h0, Bool.true_or])
theorem rises_i (xs : List T) (hx : IsNums xs) (hl : xs.length ≤ maxLen) (lo hi : Int) : Yields (fun k => cl env k F_impl_rising [.sl xs, .int lo, .int hi]) [.bool (allF (riseB xs lo hi) 0 xs.length && true)] := by
  refine y_impl_rising _ _ _ (ask_all (A := fun i k => l_impl_rising_0 (Ra.hl env k fi_impl_rising) (.sl xs) (.int lo) (.int hi) (.sl xs) (.int (xs.length : Int)) (.int (i : Int))) (fun i hi' r h1 h2 => ?_)
    (y_impl_rising_0 _ _ _ _ _ _ (Yields.ff (by rw [lt_nat]; exact decide_eq_false (by omega)) (Yields.some _))))
  obtain ⟨n, hn0⟩ := hx _ (List.getElem_mem hi')
  have hn : ((T.sl xs).nth (T.int (i : Int)).i.toNat) = .int n := by rw [idx_ok hi', hn0]
  have hn' : ((T.sl xs).nth i) = .int n := by rw [nth_lt hi', hn0]
  unfold riseB at h1 h2
  rw [hn'] at h1 h2
  have h1 : ((decide (n ≥ lo) && decide (n ≤ hi)) && (decide (i = 0) || decide (((T.sl xs).nth (i - 1)).i < n))) = false → r = [T.bool false] := h1
  have h2 : ((decide (n ≥ lo) && decide (n ≤ hi)) && (decide (i = 0) || decide (((T.sl xs).nth (i - 1)).i < n))) = true → _ := h2
  refine y_impl_rising_0 _ _ _ _ _ _ (Yields.tt (by rw [lt_nat]; exact decide_eq_true hi') (Yields.tt (in_tt hi') ?_))
  rw [hn]
  refine Yields.ite (fun e1 => ?_) (fun e1 => Yields.ite (fun e2 => ?_) (fun e2 => ?_))
  · have e1 : n < lo := of_decide_eq_true e1
    rw [h1 (by rw [decide_eq_false (by omega : ¬ n ≥ lo)]; rfl)]; exact Yields.some _
  · have e2 : n > hi := of_decide_eq_true e2
    rw [h1 (by rw [decide_eq_false (by omega : ¬ n ≤ hi), Bool.and_false]; rfl)]; exact Yields.some _
  · have e1 : ¬ n < lo := of_decide_eq_false e1
    have e2 : ¬ n > hi := of_decide_eq_false e2
    rw [decide_eq_true (by omega : n ≥ lo), decide_eq_true (by omega : n ≤ hi), Bool.true_and, Bool.true_and] at h1 h2
    refine Yields.ite (fun e => ?_) (fun e => ?_)
    · have h0 : 0 < i := by have : (i : Int) > 0 := of_decide_eq_true e
                            omega
      rw [pred_ok h0 (by omega), next_ok hi' hl]
      rw [decide_eq_false (by omega : ¬ i = 0), Bool.false_or] at h1 h2
      refine Yields.tt ?_ (Yields.ite (fun e => ?_) (fun e => ?_))
      · rw [Bool.and_eq_true]; refine ⟨decide_eq_true (by omega), decide_eq_true ?_⟩
        rw [Int.toNat_natCast]; show i - 1 < xs.length; omega
      · rw [Int.toNat_natCast] at e
        have e' : n ≤ ((T.sl xs).nth (i - 1)).i := of_decide_eq_true e
        rw [h1 (decide_eq_false (by omega))]; exact Yields.some _
      · rw [Int.toNat_natCast] at e
        have e' : ¬ n ≤ ((T.sl xs).nth (i - 1)).i := of_decide_eq_false e
        exact h2 (decide_eq_true (by omega))
    · have h0 : i = 0 := by have : ¬ (i : Int) > 0 := of_decide_eq_false e
                            omega
      rw [next_ok hi' hl]
      exact h2 (by rw [decide_eq_true h0, Bool.true_or])
end Go.Proofs.YtfelodpbejdhlaaGreatDoor.Ra
/- Plain side: functions and shelves; what can begin. -/
namespace Go.Proofs.YtfelodpbejdhlaaGreatDoor.Ra
open Go

theorem lt_t {es : List T} {i : Nat} (h : i < es.length) : decide ((T.int (i : Int)).i < (T.int (es.length : Int)).i) = true := by rw [lt_nat]; exact decide_eq_true h
theorem lt_f {es : List T} {i : Nat} (h : ¬ i < es.length) : decide ((T.int (i : Int)).i < (T.int (es.length : Int)).i) = false := by rw [lt_nat]; exact decide_eq_false h

/- ---- code ---- -/
noncomputable def codeB (cd : List T) (m : Int) (i : Nat) : Bool := insB ((T.sl cd).nth i) && !((((T.sl cd).nth i).fld 0).s.toList == (⟨#[99, 97, 108, 108]⟩ : ByteArray).toList && decide ((((T.sl cd).nth i).fld 1).i > m))
def lenB (cd : List T) : Bool := decide ((cd.length : Int) ≥ 1) && decide ((cd.length : Int) ≤ 40)
theorem code_step {cd : List T} {m : Int} {i : Nat} {r : List T} {X Z : Nat → R} {F : Nat} (hn : ((T.sl cd).nth (T.int (i : Int)).i.toNat) = (T.sl cd).nth i) (hi : Yields (fun k => cl env k F [(T.sl cd).nth i]) [.bool (insB ((T.sl cd).nth i))])
    (h1 : codeB cd m i = false → r = [T.bool false]) (h2 : codeB cd m i = true → Yields Z r)
    (hx : X = fun k => obind (cl env k F [((T.sl cd).nth (T.int (i : Int)).i.toNat)]) fun r1 =>
      bif (!(rt r1 0).b) then
        some [(T.bool false)]
      else
        bif ((((((T.sl cd).nth (T.int (i : Int)).i.toNat)).fld 0).s).toList == (⟨#[99, 97, 108, 108]⟩ : ByteArray).toList) then
          bif (decide ((((T.sl cd).nth (T.int (i : Int)).i.toNat).fld 1).i > m)) then
            some [(T.bool false)]
          else
            Z k
        else
          Z k) : Yields X r := by
  subst hx
  rw [hn]
  unfold codeB at h1 h2
  refine Yields.obind hi ?_
  cases hc : insB ((T.sl cd).nth i) with
  | false => rw [h1 (by rw [hc]; rfl)]; exact Yields.tt rfl (Yields.some _)
  | true =>
    rw [hc, Bool.true_and] at h1 h2
    refine Yields.ff rfl (Yields.ite (fun e => Yields.ite (fun e2 => ?_) (fun e2 => h2 (by rw [e2, Bool.and_false]; rfl))) (fun e => h2 (by rw [e]; rfl)))
    rw [h1 (by rw [e, e2]; rfl)]; exact Yields.some _
theorem code_s (cd : List T) (hx : ∀ x ∈ cd, IsIns x) (hl : cd.length ≤ maxLen) (m : Int) : Yields (fun k => cl env k F_spec_l4Code [.int m, .sl cd]) [.bool (allF (codeB cd m) 0 cd.length && lenB cd)] := by
  refine y_spec_l4Code _ _ (ask_all (A := fun i k => l_spec_l4Code_0 (Ra.hl env k fi_spec_l4Code) (.int m) (.sl cd) (.int (i : Int))) (fun i hi r h1 h2 => ?_) (y_spec_l4Code_0 _ _ _ (Yields.ff (lt_ff (by omega)) (Yields.obind (in_s _ 1 40) (Yields.some _)))))
  refine y_spec_l4Code_0 _ _ _ (Yields.tt (lt_tt hi) (Yields.tt (in_tt hi) ?_))
  rw [next_ok hi hl]
  have hn : ((T.sl cd).nth (T.int (i : Int)).i.toNat) = (T.sl cd).nth i := by rw [idx_ok hi, nth_lt hi]
  exact code_step hn (by rw [nth_lt hi]; exact (ins_same _ (hx _ (List.getElem_mem hi))).1) h1 h2 rfl
theorem code_i (f : T) (cd : List T) (hf : f.fld 5 = .sl cd) (hx : ∀ x ∈ cd, IsIns x) (hl : cd.length ≤ maxLen) (m : Int) : Yields (fun k => l_impl_funcShape_0 (Ra.hl env k fi_impl_funcShape) (.int m) (.sl cd) (.int (cd.length : Int)) (.int 0) f) [.bool (allF (codeB cd m) 0 cd.length && lenB cd)] := by
  refine ask_all (A := fun i k => l_impl_funcShape_0 (Ra.hl env k fi_impl_funcShape) (.int m) (.sl cd) (.int (cd.length : Int)) (.int (i : Int)) f) (fun i hi r h1 h2 => ?_) ?_
  · refine y_impl_funcShape_0 _ _ _ _ _ (Yields.tt (lt_t hi) (Yields.tt (in_tt hi) ?_))
    rw [next_ok hi hl]
    have hn : ((T.sl cd).nth (T.int (i : Int)).i.toNat) = (T.sl cd).nth i := by rw [idx_ok hi, nth_lt hi]
    exact code_step hn (by rw [nth_lt hi]; exact (ins_same _ (hx _ (List.getElem_mem hi))).2) h1 h2 rfl
  · refine y_impl_funcShape_0 _ _ _ _ _ (Yields.ff (lt_f (by omega)) ?_)
    rw [hf]
    show Yields (fun k => bif decide ((cd.length : Int) ≥ 1) then some [T.bool (decide ((cd.length : Int) ≤ 40))] else some [T.bool false]) _
    unfold lenB
    cases decide ((cd.length : Int) ≥ 1) with
    | true => rw [Bool.true_and]; exact Yields.tt rfl (Yields.some _)
    | false => exact Yields.ff rfl (Yields.some _)

/- ---- functions ---- -/
theorem func_same {ks : List T} {m : Nat} (hm : m < ks.length) (hkl : ks.length ≤ BB) (hkm : ((T.sl ks).nth m).es.length ≤ BB) (f : T) (hf : IsFunc BB f) : ∃ c, Yields (fun k => cl env k F_spec_l4Func [.sl ks, .int (m : Int), f]) [.bool c] ∧
    Yields (fun k => cl env k F_impl_funcShape [.sl (ks.take (m + 1)), .int (m : Int), f]) [.bool c] := by
  have hm1 : IntKind.wrap .i64 ((m : Int) + 1) = ((m + 1 : Nat) : Int) := by unfold BB at hkl; rw [wrap64 (by omega) (by omega)]; rfl
  have hcut : ((T.sl ks).es.take ((IntKind.wrap .i64 ((T.int (m : Int)).i + (1 : Int))).toNat)).drop 0 = ks.take (m + 1) := by
    show (ks.take (IntKind.wrap .i64 ((m : Int) + 1)).toNat).drop 0 = _
    rw [hm1, Int.toNat_natCast, List.drop_zero]
  have hcc : (decide (0 ≤ (0 : Int)) && (decide ((0 : Int) ≤ (IntKind.wrap .i64 ((T.int (m : Int)).i + (1 : Int)))) && (decide ((IntKind.wrap .i64 ((T.int (m : Int)).i + (1 : Int))) ≤ ((T.sl ks).es.length : Int)) && decide (((T.sl ks).es.length : Int) ≤ ((T.sl ks).es.length : Int))))) = true := by
    show (decide (0 ≤ (0 : Int)) && (decide ((0 : Int) ≤ (IntKind.wrap .i64 ((m : Int) + 1))) && (decide ((IntKind.wrap .i64 ((m : Int) + 1)) ≤ (ks.length : Int)) && decide ((ks.length : Int) ≤ (ks.length : Int))))) = true
    rw [hm1]
    simp only [Bool.and_eq_true, decide_eq_true_eq]; exact ⟨by omega, by omega, by omega, by omega⟩
  have hmt : m < (ks.take (m + 1)).length := by rw [List.length_take]; omega
  have hnt : ((T.sl (ks.take (m + 1))).nth (T.int (m : Int)).i.toNat) = (T.sl ks).nth m := by
    rw [idx_ok hmt, nth_lt hm, List.getElem_take]
  have hns : ((T.sl ks).nth (T.int (m : Int)).i.toNat) = (T.sl ks).nth m := by rw [idx_ok hm, nth_lt hm]
  have hpred : IntKind.wrap .i64 ((((T.sl ks).nth m).es.length : Int) - (1 : Int)) = (((T.sl ks).nth m).es.length : Int) - 1 := by unfold BB at hkm; rw [wrap64 (by omega) (by omega)]
  cases hf with
  | @mk n ags rs ls tk cd h1 h2 h3 h4 h5 g1 g2 g3 g4 g5 =>
    have hsum : IntKind.wrap .i64 ((ags.length : Int) + (ls.length : Int)) = (ags.length : Int) + (ls.length : Int) := by unfold BB at h1 h3; rw [wrap64 (by omega) (by omega)]
    have a1 := types_s (ks.take (m + 1)) ags g1 (bb_max h1)
    have a2 := types_s (ks.take (m + 1)) rs g2 (bb_max h2)
    have a3 := types_s (ks.take (m + 1)) ls g3 (bb_max h3)
    have b1 := types_i (ks.take (m + 1)) ags g1 (bb_max h1)
    have b2 := types_i (ks.take (m + 1)) rs g2 (bb_max h2)
    have b3 := types_i (ks.take (m + 1)) ls g3 (bb_max h3)
    have a4 := rises_s tk g4 (bb_max h4) 0 ((((T.sl ks).nth m).es.length : Int) - 1)
    have b4 := rises_i tk g4 (bb_max h4) 0 ((((T.sl ks).nth m).es.length : Int) - 1)
    have a5 := code_s cd g5 (bb_max h5) (m : Int)
    have b5 := code_i (.st [.int n, .sl ags, .sl rs, .sl ls, .sl tk, .sl cd]) cd rfl g5 (bb_max h5) (m : Int)
    generalize (allF (fun i => typeB (ks.take (m + 1)) ((T.sl ags).nth i)) 0 ags.length && true) = t1 at a1 b1
    generalize (allF (fun i => typeB (ks.take (m + 1)) ((T.sl rs).nth i)) 0 rs.length && true) = t2 at a2 b2
    generalize (allF (fun i => typeB (ks.take (m + 1)) ((T.sl ls).nth i)) 0 ls.length && true) = t3 at a3 b3
    generalize (allF (riseB tk 0 ((((T.sl ks).nth m).es.length : Int) - 1)) 0 tk.length && true) = t4 at a4 b4
    generalize (allF (codeB cd (m : Int)) 0 cd.length && lenB cd) = t5 at a5 b5
    have hin := in_s n 0 2
    by_cases q1 : n < 0
    · rw [decide_eq_false (by omega : ¬ n ≥ 0)] at hin
      exact ⟨false, y_spec_l4Func _ _ _ (Yields.obind hin (Yields.tt rfl (Yields.some _))), y_impl_funcShape _ _ _ (Yields.tt (decide_eq_true q1) (Yields.some _))⟩
    by_cases q2 : n > 2
    · rw [decide_eq_false (by omega : ¬ n ≤ 2), Bool.and_false] at hin
      exact ⟨false, y_spec_l4Func _ _ _ (Yields.obind hin (Yields.tt rfl (Yields.some _))), y_impl_funcShape _ _ _ (Yields.ff (decide_eq_false q1) (Yields.tt (decide_eq_true q2) (Yields.some _)))⟩
    rw [decide_eq_true (by omega : n ≥ 0), decide_eq_true (by omega : n ≤ 2)] at hin
    have e1 := decide_eq_false q1
    have e2 := decide_eq_false q2
    by_cases q3 : (ags.length : Int) > 3
    · exact ⟨false, y_spec_l4Func _ _ _ (Yields.obind hin (Yields.ff rfl (Yields.tt (decide_eq_true q3) (Yields.some _)))), y_impl_funcShape _ _ _ (Yields.ff e1 (Yields.ff e2 (Yields.tt (decide_eq_true q3) (Yields.some _))))⟩
    have e3 := decide_eq_false q3
    by_cases q4 : (rs.length : Int) > 3
    · exact ⟨false, y_spec_l4Func _ _ _ (Yields.obind hin (Yields.ff rfl (Yields.ff e3 (Yields.tt (decide_eq_true q4) (Yields.some _))))), y_impl_funcShape _ _ _ (Yields.ff e1 (Yields.ff e2 (Yields.ff e3 (Yields.tt (decide_eq_true q4) (Yields.some _)))))⟩
    have e4 := decide_eq_false q4
    by_cases q5 : IntKind.wrap .i64 ((ags.length : Int) + (ls.length : Int)) > 6
    · exact ⟨false, y_spec_l4Func _ _ _ (Yields.obind hin (Yields.ff rfl (Yields.ff e3 (Yields.ff e4 (Yields.tt (decide_eq_true q5) (Yields.some _)))))), y_impl_funcShape _ _ _ (Yields.ff e1 (Yields.ff e2 (Yields.ff e3 (Yields.ff e4 (Yields.tt (decide_eq_true q5) (Yields.some _))))))⟩
    have e5 := decide_eq_false q5
    let c : Bool := bif t1 then bif t2 then bif t3 then bif t4 then t5 else false else false else false else false
    refine ⟨c, y_spec_l4Func _ _ _ (Yields.obind hin (Yields.ff rfl (Yields.ff e3 (Yields.ff e4 (Yields.ff e5 (Yields.tt hcc ?_)))))), y_impl_funcShape _ _ _ (Yields.ff e1 (Yields.ff e2 (Yields.ff e3 (Yields.ff e4 (Yields.ff e5 ?_)))))⟩
    · rw [hcut, hns, hpred]
      show Yields _ [T.bool (bif t1 then bif t2 then bif t3 then bif t4 then t5 else false else false else false else false)]
      refine Yields.obind a1 ?_
      cases t1 with
      | false => exact Yields.ff rfl (Yields.some _)
      | true =>
        refine Yields.tt rfl (Yields.obind a2 ?_)
        cases t2 with
        | false => exact Yields.ff rfl (Yields.some _)
        | true =>
          refine Yields.tt rfl (Yields.obind a3 ?_)
          cases t3 with
          | false => exact Yields.ff rfl (Yields.some _)
          | true =>
            refine Yields.tt rfl (Yields.tt (in_tt hm) (Yields.obind a4 ?_))
            cases t4 with
            | false => exact Yields.ff rfl (Yields.some _)
            | true => exact Yields.tt rfl (Yields.obind a5 (Yields.some _))
    · rw [hnt, hpred]
      show Yields _ [T.bool (bif t1 then bif t2 then bif t3 then bif t4 then t5 else false else false else false else false)]
      refine Yields.obind b1 ?_
      cases t1 with
      | false => exact Yields.tt rfl (Yields.some _)
      | true =>
        refine Yields.ff rfl (Yields.obind b2 ?_)
        cases t2 with
        | false => exact Yields.tt rfl (Yields.some _)
        | true =>
          refine Yields.ff rfl (Yields.obind b3 ?_)
          cases t3 with
          | false => exact Yields.tt rfl (Yields.some _)
          | true =>
            refine Yields.ff rfl (Yields.tt (in_tt hmt) (Yields.obind b4 ?_))
            cases t4 with
            | false => exact Yields.tt rfl (Yields.some _)
            | true => exact Yields.ff rfl b5

/- ---- kinds of a shelf ---- -/
def kindsOf (ms : List T) : List T := ms.map (·.fld 0)
theorem kindsOf_get {ms : List T} {i : Nat} (h : i < (kindsOf ms).length) (h' : i < ms.length) : (kindsOf ms)[i] = ms[i].fld 0 := by simp [kindsOf]
theorem st2' {x : T} (h : IsRec BB x) : T.st [x.fld 0, x.fld 1] = x := by obtain ⟨a, fs, rfl, _⟩ := h; rfl
theorem rec_fs {x : T} (h : IsRec BB x) : ∃ fs, x.fld 1 = .sl fs ∧ fs.length ≤ BB := by obtain ⟨a, fs, rfl, _, _, h3, _⟩ := h; exact ⟨fs, rfl, h3⟩
theorem mod_recs {x : T} (h : IsMod BB x) : ∃ rs, x.fld 0 = .sl rs ∧ IsRecs BB (.sl rs) := by cases h with | mk h1 => exact ⟨_, rfl, h1⟩
theorem kinds_recs {ms : List T} (hm : ∀ x ∈ ms, IsMod BB x) : ∀ x ∈ kindsOf ms, IsRecs BB x := by
  intro x hx
  unfold kindsOf at hx
  obtain ⟨y, hy, rfl⟩ := List.mem_map.1 hx
  obtain ⟨rs, h1, h2⟩ := mod_recs (hm y hy)
  rw [h1]; exact h2
theorem texts_i (xs : List T) (h : xs.length ≤ BB) : Yields (fun k => cl env k F_impl_copyTexts [.sl xs]) [.sl xs] := by
  have hc : ∀ l : List T, Yields (fun k => cl env k F_slices_Clip_string [.sl l]) [.sl l] := fun l => by
    refine y_slices_Clip_string _ (Yields.tt ?_ ?_)
    · simp only [Bool.and_eq_true, decide_eq_true_eq]
      exact ⟨by omega, by show (0 : Int) ≤ (l.length : Int); omega, by omega, by omega⟩
    · show Yields (fun _ => some [T.sl ((l.take l.length).drop 0)]) _
      rw [List.take_length, List.drop_zero]; exact Yields.some _
  refine y_impl_copyTexts _ (Yields.tt (decide_eq_true ?_) (Yields.obind (hc _) ?_))
  · show ([] : List T).length + xs.length ≤ LIM
    unfold BB at h; unfold LIM; simp; omega
  · show Yields (fun _ => some [T.sl ((([] ++ xs).take ([] ++ xs).length).drop 0)]) _
    rw [List.take_length, List.drop_zero, List.nil_append]; exact Yields.some _
theorem recs_i (rs : List T) (h : IsRecs BB (.sl rs)) : Yields (fun k => cl env k F_impl_copyRecords [.sl rs]) [.sl rs] := by
  obtain ⟨_, he, hlen, hr⟩ := h
  cases he
  have hc : ∀ l : List T, Yields (fun k => cl env k F_slices_Clip_impl_Record [.sl l]) [.sl l] := fun l => by
    refine y_slices_Clip_impl_Record _ (Yields.tt ?_ ?_)
    · simp only [Bool.and_eq_true, decide_eq_true_eq]
      exact ⟨by omega, by show (0 : Int) ≤ (l.length : Int); omega, by omega, by omega⟩
    · show Yields (fun _ => some [T.sl ((l.take l.length).drop 0)]) _
      rw [List.take_length, List.drop_zero]; exact Yields.some _
  have key : ∀ (m i : Nat), i + m = rs.length → Yields (fun k => l_impl_copyRecords_0 (hl env k fi_impl_copyRecords) (.sl rs) (.int (rs.length : Int)) (.int (i : Int)) (.sl (rs.take i))) [.sl rs] := by
    intro m
    induction m with
    | zero =>
      intro i hi
      refine y_impl_copyRecords_0 _ _ _ _ (Yields.ff (lt_f (by omega)) (Yields.obind (hc _) ?_))
      show Yields (fun _ => some [T.sl (((rs.take i).take (rs.take i).length).drop 0)]) _
      rw [List.take_length, List.drop_zero, List.take_of_length_le (by omega)]; exact Yields.some _
    | succ m ih =>
      intro i hi
      have hlt : i < rs.length := by omega
      have hk := hr _ (List.getElem_mem hlt)
      obtain ⟨fs, hf, hfl⟩ := rec_fs hk
      have hn1 : ((T.sl rs).nth (T.int (i : Int)).i.toNat) = rs[i] := idx_ok hlt
      refine y_impl_copyRecords_0 _ _ _ _ (Yields.tt (lt_t hlt) (Yields.tt (in_tt hlt) ?_))
      rw [hn1, hf]
      refine Yields.obind (texts_i fs hfl) (Yields.tt (decide_eq_true ?_) ?_)
      · show (rs.take i).length + 1 ≤ LIM
        rw [List.length_take]; unfold BB at hlen; unfold LIM; omega
      · rw [next_ok hlt (bb_max hlen)]
        have e : T.st [rs[i].fld 0, rt [T.sl fs] 0] = rs[i] := by show T.st [rs[i].fld 0, .sl fs] = _; rw [← hf]; exact st2' hk
        rw [e]
        show Yields (fun k => l_impl_copyRecords_0 (hl env k fi_impl_copyRecords) (.sl rs) (.int (rs.length : Int)) (.int ((i + 1 : Nat) : Int)) (.sl (rs.take i ++ [rs[i]]))) _
        rw [List.take_append_getElem hlt]; exact ih (i + 1) (by omega)
  exact y_impl_copyRecords _ (key rs.length 0 (by omega))
theorem kinds_i (ms : List T) (hlen : ms.length ≤ BB) (hm : ∀ x ∈ ms, IsMod BB x) : Yields (fun k => cl env k F_impl_ShelfKinds [.sl ms]) [.sl (kindsOf ms)] := by
  have hc : ∀ l : List T, Yields (fun k => cl env k F_slices_Clip_s_impl_Record [.sl l]) [.sl l] := fun l => by
    refine y_slices_Clip_s_impl_Record _ (Yields.tt ?_ ?_)
    · simp only [Bool.and_eq_true, decide_eq_true_eq]
      exact ⟨by omega, by show (0 : Int) ≤ (l.length : Int); omega, by omega, by omega⟩
    · show Yields (fun _ => some [T.sl ((l.take l.length).drop 0)]) _
      rw [List.take_length, List.drop_zero]; exact Yields.some _
  have key : ∀ (m i : Nat), i + m = ms.length → Yields (fun k => l_impl_ShelfKinds_0 (hl env k fi_impl_ShelfKinds) (.sl ms) (.int (ms.length : Int)) (.int (i : Int)) (.sl ((kindsOf ms).take i))) [.sl (kindsOf ms)] := by
    intro m
    induction m with
    | zero =>
      intro i hi
      refine y_impl_ShelfKinds_0 _ _ _ _ (Yields.ff (lt_f (by omega)) (Yields.obind (hc _) ?_))
      show Yields (fun _ => some [T.sl ((((kindsOf ms).take i).take ((kindsOf ms).take i).length).drop 0)]) _
      rw [List.take_length, List.drop_zero, List.take_of_length_le (by unfold kindsOf; simp; omega)]; exact Yields.some _
    | succ m ih =>
      intro i hi
      have hlt : i < ms.length := by omega
      obtain ⟨rs, hr1, hr2⟩ := mod_recs (hm _ (List.getElem_mem hlt))
      have hn1 : ((T.sl ms).nth (T.int (i : Int)).i.toNat) = ms[i] := idx_ok hlt
      refine y_impl_ShelfKinds_0 _ _ _ _ (Yields.tt (lt_t hlt) (Yields.tt (in_tt hlt) ?_))
      rw [hn1, hr1]
      refine Yields.obind (recs_i rs hr2) (Yields.tt (decide_eq_true ?_) ?_)
      · show ((kindsOf ms).take i).length + 1 ≤ LIM
        rw [List.length_take]; unfold BB at hlen; unfold LIM; omega
      · rw [next_ok hlt (bb_max hlen)]
        have hk : i < (kindsOf ms).length := by unfold kindsOf; simpa using hlt
        have e : (kindsOf ms)[i] = .sl rs := (kindsOf_get hk hlt).trans hr1
        show Yields (fun k => l_impl_ShelfKinds_0 (hl env k fi_impl_ShelfKinds) (.sl ms) (.int (ms.length : Int)) (.int ((i + 1 : Nat) : Int)) (.sl ((kindsOf ms).take i ++ [.sl rs]))) _
        rw [← e, List.take_append_getElem hk]; exact ih (i + 1) (by omega)
  exact y_impl_ShelfKinds _ (key ms.length 0 (by omega))
theorem kinds_s (ms : List T) (hlen : ms.length ≤ BB) (hm : ∀ x ∈ ms, IsMod BB x) : Yields (fun k => cl env k F_spec_ShelfKinds [.sl ms]) [.sl (kindsOf ms)] := by
  have key : ∀ (m i : Nat), i + m = ms.length → Yields (fun k => l_spec_ShelfKinds_0 (hl env k fi_spec_ShelfKinds) (.sl ms) (.int (i : Int)) (.sl ((kindsOf ms).take i))) [.sl (kindsOf ms)] := by
    intro m
    induction m with
    | zero =>
      intro i hi
      refine y_spec_ShelfKinds_0 _ _ _ (Yields.ff (lt_ff (by omega)) ?_)
      rw [List.take_of_length_le (by unfold kindsOf; simp; omega)]; exact Yields.some _
    | succ m ih =>
      intro i hi
      have hlt : i < ms.length := by omega
      obtain ⟨rs, hr1, hr2⟩ := mod_recs (hm _ (List.getElem_mem hlt))
      obtain ⟨_, he, hrl, hrr⟩ := hr2
      cases he
      have hn1 : (((T.sl ms).nth (T.int (i : Int)).i.toNat).fld 0) = .sl rs := by rw [idx_ok hlt]; exact hr1
      have hk : i < (kindsOf ms).length := by unfold kindsOf; simpa using hlt
      have e : (kindsOf ms)[i] = .sl rs := (kindsOf_get hk hlt).trans hr1
      refine y_spec_ShelfKinds_0 _ _ _ (Yields.tt (lt_tt hlt) ?_)
      have inner : ∀ (m' j : Nat), j + m' = rs.length → Yields (fun k => l_spec_ShelfKinds_1 (hl env k fi_spec_ShelfKinds) (.sl ms) (.int (i : Int)) (.int (j : Int)) (.sl ((kindsOf ms).take i)) (.sl (rs.take j))) [.sl (kindsOf ms)] := by
        intro m'
        induction m' with
        | zero =>
          intro j hj
          refine y_spec_ShelfKinds_1 _ _ _ _ _ (Yields.tt (in_tt hlt) ?_)
          rw [hn1]
          refine Yields.ff (lt_ff (by omega)) (Yields.tt (decide_eq_true ?_) ?_)
          · show ((kindsOf ms).take i).length + 1 ≤ LIM
            rw [List.length_take]; unfold BB at hlen; unfold LIM; omega
          · rw [next_ok hlt (bb_max hlen), List.take_of_length_le (by omega : rs.length ≤ j), ← e]
            show Yields (fun k => l_spec_ShelfKinds_0 (hl env k fi_spec_ShelfKinds) (.sl ms) (.int ((i + 1 : Nat) : Int)) (.sl ((kindsOf ms).take i ++ [(kindsOf ms)[i]]))) _
            rw [List.take_append_getElem hk]; exact ih (i + 1) (by omega)
        | succ m' ih' =>
          intro j hj
          have hjt : j < rs.length := by omega
          have hkr := hrr _ (List.getElem_mem hjt)
          obtain ⟨fs, hf, hfl⟩ := rec_fs hkr
          refine y_spec_ShelfKinds_1 _ _ _ _ _ (Yields.tt (in_tt hlt) ?_)
          rw [hn1]
          have hn2 : ((T.sl rs).nth (T.int (j : Int)).i.toNat) = rs[j] := idx_ok hjt
          rw [hn2, hf]
          have e2 : T.st [rs[j].fld 0, T.sl (([] : List T) ++ (T.sl fs).es)] = rs[j] := by show T.st [rs[j].fld 0, .sl fs] = _; rw [← hf]; exact st2' hkr
          refine Yields.tt (lt_tt hjt) (Yields.tt (in_tt hjt) (Yields.tt (decide_eq_true ?_) (Yields.tt (decide_eq_true ?_) ?_)))
          · show ([] : List T).length + fs.length ≤ LIM
            unfold BB at hfl; unfold LIM; simp; omega
          · show (rs.take j).length + 1 ≤ LIM
            rw [List.length_take]; unfold BB at hrl; unfold LIM; omega
          · rw [e2, next_ok hjt (bb_max hrl)]
            show Yields (fun k => l_spec_ShelfKinds_1 (hl env k fi_spec_ShelfKinds) (.sl ms) (.int (i : Int)) (.int ((j + 1 : Nat) : Int)) (.sl ((kindsOf ms).take i)) (.sl (rs.take j ++ [rs[j]]))) _
            rw [List.take_append_getElem hjt]; exact ih' (j + 1) (by omega)
      exact inner rs.length 0 (by omega)
  exact y_spec_ShelfKinds _ (key ms.length 0 (by omega))
end Go.Proofs.YtfelodpbejdhlaaGreatDoor.Ra
/- Plain side: whole shelves; what can begin; the law of CallOk. -/
namespace Go.Proofs.YtfelodpbejdhlaaGreatDoor.Ra
open Go

theorem mod_shape {x : T} (h : IsMod BB x) : ∃ rs fs fr, x = .st [.sl rs, .sl fs, .sl fr] ∧ IsRecs BB (.sl rs) ∧ fs.length ≤ BB ∧ (∀ x ∈ fs, IsFunc BB x) ∧ fr.length ≤ BB ∧ IsNums fr := by
  cases h with | mk h1 h2 h3 h4 h5 => exact ⟨_, _, _, rfl, h1, h2, h3, h4, h5⟩
theorem kindsOf_len (ms : List T) : (kindsOf ms).length = ms.length := by simp [kindsOf]
theorem kinds_nth {ms : List T} (hm : ∀ x ∈ ms, IsMod BB x) {m : Nat} (h : m < ms.length) : ((T.sl (kindsOf ms)).nth m).es.length ≤ BB := by
  rw [nth_lt (by rw [kindsOf_len]; exact h), kindsOf_get _ h]
  obtain ⟨rs, h1, _, he, h2, _⟩ := mod_recs (hm _ (List.getElem_mem h))
  cases he
  rw [h1]; exact h2
theorem shape_same (ms : List T) (hlen : ms.length ≤ BB) (hm : ∀ x ∈ ms, IsMod BB x) : ∃ c, Yields (fun k => cl env k F_spec_ShelfShape [.sl ms]) [.bool c] ∧ Yields (fun k => cl env k F_impl_ShelfShape [.sl ms]) [.bool c] ∧
    (c = true → Early (kindsOf ms) ms.length 0 ∧ Yields (fun k => cl env k F_impl_KindsOk [.sl (kindsOf ms)]) [.bool true]) := by
  have hkl : (kindsOf ms).length ≤ BB := by rw [kindsOf_len]; exact hlen
  obtain ⟨c, y1, y2, y3⟩ := kindsOk_small (kinds_recs hm) (bb_max (Nat.le_refl BB)) hkl
  have k1 := kinds_s ms hlen hm
  have k2 := kinds_i ms hlen hm
  by_cases h3 : (ms.length : Int) > 3
  · have hc : c = false := by
      cases c with
      | false => rfl
      | true => have := (y3 rfl).2.2; rw [kindsOf_len] at this; omega
    subst hc
    exact ⟨false, y_spec_ShelfShape _ (Yields.obind k1 (Yields.obind y1 (Yields.tt rfl (Yields.some _)))), y_impl_ShelfShape _ (Yields.tt (decide_eq_true h3) (Yields.some _)), fun h => by cases h⟩
  cases c with
  | false => exact ⟨false, y_spec_ShelfShape _ (Yields.obind k1 (Yields.obind y1 (Yields.tt rfl (Yields.some _)))), y_impl_ShelfShape _ (Yields.ff (decide_eq_false h3) (Yields.obind k2 (Yields.obind y2 (Yields.tt rfl (Yields.some _))))), fun h => by cases h⟩
  | true =>
    have key : ∀ (n i : Nat), i + n = ms.length → ∃ c, Yields (fun k => l_spec_ShelfShape_0 (hl env k fi_spec_ShelfShape) (.sl ms) (.int (i : Int)) (.sl (kindsOf ms))) [.bool c] ∧
        Yields (fun k => l_impl_ShelfShape_0 (hl env k fi_impl_ShelfShape) (.sl ms) (.sl ms) (.int (ms.length : Int)) (.int (i : Int)) (.sl (kindsOf ms))) [.bool c] := by
      intro n
      induction n with
      | zero => intro i hi; exact ⟨true, y_spec_ShelfShape_0 _ _ _ (Yields.ff (lt_ff (by omega)) (Yields.some _)), y_impl_ShelfShape_0 _ _ _ _ _ (Yields.ff (lt_f (by omega)) (Yields.some _))⟩
      | succ n ih =>
        intro i hi
        have hlt : i < ms.length := by omega
        obtain ⟨c, z1, z2⟩ := ih (i + 1) (by omega)
        obtain ⟨rs, fs, fr, hx, _, hfl, hff, hrl, hrn⟩ := mod_shape (hm _ (List.getElem_mem hlt))
        have hn : ((T.sl ms).nth (T.int (i : Int)).i.toNat) = .st [.sl rs, .sl fs, .sl fr] := by rw [idx_ok hlt, hx]
        have hnx := next_ok hlt (bb_max hlen)
        have w1 : IntKind.wrap .i64 ((T.int (i : Int)).i + (1 : Int)) = (i : Int) + 1 := by show IntKind.wrap .i64 ((i : Int) + 1) = _; unfold BB at hlen; rw [wrap64 (by omega) (by omega)]
        have w2 : IntKind.wrap .i64 (((T.sl ms).es.length : Int) - (1 : Int)) = (ms.length : Int) - 1 := by show IntKind.wrap .i64 ((ms.length : Int) - 1) = _; unfold BB at hlen; rw [wrap64 (by omega) (by omega)]
        have r1 := rises_s fr hrn (bb_max hrl) ((i : Int) + 1) ((ms.length : Int) - 1)
        have r2 := rises_i fr hrn (bb_max hrl) ((i : Int) + 1) ((ms.length : Int) - 1)
        generalize (allF (riseB fr ((i : Int) + 1) ((ms.length : Int) - 1)) 0 fr.length && true) = t at r1 r2
        by_cases h4 : (fs.length : Int) > 4
        · refine ⟨false, y_spec_ShelfShape_0 _ _ _ (Yields.tt (lt_tt hlt) (Yields.tt (in_tt hlt) ?_)), y_impl_ShelfShape_0 _ _ _ _ _ (Yields.tt (lt_t hlt) (Yields.tt (in_tt hlt) ?_))⟩
          · rw [hn]; exact Yields.tt (decide_eq_true h4) (Yields.some _)
          · rw [hn]; exact Yields.tt (decide_eq_true h4) (Yields.some _)
        have h4' := decide_eq_false h4
        cases t with
        | false =>
          refine ⟨false, y_spec_ShelfShape_0 _ _ _ (Yields.tt (lt_tt hlt) (Yields.tt (in_tt hlt) ?_)), y_impl_ShelfShape_0 _ _ _ _ _ (Yields.tt (lt_t hlt) (Yields.tt (in_tt hlt) ?_))⟩
          · rw [hn, w1, w2]; exact Yields.ff h4' (Yields.obind r1 (Yields.tt rfl (Yields.some _)))
          · rw [hn, w1, w2]; exact Yields.ff h4' (Yields.obind r2 (Yields.tt rfl (Yields.some _)))
        | true =>
          -- the functions
          have hkm : i < (kindsOf ms).length := by rw [kindsOf_len]; exact hlt
          let fb : Nat → Bool := fun j => yB fun k => cl env k F_spec_l4Func [.sl (kindsOf ms), .int (i : Int), (T.sl fs).nth j]
          have hfb : ∀ j (hj : j < fs.length), Yields (fun k => cl env k F_spec_l4Func [.sl (kindsOf ms), .int (i : Int), fs[j]]) [.bool (fb j)] ∧ Yields (fun k => cl env k F_impl_funcShape [.sl ((kindsOf ms).take (i + 1)), .int (i : Int), fs[j]]) [.bool (fb j)] := by
            intro j hj
            obtain ⟨c, q1, q2⟩ := func_same hkm hkl (kinds_nth hm hlt) fs[j] (hff _ (List.getElem_mem hj))
            have : fb j = c := by show yB _ = c; rw [nth_lt hj]; exact yB_eq q1
            rw [this]; exact ⟨q1, q2⟩
          have res : ∃ c', (allF fb 0 fs.length = true → c' = c) ∧ (allF fb 0 fs.length = false → c' = false) := by
            cases allF fb 0 fs.length with
            | true => exact ⟨c, fun _ => rfl, fun h => by cases h⟩
            | false => exact ⟨false, (fun h => by cases h), fun _ => rfl⟩
          obtain ⟨c', p1, p2⟩ := res
          refine ⟨c', y_spec_ShelfShape_0 _ _ _ (Yields.tt (lt_tt hlt) (Yields.tt (in_tt hlt) ?_)), y_impl_ShelfShape_0 _ _ _ _ _ (Yields.tt (lt_t hlt) (Yields.tt (in_tt hlt) ?_))⟩
          · rw [hn, w1, w2]
            refine Yields.ff h4' (Yields.obind r1 (Yields.ff rfl ?_))
            refine ask_each (A := fun j k => l_spec_ShelfShape_1 (hl env k fi_spec_ShelfShape) (.sl ms) (.int (i : Int)) (.int (j : Int)) (.sl (kindsOf ms))) (t := fb) (n := fs.length) (fun j hj a1 a2 => ?_) (fun h => ?_) fun h => by rw [p2 h]
            · refine y_spec_ShelfShape_1 _ _ _ _ (Yields.tt (in_tt hlt) ?_)
              rw [hn]
              refine Yields.tt (lt_tt hj) (Yields.tt (in_tt hj) ?_)
              have e : ((T.st [.sl rs, .sl fs, .sl fr]).fld 1).nth (T.int (j : Int)).i.toNat = fs[j] := idx_ok hj
              rw [e]
              refine Yields.obind (hfb j hj).1 ?_
              cases hc : fb j with
              | false => rw [a1 hc]; exact Yields.tt rfl (Yields.some _)
              | true => refine Yields.ff rfl ?_
                        rw [next_ok hj (bb_max hfl)]; exact a2 hc
            · refine y_spec_ShelfShape_1 _ _ _ _ (Yields.tt (in_tt hlt) ?_)
              rw [hn, p1 h]
              refine Yields.ff (lt_ff (es := fs) (by omega)) ?_
              rw [hnx]; exact z1
          · rw [hn, w1, w2]
            refine Yields.ff h4' (Yields.obind r2 (Yields.ff rfl ?_))
            refine ask_each (A := fun j k => l_impl_ShelfShape_1 (hl env k fi_impl_ShelfShape) (.sl ms) (.int (i : Int)) (.sl ms) (.int (ms.length : Int)) (.int (i : Int)) (.sl fs) (.int (fs.length : Int)) (.int (j : Int)) (.sl (kindsOf ms))) (t := fb) (n := fs.length) (fun j hj a1 a2 => ?_) (fun h => ?_) fun h => by rw [p2 h]
            · refine y_impl_ShelfShape_1 _ _ _ _ _ _ _ _ _ (Yields.tt (lt_t hj) (Yields.tt (in_tt hj) (Yields.tt ?_ ?_)))
              · rw [w1]
                simp only [Bool.and_eq_true, decide_eq_true_eq]
                exact ⟨by omega, by omega, by show (i : Int) + 1 ≤ ((kindsOf ms).length : Int); omega, by omega⟩
              · have e : ((T.sl (kindsOf ms)).es.take ((IntKind.wrap .i64 ((T.int (i : Int)).i + (1 : Int))).toNat)).drop 0 = (kindsOf ms).take (i + 1) := by
                  rw [w1, List.drop_zero, show ((i : Int) + 1).toNat = i + 1 by omega]; rfl
                rw [e, idx_ok hj]
                refine Yields.obind (hfb j hj).2 ?_
                cases hc : fb j with
                | false => rw [a1 hc]; exact Yields.tt rfl (Yields.some _)
                | true => refine Yields.ff rfl ?_
                          rw [next_ok hj (bb_max hfl)]; exact a2 hc
            · refine y_impl_ShelfShape_1 _ _ _ _ _ _ _ _ _ (Yields.ff (lt_f (by omega)) ?_)
              rw [p1 h, hnx]; exact z2
    obtain ⟨c, z1, z2⟩ := key ms.length 0 (by omega)
    exact ⟨c, y_spec_ShelfShape _ (Yields.obind k1 (Yields.obind y1 (Yields.ff rfl z1))), y_impl_ShelfShape _ (Yields.ff (decide_eq_false h3) (Yields.obind k2 (Yields.obind y2 (Yields.ff rfl z2)))), fun _ => ⟨by have := (y3 rfl).1; rwa [kindsOf_len] at this, y2⟩⟩

/- ---- a function by its numbers ---- -/
theorem clip_ins (l : List T) : Yields (fun k => cl env k F_slices_Clip_impl_Ins [.sl l]) [.sl l] := by
  refine y_slices_Clip_impl_Ins _ (Yields.tt ?_ ?_)
  · simp only [Bool.and_eq_true, decide_eq_true_eq]
    exact ⟨by omega, by show (0 : Int) ≤ (l.length : Int); omega, by omega, by omega⟩
  · show Yields (fun _ => some [T.sl ((l.take l.length).drop 0)]) _
    rw [List.take_length, List.drop_zero]; exact Yields.some _
theorem clip_nums (l : List T) : Yields (fun k => cl env k F_slices_Clip_int [.sl l]) [.sl l] := by
  refine y_slices_Clip_int _ (Yields.tt ?_ ?_)
  · simp only [Bool.and_eq_true, decide_eq_true_eq]
    exact ⟨by omega, by show (0 : Int) ≤ (l.length : Int); omega, by omega, by omega⟩
  · show Yields (fun _ => some [T.sl ((l.take l.length).drop 0)]) _
    rw [List.take_length, List.drop_zero]; exact Yields.some _
theorem nums_i (is : List T) (h : is.length ≤ BB) : Yields (fun k => cl env k F_impl_copyInts [.sl is]) [.sl is] := by
  refine y_impl_copyInts _ (Yields.tt (decide_eq_true ?_) (Yields.obind (clip_nums _) ?_))
  · show ([] : List T).length + is.length ≤ LIM
    unfold BB at h; unfold LIM; simp; omega
  · show Yields (fun _ => some [T.sl ((([] ++ is).take ([] ++ is).length).drop 0)]) _
    rw [List.take_length, List.drop_zero, List.nil_append]; exact Yields.some _
theorem func_i (f : T) (h : IsFunc BB f) : Yields (fun k => cl env k F_impl_copyFunc [f]) [f] := by
  cases h with
  | @mk n ags rs ls tk cd h1 h2 h3 h4 h5 g1 g2 g3 g4 g5 =>
    refine y_impl_copyFunc _ (Yields.tt (decide_eq_true ?_) (Yields.obind (clip_ins _) (Yields.obind (texts_i ags h1) (Yields.obind (texts_i rs h2) (Yields.obind (texts_i ls h3) (Yields.obind (nums_i tk h4) ?_))))))
    · show ([] : List T).length + cd.length ≤ LIM
      unfold BB at h5; unfold LIM; simp; omega
    · show Yields (fun _ => some [T.st [.int n, .sl ags, .sl rs, .sl ls, .sl tk, T.sl ((([] ++ cd).take ([] ++ cd).length).drop 0)]]) _
      rw [List.take_length, List.drop_zero, List.nil_append]; exact Yields.some _
theorem func6 {f : T} (h : IsFunc BB f) : T.st [f.fld 0, f.fld 1, f.fld 2, f.fld 3, f.fld 4, f.fld 5] = f := by cases h; rfl
def zeroF : T := .st [.int 0, .sl [], .sl [], .sl [], .sl [], .sl []]
/-- Whether there is a function: the same on both sides; then it is that. -/
theorem has_same (ms : List T) (hlen : ms.length ≤ BB) (hm : ∀ x ∈ ms, IsMod BB x) (m f : Int) :
    (Yields (fun k => cl env k F_spec_l4Has [.sl ms, .int m, .int f]) [.bool false] ∧ Yields (fun k => cl env k F_impl_ShelfFunc [.sl ms, .int m, .int f]) [zeroF, .bool false]) ∨
    ∃ (i j : Nat) (g : T), m = i ∧ f = j ∧ i < ms.length ∧ j < (((T.sl ms).nth i).fld 1).es.length ∧ (((T.sl ms).nth i).fld 1).nth j = g ∧ IsFunc BB g ∧
      Yields (fun k => cl env k F_spec_l4Has [.sl ms, .int m, .int f]) [.bool true] ∧ Yields (fun k => cl env k F_impl_ShelfFunc [.sl ms, .int m, .int f]) [g, .bool true] := by
  have w1 : IntKind.wrap .i64 (((T.sl ms).es.length : Int) - (1 : Int)) = (ms.length : Int) - 1 := by show IntKind.wrap .i64 ((ms.length : Int) - 1) = _; unfold BB at hlen; rw [wrap64 (by omega) (by omega)]
  have hin := in_s m 0 ((ms.length : Int) - 1)
  have no1 : ¬ (m ≥ 0 ∧ m ≤ (ms.length : Int) - 1) → Yields (fun k => cl env k F_spec_l4Has [.sl ms, .int m, .int f]) [.bool false] := by
    intro h
    have : (decide (m ≥ 0) && decide (m ≤ (ms.length : Int) - 1)) = false := by
      rw [Bool.eq_false_iff, ne_eq, Bool.and_eq_true, decide_eq_true_eq, decide_eq_true_eq]; exact h
    rw [this] at hin
    refine y_spec_l4Has _ _ _ ?_
    unfold b_spec_l4Has
    rw [w1]
    exact Yields.obind hin (Yields.ff rfl (Yields.some _))
  by_cases h1 : m < 0
  · exact .inl ⟨no1 (by omega), y_impl_ShelfFunc _ _ _ (Yields.tt (decide_eq_true h1) (Yields.some _))⟩
  by_cases h2 : m ≥ (ms.length : Int)
  · exact .inl ⟨no1 (by omega), y_impl_ShelfFunc _ _ _ (Yields.ff (decide_eq_false h1) (Yields.tt (decide_eq_true h2) (Yields.some _)))⟩
  obtain ⟨i, rfl⟩ : ∃ i : Nat, m = i := ⟨m.toNat, by omega⟩
  have hlt : i < ms.length := by omega
  obtain ⟨rs, fs, fr, hx, _, hfl, hff, _⟩ := mod_shape (hm _ (List.getElem_mem hlt))
  have hn : ((T.sl ms).nth (T.int (i : Int)).i.toNat) = .st [.sl rs, .sl fs, .sl fr] := by rw [idx_ok hlt, hx]
  have hn' : ((T.sl ms).nth i) = .st [.sl rs, .sl fs, .sl fr] := by rw [nth_lt hlt, hx]
  have w2 : IntKind.wrap .i64 ((fs.length : Int) - (1 : Int)) = (fs.length : Int) - 1 := by unfold BB at hfl; rw [wrap64 (by omega) (by omega)]
  rw [decide_eq_true (by omega : (i : Int) ≥ 0), decide_eq_true (by omega : (i : Int) ≤ (ms.length : Int) - 1)] at hin
  have hif := in_s f 0 ((fs.length : Int) - 1)
  have has : Yields (fun k => cl env k F_spec_l4Has [.sl ms, .int i, .int f]) [.bool (decide (f ≥ 0) && decide (f ≤ (fs.length : Int) - 1))] := by
    refine y_spec_l4Has _ _ _ ?_
    unfold b_spec_l4Has
    rw [w1, hn]
    have e : (((T.st [.sl rs, .sl fs, .sl fr]).fld 1).es).length = fs.length := rfl
    rw [e, w2]
    exact Yields.obind hin (Yields.tt rfl (Yields.tt (in_tt hlt) (Yields.obind hif (Yields.some _))))
  by_cases h3 : f < 0
  · rw [decide_eq_false (by omega : ¬ f ≥ 0), Bool.false_and] at has
    exact .inl ⟨has, y_impl_ShelfFunc _ _ _ (Yields.ff (decide_eq_false h1) (Yields.ff (decide_eq_false h2) (Yields.tt (decide_eq_true h3) (Yields.some _))))⟩
  by_cases h4 : f ≥ (fs.length : Int)
  · rw [decide_eq_false (by omega : ¬ f ≤ (fs.length : Int) - 1), Bool.and_false] at has
    refine .inl ⟨has, y_impl_ShelfFunc _ _ _ (Yields.ff (decide_eq_false h1) (Yields.ff (decide_eq_false h2) (Yields.ff (decide_eq_false h3) (Yields.tt (in_tt hlt) ?_))))⟩
    rw [hn]
    exact Yields.tt (decide_eq_true h4) (Yields.some _)
  obtain ⟨j, rfl⟩ : ∃ j : Nat, f = j := ⟨f.toNat, by omega⟩
  have hj : j < fs.length := by omega
  rw [decide_eq_true (by omega : (j : Int) ≥ 0), decide_eq_true (by omega : (j : Int) ≤ (fs.length : Int) - 1)] at has
  have hg := hff _ (List.getElem_mem hj)
  refine .inr ⟨i, j, fs[j], rfl, rfl, hlt, by rw [hn']; exact hj, by rw [hn']; exact nth_lt hj, hg, has, y_impl_ShelfFunc _ _ _ (Yields.ff (decide_eq_false h1) (Yields.ff (decide_eq_false h2) (Yields.ff (decide_eq_false h3) (Yields.tt (in_tt hlt) ?_))))⟩
  rw [hn]
  have e : ((T.st [.sl rs, .sl fs, .sl fr]).fld 1).nth (T.int (j : Int)).i.toNat = fs[j] := idx_ok hj
  rw [e]
  refine Yields.ff (decide_eq_false h4) (Yields.tt (in_tt hj) (Yields.obind (func_i _ hg) ?_))
  show Yields (fun _ => some [T.st [fs[j].fld 0, fs[j].fld 1, fs[j].fld 2, fs[j].fld 3, fs[j].fld 4, fs[j].fld 5], T.bool true]) _
  rw [func6 hg]; exact Yields.some _
end Go.Proofs.YtfelodpbejdhlaaGreatDoor.Ra
/- The law of CallOk. -/
namespace Go.Proofs.YtfelodpbejdhlaaGreatDoor.Ra
open Go

theorem isRef_i (s : ByteArray) : Yields (fun k => cl env k F_impl_isRef [.str s]) [.bool (refB s)] := by
  obtain ⟨g, h1, h2⟩ := sign_a s
  refine y_impl_isRef _ (Yields.obind h1 ?_)
  show Yields (fun _ => some [T.bool (!(g.toList == (⟨#[]⟩ : ByteArray).toList))]) _
  rw [h2]; exact Yields.some _
/-- References stand there on neither side, or on both. -/
theorem plain_same (xs : List T) (hx : ∀ x ∈ xs, IsStr x) (hl : xs.length ≤ maxLen) : ∃ c, Yields (fun k => cl env k F_spec_l10Plain [.sl xs]) [.bool c] ∧ Yields (fun k => cl env k F_slices_ContainsFunc_string [.sl xs, .fn F_impl_isRef []]) [.bool (!c)] := by
  have key : ∀ (m i : Nat), i + m = xs.length → ∃ c, Yields (fun k => l_spec_l10Plain_0 (Ra.hl env k fi_spec_l10Plain) (.sl xs) (.int (i : Int))) [.bool c] ∧
      ∃ r : Int, Yields (fun k => l_slices_IndexFunc_string_0 (Ra.hl env k fi_slices_IndexFunc_string) (.sl xs) (.fn F_impl_isRef []) (.int (xs.length : Int)) (.int (i : Int))) [.int r] ∧ decide (r ≥ 0) = !c := by
    intro m
    induction m with
    | zero =>
      intro i hi
      exact ⟨true, y_spec_l10Plain_0 _ _ (Yields.ff (lt_ff (by omega)) (Yields.some _)), -1, y_slices_IndexFunc_string_0 _ _ _ _ (Yields.ff (lt_f (by omega)) (Yields.some _)), rfl⟩
    | succ m ih =>
      intro i hi
      have hlt : i < xs.length := by omega
      obtain ⟨s, hs, _⟩ := hx _ (List.getElem_mem hlt)
      have hn : ((T.sl xs).nth (T.int (i : Int)).i.toNat) = .str s := by rw [idx_ok hlt, hs]
      have h1 := ref_a s
      have h2 := isRef_i s
      rw [← hn] at h1 h2
      cases hr : refB s with
      | true =>
        rw [hr] at h1 h2
        exact ⟨false, y_spec_l10Plain_0 _ _ (Yields.tt (lt_tt hlt) (Yields.tt (in_tt hlt) (Yields.obind h1 (Yields.tt rfl (Yields.some _))))), i, y_slices_IndexFunc_string_0 _ _ _ _ (Yields.tt (lt_t hlt) (Yields.tt (in_tt hlt) (Yields.obind h2 (Yields.tt rfl (Yields.some _))))),
          decide_eq_true (by omega)⟩
      | false =>
        rw [hr] at h1 h2
        obtain ⟨c, y1, r, y2, y3⟩ := ih (i + 1) (by omega)
        have hnx := next_ok hlt hl
        rw [← hnx] at y1 y2
        exact ⟨c, y_spec_l10Plain_0 _ _ (Yields.tt (lt_tt hlt) (Yields.tt (in_tt hlt) (Yields.obind h1 (Yields.ff rfl y1)))), r, y_slices_IndexFunc_string_0 _ _ _ _ (Yields.tt (lt_t hlt) (Yields.tt (in_tt hlt) (Yields.obind h2 (Yields.ff rfl y2)))), y3⟩
  obtain ⟨c, y1, r, y2, y3⟩ := key xs.length 0 (by omega)
  refine ⟨c, y_spec_l10Plain _ y1, y_slices_ContainsFunc_string _ _ (Yields.obind (y_slices_IndexFunc_string _ _ y2) ?_)⟩
  show Yields (fun _ => some [T.bool (decide (r ≥ 0))]) _
  rw [y3]; exact Yields.some _

theorem call_same (ms es vs : List T) (hms : IsShelf BB (.sl ms)) (hes : IsList BB (.sl es)) (hvs : IsVals BB (.sl vs)) (ow m f fuel : Int) :
    ∃ c, Yields (fun k => cl env k F_spec_CallOk [.sl ms, .sl es, .int ow, .int m, .int f, .sl vs, .int fuel]) [.bool c] ∧ Yields (fun k => cl env k F_impl_CallOk [.sl ms, .sl es, .int ow, .int m, .int f, .sl vs, .int fuel]) [.bool c] := by
  obtain ⟨_, he, hlen, hm⟩ := hms
  cases he
  obtain ⟨_, he, hl1, hl2⟩ := hes
  cases he
  obtain ⟨_, he, hv1, hv2⟩ := hvs
  cases he
  obtain ⟨c, s1, s2, s3⟩ := shape_same ms hlen hm
  cases c with
  | false => exact ⟨false, y_spec_CallOk _ _ _ _ _ _ _ (Yields.obind s1 (Yields.tt rfl (Yields.some _))), y_impl_CallOk _ _ _ _ _ _ _ (Yields.obind s2 (Yields.tt rfl (Yields.some _)))⟩
  | true =>
    obtain ⟨hear, hkok⟩ := s3 rfl
    have hear : Early (kindsOf ms) (kindsOf ms).length 0 := by rw [kindsOf_len]; exact hear
    have hkr := kinds_recs hm
    have hb := bb_max (Nat.le_refl BB)
    have k1 := kinds_s ms hlen hm
    have k2 := kinds_i ms hlen hm
    have o1 := in_s ow 0 3
    have o2 := in_s fuel 0 300
    -- what both come to, when all but the order of the tests is told
    by_cases f1 : fuel < 0
    · rw [decide_eq_false (by omega : ¬ fuel ≥ 0), Bool.false_and] at o2
      refine ⟨false, y_spec_CallOk _ _ _ _ _ _ _ (Yields.obind s1 (Yields.ff rfl ?_)), y_impl_CallOk _ _ _ _ _ _ _ (Yields.obind s2 (Yields.ff rfl (Yields.tt (decide_eq_true f1) (Yields.some _))))⟩
      rcases has_same ms hlen hm m f with ⟨a, _⟩ | ⟨_, _, _, _, _, _, _, _, _, a, _⟩
      · exact Yields.obind a (Yields.tt rfl (Yields.some _))
      · refine Yields.obind a (Yields.ff rfl (Yields.obind o1 ?_))
        cases (decide (ow ≥ 0) && decide (ow ≤ 3)) with
        | false => exact Yields.tt rfl (Yields.some _)
        | true => exact Yields.ff rfl (Yields.obind o2 (Yields.tt rfl (Yields.some _)))
    by_cases f2 : fuel > 300
    · rw [decide_eq_false (by omega : ¬ fuel ≤ 300), Bool.and_false] at o2
      refine ⟨false, y_spec_CallOk _ _ _ _ _ _ _ (Yields.obind s1 (Yields.ff rfl ?_)), y_impl_CallOk _ _ _ _ _ _ _ (Yields.obind s2 (Yields.ff rfl (Yields.ff (decide_eq_false f1) (Yields.tt (decide_eq_true f2) (Yields.some _)))))⟩
      rcases has_same ms hlen hm m f with ⟨a, _⟩ | ⟨_, _, _, _, _, _, _, _, _, a, _⟩
      · exact Yields.obind a (Yields.tt rfl (Yields.some _))
      · refine Yields.obind a (Yields.ff rfl (Yields.obind o1 ?_))
        cases (decide (ow ≥ 0) && decide (ow ≤ 3)) with
        | false => exact Yields.tt rfl (Yields.some _)
        | true => exact Yields.ff rfl (Yields.obind o2 (Yields.tt rfl (Yields.some _)))
    rw [decide_eq_true (by omega : fuel ≥ 0), decide_eq_true (by omega : fuel ≤ 300)] at o2
    by_cases f3 : ow < 0
    · rw [decide_eq_false (by omega : ¬ ow ≥ 0), Bool.false_and] at o1
      refine ⟨false, y_spec_CallOk _ _ _ _ _ _ _ (Yields.obind s1 (Yields.ff rfl ?_)), y_impl_CallOk _ _ _ _ _ _ _ (Yields.obind s2 (Yields.ff rfl (Yields.ff (decide_eq_false f1) (Yields.ff (decide_eq_false f2) (Yields.tt (decide_eq_true f3) (Yields.some _))))))⟩
      rcases has_same ms hlen hm m f with ⟨a, _⟩ | ⟨_, _, _, _, _, _, _, _, _, a, _⟩
      · exact Yields.obind a (Yields.tt rfl (Yields.some _))
      · exact Yields.obind a (Yields.ff rfl (Yields.obind o1 (Yields.tt rfl (Yields.some _))))
    by_cases f4 : ow ≥ 4
    · rw [decide_eq_false (by omega : ¬ ow ≤ 3), Bool.and_false] at o1
      refine ⟨false, y_spec_CallOk _ _ _ _ _ _ _ (Yields.obind s1 (Yields.ff rfl ?_)), y_impl_CallOk _ _ _ _ _ _ _ (Yields.obind s2 (Yields.ff rfl (Yields.ff (decide_eq_false f1) (Yields.ff (decide_eq_false f2) (Yields.ff (decide_eq_false f3) (Yields.tt (decide_eq_true f4) (Yields.some _)))))))⟩
      rcases has_same ms hlen hm m f with ⟨a, _⟩ | ⟨_, _, _, _, _, _, _, _, _, a, _⟩
      · exact Yields.obind a (Yields.tt rfl (Yields.some _))
      · exact Yields.obind a (Yields.ff rfl (Yields.obind o1 (Yields.tt rfl (Yields.some _))))
    rw [decide_eq_true (by omega : ow ≥ 0), decide_eq_true (by omega : ow ≤ 3)] at o1
    have e1 := decide_eq_false f1
    have e2 := decide_eq_false f2
    have e3 := decide_eq_false f3
    have e4 := decide_eq_false f4
    rcases has_same ms hlen hm m f with ⟨a, b⟩ | ⟨i, j, g, rfl, rfl, hi, hj, hg, hgf, a, b⟩
    · exact ⟨false, y_spec_CallOk _ _ _ _ _ _ _ (Yields.obind s1 (Yields.ff rfl (Yields.obind a (Yields.tt rfl (Yields.some _))))), y_impl_CallOk _ _ _ _ _ _ _ (Yields.obind s2 (Yields.ff rfl (Yields.ff e1 (Yields.ff e2 (Yields.ff e3 (Yields.ff e4 (Yields.obind k2 (Yields.obind b (Yields.tt rfl (Yields.some _))))))))))⟩
    -- the vaults
    obtain ⟨cv, v1, v2, v3, _⟩ := list_same (hb := hb) hkr hear es hl2 hl1 es.length 0 (by omega)
    have vi : Yields (fun k => cl env k F_impl_VaultsOk [.sl (kindsOf ms), .sl es]) [.bool cv] := by
      refine y_impl_VaultsOk _ _ (Yields.obind hkok (Yields.ff rfl (Yields.ite (fun e => ?_) (fun e => ?_))))
      · rw [v2 (of_decide_eq_true e)]; exact Yields.some _
      · exact v3 (of_decide_eq_false e)
    have vs' := y_spec_l9Ok _ _ v1
    have hidx : (decide (0 ≤ (T.int (i : Int)).i) && decide ((T.int (i : Int)).i.toNat < (T.sl ms).es.length)) = true := in_tt hi
    have hge : ((T.sl ms).nth (T.int (i : Int)).i.toNat) = (T.sl ms).nth i := by rw [idx_ok hi, nth_lt hi]
    have hge2 : ((((T.sl ms).nth (T.int (i : Int)).i.toNat).fld 1).nth (T.int (j : Int)).i.toNat) = g := by
      rw [hge]; show (((T.sl ms).nth i).fld 1).nth ((j : Int).toNat) = g; rw [Int.toNat_natCast]; exact hg
    have hidx2 : (decide (0 ≤ (T.int (j : Int)).i) && decide ((T.int (j : Int)).i.toNat < ((((T.sl ms).nth (T.int (i : Int)).i.toNat).fld 1).es).length)) = true := by
      rw [hge, Bool.and_eq_true]
      exact ⟨decide_eq_true (by show (0 : Int) ≤ j; omega), decide_eq_true (by show (j : Int).toNat < _; rw [Int.toNat_natCast]; exact hj)⟩
    cases hgf with
    | @mk n ags rs ls tk cd h1 h2 h3 h4 h5 g1 g2 g3 g4 g5 =>
      obtain ⟨cp, p1, p2⟩ := plain_same ags g1 (bb_max h1)
      obtain ⟨cq, q1, q2⟩ := plain_same rs g2 (bb_max h2)
      -- the arguments
      have loop : ∃ c, ((vs.length : Int) = (ags.length : Int) → Yields (fun k => l_spec_CallOk_0 (hl env k fi_spec_CallOk) (.sl vs) (.int 0) (.sl (kindsOf ms)) (.st [.int n, .sl ags, .sl rs, .sl ls, .sl tk, .sl cd])) [.bool c] ∧
          Yields (fun k => l_impl_CallOk_0 (hl env k fi_impl_CallOk) (.sl vs) (.int (vs.length : Int)) (.int 0) (.sl (kindsOf ms)) (.st [.int n, .sl ags, .sl rs, .sl ls, .sl tk, .sl cd])) [.bool c]) := by
        by_cases hva : (vs.length : Int) = (ags.length : Int)
        rotate_left
        · exact ⟨false, fun h => absurd h hva⟩
        let fb : Nat → Bool := fun q => (((((T.sl vs).nth q).fld 0).s.toList == (((T.sl ags).nth q).s).toList) && yB fun k => cl env k F_spec_l2Ok [.sl (kindsOf ms), (T.sl vs).nth q])
        refine ⟨allF fb 0 vs.length && true, fun _ => ⟨ask_all (A := fun q k => l_spec_CallOk_0 (hl env k fi_spec_CallOk) (.sl vs) (.int (q : Int)) (.sl (kindsOf ms)) (.st [.int n, .sl ags, .sl rs, .sl ls, .sl tk, .sl cd])) (fun q hq r a1 a2 => ?_) (y_spec_CallOk_0 _ _ _ _ (Yields.ff (lt_ff (by omega)) (Yields.some _))),
          ask_all (A := fun q k => l_impl_CallOk_0 (hl env k fi_impl_CallOk) (.sl vs) (.int (vs.length : Int)) (.int (q : Int)) (.sl (kindsOf ms)) (.st [.int n, .sl ags, .sl rs, .sl ls, .sl tk, .sl cd])) (fun q hq r a1 a2 => ?_) (y_impl_CallOk_0 _ _ _ _ _ (Yields.ff (lt_f (by omega)) (Yields.some _)))⟩⟩
        · have hqa : q < ags.length := by omega
          obtain ⟨c, z1, z2, _⟩ := fits_same hkr hb _ (hv2 _ (List.getElem_mem hq))
          have hyb : (yB fun k => cl env k F_spec_l2Ok [.sl (kindsOf ms), (T.sl vs).nth q]) = c := by rw [nth_lt hq]; exact yB_eq z1
          have hn : ((T.sl vs).nth (T.int (q : Int)).i.toNat) = (T.sl vs).nth q := by rw [idx_ok hq, nth_lt hq]
          have hn2 : (((T.st [.int n, .sl ags, .sl rs, .sl ls, .sl tk, .sl cd]).fld 1).nth (T.int (q : Int)).i.toNat) = (T.sl ags).nth q := by show (T.sl ags).nth ((q : Int).toNat) = _; rw [Int.toNat_natCast]
          refine y_spec_CallOk_0 _ _ _ _ (Yields.tt (lt_tt hq) (Yields.tt (in_tt hq) (Yields.tt (in_tt hqa) ?_)))
          rw [hn, hn2, next_ok hq (bb_max hv1)]
          refine Yields.ite (fun e => ?_) (fun e => ?_)
          · have e' : (!((((T.sl vs).nth q).fld 0).s.toList == (((T.sl ags).nth q).s).toList)) = true := e
            rw [Bool.not_eq_true'] at e'
            rw [a1 (by show (_ && _) = false; rw [e', Bool.false_and])]; exact Yields.some _
          · have e' : (!((((T.sl vs).nth q).fld 0).s.toList == (((T.sl ags).nth q).s).toList)) = false := e
            rw [Bool.not_eq_false'] at e'
            rw [← nth_lt hq] at z1
            refine Yields.obind z1 ?_
            cases hc : c with
            | false => rw [a1 (by show (_ && _) = false; rw [hyb, hc, Bool.and_false])]; exact Yields.tt rfl (Yields.some _)
            | true => exact Yields.ff rfl (a2 (by show (_ && _) = true; rw [hyb, hc, e']; rfl))
        · have hqa : q < ags.length := by omega
          obtain ⟨c, z1, z2, _⟩ := fits_same hkr hb _ (hv2 _ (List.getElem_mem hq))
          have hyb : (yB fun k => cl env k F_spec_l2Ok [.sl (kindsOf ms), (T.sl vs).nth q]) = c := by rw [nth_lt hq]; exact yB_eq z1
          have hn : ((T.sl vs).nth (T.int (q : Int)).i.toNat) = (T.sl vs).nth q := by rw [idx_ok hq, nth_lt hq]
          have hn2 : (((T.st [.int n, .sl ags, .sl rs, .sl ls, .sl tk, .sl cd]).fld 1).nth (T.int (q : Int)).i.toNat) = (T.sl ags).nth q := by show (T.sl ags).nth ((q : Int).toNat) = _; rw [Int.toNat_natCast]
          refine y_impl_CallOk_0 _ _ _ _ _ (Yields.tt (lt_t hq) (Yields.tt (in_tt hq) (Yields.tt (in_tt hqa) ?_)))
          rw [hn, hn2, next_ok hq (bb_max hv1)]
          refine Yields.ite (fun e => ?_) (fun e => ?_)
          · have e' : (!((((T.sl vs).nth q).fld 0).s.toList == (((T.sl ags).nth q).s).toList)) = true := e
            rw [Bool.not_eq_true'] at e'
            rw [a1 (by show (_ && _) = false; rw [e', Bool.false_and])]; exact Yields.some _
          · have e' : (!((((T.sl vs).nth q).fld 0).s.toList == (((T.sl ags).nth q).s).toList)) = false := e
            rw [Bool.not_eq_false'] at e'
            rw [← nth_lt hq] at z2
            refine Yields.obind z2 ?_
            cases hc : c with
            | false => rw [a1 (by show (_ && _) = false; rw [hyb, hc, Bool.and_false])]; exact Yields.tt rfl (Yields.some _)
            | true => exact Yields.ff rfl (a2 (by show (_ && _) = true; rw [hyb, hc, e']; rfl))
      obtain ⟨cl', hloop⟩ := loop
      let c : Bool := cv && ((n == 2) && (cp && (cq && (((vs.length : Int) == (ags.length : Int)) && cl'))))
      refine ⟨c, y_spec_CallOk _ _ _ _ _ _ _ (Yields.obind s1 (Yields.ff rfl (Yields.obind a (Yields.ff rfl (Yields.obind o1 (Yields.ff rfl (Yields.obind o2 (Yields.ff rfl (Yields.obind k1 (Yields.tt hidx (Yields.tt hidx2 ?_))))))))))),
        y_impl_CallOk _ _ _ _ _ _ _ (Yields.obind s2 (Yields.ff rfl (Yields.ff e1 (Yields.ff e2 (Yields.ff e3 (Yields.ff e4 (Yields.obind k2 (Yields.obind b (Yields.ff rfl ?_)))))))))⟩
      · rw [hge2]
        show Yields _ [T.bool (cv && ((n == 2) && (cp && (cq && (((vs.length : Int) == (ags.length : Int)) && cl')))))]
        refine Yields.obind vs' ?_
        cases cv with
        | false => exact Yields.tt rfl (Yields.some _)
        | true =>
          refine Yields.ff rfl (Yields.ite (fun e => ?_) (fun e => ?_))
          · have : (n == 2) = false := by have : (n != 2) = true := e
                                          simpa using this
            rw [this]; exact Yields.some _
          · have : (n == 2) = true := by have : (n != 2) = false := e
                                         simpa using this
            rw [this]
            refine Yields.obind p1 ?_
            cases cp with
            | false => exact Yields.tt rfl (Yields.some _)
            | true =>
              refine Yields.ff rfl (Yields.obind q1 ?_)
              cases cq with
              | false => exact Yields.tt rfl (Yields.some _)
              | true =>
                refine Yields.ff rfl (Yields.ite (fun e => ?_) (fun e => ?_))
                · have : ((vs.length : Int) == (ags.length : Int)) = false := by have : ((vs.length : Int) != (ags.length : Int)) = true := e
                                                                                 simpa using this
                  rw [this]; exact Yields.some _
                · have : ((vs.length : Int) == (ags.length : Int)) = true := by have : ((vs.length : Int) != (ags.length : Int)) = false := e
                                                                                simpa using this
                  rw [this]; exact (hloop (by simpa using this)).1
      · show Yields _ [T.bool (cv && ((n == 2) && (cp && (cq && (((vs.length : Int) == (ags.length : Int)) && cl')))))]
        refine Yields.ite (fun e => ?_) (fun e => ?_)
        · have : (n == 2) = false := by have : (n != 2) = true := e
                                        simpa using this
          rw [this, Bool.false_and, Bool.and_false]; exact Yields.some _
        · have : (n == 2) = true := by have : (n != 2) = false := e
                                       simpa using this
          rw [this]
          refine Yields.obind vi ?_
          cases cv with
          | false => exact Yields.tt rfl (Yields.some _)
          | true =>
            refine Yields.ff rfl (Yields.ite (fun e => ?_) (fun e => ?_))
            · have : ((vs.length : Int) == (ags.length : Int)) = false := by have : ((vs.length : Int) != (ags.length : Int)) = true := e
                                                                             simpa using this
              rw [this, Bool.false_and, Bool.and_false, Bool.and_false]; exact Yields.some _
            · have hva : ((vs.length : Int) == (ags.length : Int)) = true := by have : ((vs.length : Int) != (ags.length : Int)) = false := e
                                                                                simpa using this
              rw [hva]
              refine Yields.obind p2 ?_
              cases cp with
              | false => exact Yields.tt rfl (Yields.some _)
              | true =>
                refine Yields.ff rfl (Yields.obind q2 ?_)
                cases cq with
                | false => exact Yields.tt rfl (Yields.some _)
                | true => exact Yields.ff rfl (hloop (by simpa using hva)).2

theorem law_exactCallOk (st lt vt : T) (ow m f fuel : Int) (hs : IsShelf maxLen st) (hl : IsList maxLen lt) (hv : IsVals maxLen vt) : Yields (fun k => cl env k F_laws_FnExactCallOk [st, lt, .int ow, .int m, .int f, vt, .int fuel]) [.bool true] := by
  refine y_laws_FnExactCallOk _ _ _ _ _ _ _ ?_
  obtain ⟨n, a1, a2, a3, a4⟩ := sz_shelf st 1048576 hs (by omega) (by omega)
  refine Yields.obind a1 (Yields.ite (fun _ => Yields.some _) (fun e => ?_))
  have hn : ¬ n < 0 := of_decide_eq_false e
  obtain ⟨hs, _⟩ := a4 (by omega)
  obtain ⟨m', b1, b2, b3, b4⟩ := sz_list lt n hl (by omega) (by omega)
  refine Yields.obind b1 (Yields.ite (fun _ => Yields.some _) (fun e => ?_))
  have hm : ¬ m' < 0 := of_decide_eq_false e
  obtain ⟨hl, _⟩ := b4 (by omega)
  obtain ⟨q, g1, g2, g3, g4⟩ := sz_vals vt m' hv (by omega) (by omega)
  refine Yields.obind g1 (Yields.ite (fun _ => Yields.some _) (fun e => ?_))
  have hq : ¬ q < 0 := of_decide_eq_false e
  obtain ⟨hv, _⟩ := g4 (by omega)
  have ts := to_shelf st hs
  have tl := to_list lt hl
  have tv := to_vals vt hv
  have es := eq_shelf st hs
  have el := eq_list lt hl
  have ev := eq_vals vt hv
  have ne_bool : ∀ c : Bool, (!(c == c)) = false := fun c => by cases c <;> rfl
  have hs' := hs
  have hl' := hl
  have hv' := hv
  obtain ⟨ms, rfl, _⟩ := hs
  obtain ⟨ls, rfl, _⟩ := hl
  obtain ⟨vs, rfl, _⟩ := hv
  obtain ⟨c, c1, c2⟩ := call_same ms ls vs hs' hl' hv' ow m f fuel
  exact Yields.obind ts (Yields.obind tl (Yields.obind tv (Yields.obind c1 (Yields.obind ts (Yields.obind tl (Yields.obind tv (Yields.obind c2 (Yields.ff (ne_bool c) (Yields.obind ts (Yields.obind es (Yields.ff rfl (Yields.obind tl (Yields.obind el (Yields.ff rfl
    (Yields.obind tv (Yields.obind ev (Yields.ff rfl (Yields.some _))))))))))))))))))
end Go.Proofs.YtfelodpbejdhlaaGreatDoor.Ra
