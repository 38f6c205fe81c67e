/- A verified evaluator for the program, part Pl1 of this claim. -/
import Derived.Test.YtfelodpbejdhlaaDoorRbX
import Derived.Test.YtfelodpbejdhlaaDoorEq
import Derived.Laws.Strings
set_option linter.unusedSimpArgs false
set_option linter.unusedVariables false
/- Plain side: loops over slices of one shape; trees of values and records. -/
namespace Go.Proofs.YtfelodpbejdhlaaDoor.Ra
open Go

theorem Yields.uniq {x : Nat → R} {r r' : List T} (h : Yields x r) (h' : Yields x r') : r = r' := by
  obtain ⟨m, hm⟩ := h
  obtain ⟨n, hn⟩ := h'
  have h1 := hm (m + n) (by omega)
  rw [hn (m + n) (by omega)] at h1
  exact (Option.some.inj h1).symm
theorem maxLen_eq : maxLen = 9223372036854775807 := by decide
theorem idx_ok {es : List T} {i : Nat} (h : i < es.length) : (T.sl es).nth (T.int (i : Int)).i.toNat = es[i] := by
  show (T.sl es).nth ((i : Int).toNat) = es[i]
  rw [Int.toNat_natCast, nth_lt h]
theorem lt_tt {es : List T} {i : Nat} (h : i < es.length) : decide ((T.int (i : Int)).i < ((T.sl es).es.length : Int)) = true := by
  apply decide_eq_true; show (i : Int) < (es.length : Int); omega
theorem lt_ff {es : List T} {i : Nat} (h : ¬ i < es.length) : decide ((T.int (i : Int)).i < ((T.sl es).es.length : Int)) = false := by
  apply decide_eq_false; show ¬ (i : Int) < (es.length : Int); omega
theorem in_tt {es : List T} {i : Nat} (h : i < es.length) : (decide (0 ≤ (T.int (i : Int)).i) && decide ((T.int (i : Int)).i.toNat < (T.sl es).es.length)) = true := by
  rw [Bool.and_eq_true]
  refine ⟨decide_eq_true ?_, decide_eq_true ?_⟩
  · show (0 : Int) ≤ i; omega
  · show (i : Int).toNat < es.length; omega
theorem next_ok {n i : Nat} (h : i < n) (hn : n ≤ maxLen) : T.int (IntKind.wrap .i64 ((T.int (i : Int)).i + (1 : Int))) = T.int ((i + 1 : Nat) : Int) := by
  rw [maxLen_eq] at hn
  show T.int (IntKind.wrap .i64 ((i : Int) + 1)) = _
  rw [wrap64 (by omega) (by omega)]
  rfl

mutual
/-- How many elements there are, at any depth. -/
def T.wt : T → Nat
  | .sl es => T.wts es + es.length
  | .st fs => T.wts fs
  | _ => 0
def T.wts : List T → Nat
  | [] => 0
  | t :: l => t.wt + T.wts l
end
theorem wts_drop {es : List T} {i : Nat} (h : i < es.length) : T.wts (es.drop i) = es[i].wt + T.wts (es.drop (i + 1)) := by rw [List.drop_eq_getElem_cons h]; rfl
theorem wts_ints : ∀ {is : List T}, (∀ x ∈ is, ∃ m : Int, x = .int m) → T.wts is = 0
  | [], _ => rfl
  | t :: l, h => by
    obtain ⟨m, rfl⟩ := h t (by simp)
    simp only [T.wts, T.wt, wts_ints (is := l) (fun x hx => h x (by simp [hx]))]

section
variable {E : Env}
/-- 'left' falls by what each element takes; below 0 all ends. -/
theorem sz_loop {L : Nat → T → T → T → R} {F : Nat} {p q : T → Prop}
    (hL : ∀ (x1 x2 x3 : T) (r : List T), Yields (fun k =>
      bif (decide (x3.i < (x1.es.length : Int))) then
        bif (decide (0 ≤ x3.i) && decide (x3.i.toNat < x1.es.length)) then
          obind (cl E k F [(x1.nth x3.i.toNat), x2]) fun r1 =>
          bif (decide ((rt r1 0).i < (0 : Int))) then
            some [(T.int (-1 : Int))]
          else
            L k x1 (rt r1 0) (T.int (IntKind.wrap .i64 (x3.i + (1 : Int))))
        else
          none
      else
        some [x2]) r → Yields (fun k => L k x1 x2 x3) r)
    (hF : ∀ (t : T) (left : Int), p t → 0 ≤ left → left ≤ 1048576 → ∃ n, Yields (fun k => cl E k F [t, .int left]) [.int n] ∧ -1 ≤ n ∧ n ≤ left ∧ (0 ≤ n → q t ∧ n + (t.wt : Int) ≤ left))
    (es : List T) (hp : ∀ t ∈ es, p t) (hlen : es.length ≤ maxLen) : ∀ (left : Int), 0 ≤ left → left ≤ 1048576 →
      ∃ n, Yields (fun k => L k (.sl es) (.int left) (.int 0)) [.int n] ∧ -1 ≤ n ∧ n ≤ left ∧ (0 ≤ n → (∀ t ∈ es, q t) ∧ n + (T.wts es : Int) ≤ left) := by
  have key : ∀ (m i : Nat) (left : Int), i + m = es.length → 0 ≤ left → left ≤ 1048576 →
      ∃ n, Yields (fun k => L k (.sl es) (.int left) (.int (i : Int))) [.int n] ∧ -1 ≤ n ∧ n ≤ left ∧ (0 ≤ n → (∀ j, i ≤ j → ∀ t, es[j]? = some t → q t) ∧ n + (T.wts (es.drop i) : Int) ≤ left) := by
    intro m
    induction m with
    | zero =>
      intro i left hi h0 h1
      refine ⟨left, hL _ _ _ _ (Yields.ff (lt_ff (by omega)) (Yields.some _)), by omega, by omega, fun _ => ⟨fun j hj t ht => ?_, ?_⟩⟩
      · have := (List.getElem?_eq_some_iff.1 ht).1
        omega
      · rw [List.drop_eq_nil_of_le (by omega)]; simp [T.wts]
    | succ m ih =>
      intro i left hi h0 h1
      have hlt : i < es.length := by omega
      obtain ⟨n1, y1, a1, a2, a3⟩ := hF es[i] left (hp _ (List.getElem_mem hlt)) h0 h1
      have y1' : Yields (fun k => cl E k F [((T.sl es).nth (T.int (i : Int)).i.toNat), (T.int left)]) [.int n1] := by rw [idx_ok hlt]; exact y1
      by_cases hn : n1 < 0
      · refine ⟨-1, hL _ _ _ _ (Yields.tt (lt_tt hlt) (Yields.tt (in_tt hlt) (Yields.obind y1' (Yields.tt (decide_eq_true hn) (Yields.some _))))), by omega, by omega, fun h => by omega⟩
      · obtain ⟨n, y2, b1, b2, b3⟩ := ih (i + 1) n1 (by omega) (by omega) (by omega)
        refine ⟨n, hL _ _ _ _ (Yields.tt (lt_tt hlt) (Yields.tt (in_tt hlt) (Yields.obind y1' (Yields.ff (decide_eq_false hn) ?_)))), b1, by omega, fun h => ⟨fun j hj t ht => ?_, ?_⟩⟩
        · rw [next_ok hlt hlen]; exact y2
        · by_cases hji : j = i
          · subst hji
            rw [List.getElem?_eq_getElem hlt] at ht; cases ht
            exact (a3 (by omega)).1
          · exact (b3 h).1 j (by omega) t ht
        · rw [wts_drop hlt]
          have := (a3 (by omega)).2
          have := (b3 h).2
          omega
  intro left h0 h1
  obtain ⟨n, y, b1, b2, b3⟩ := key es.length 0 left (by omega) h0 h1
  exact ⟨n, y, b1, b2, fun h => ⟨fun t ht => by
    obtain ⟨j, hj⟩ := List.mem_iff_getElem?.1 ht
    exact (b3 h).1 j (Nat.zero_le _) t hj, (b3 h).2⟩⟩

/-- What was made is filled, an element a round, with what is there already told as the same. -/
theorem to_loop {L : Nat → T → T → T → R} (es zs : List T) (hz : zs.length = es.length) (hlen : es.length ≤ maxLen)
    (step : ∀ (i : Nat) (t : T) (x3 : T) (r : List T), es[i]? = some t → x3.es.length = es.length → Yields (fun k => L k (.sl es) (T.int (IntKind.wrap .i64 ((T.int (i : Int)).i + (1 : Int)))) (T.sl (x3.es.set i t))) r → Yields (fun k => L k (.sl es) (.int (i : Int)) x3) r)
    (done : ∀ (x3 : T), Yields (fun k => L k (.sl es) (.int (es.length : Int)) x3) [x3]) : Yields (fun k => L k (.sl es) (.int 0) (.sl zs)) [.sl es] := by
  have key : ∀ (m i : Nat), i + m = es.length → ∀ (ys : List T), ys.length = es.length → (∀ j, j < i → ys[j]? = es[j]?) → Yields (fun k => L k (.sl es) (.int (i : Int)) (.sl ys)) [.sl es] := by
    intro m
    induction m with
    | zero =>
      intro i hi ys hy hs
      have hie : i = es.length := by omega
      subst hie
      have : ys = es := List.ext_getElem? fun j => by
        by_cases hj : j < es.length
        · exact hs j hj
        · rw [List.getElem?_eq_none (by omega), List.getElem?_eq_none (by omega)]
      rw [this]
      exact done _
    | succ m ih =>
      intro i hi ys hy hs
      have hlt : i < es.length := by omega
      refine step i es[i] (.sl ys) _ (List.getElem?_eq_getElem hlt) hy ?_
      rw [next_ok hlt hlen]
      refine ih (i + 1) (by omega) _ (by simp [T.es, hy]) fun j hj => ?_
      show (ys.set i es[i])[j]? = es[j]?
      by_cases hji : j = i
      · subst hji; rw [List.getElem?_set_self (by omega), List.getElem?_eq_getElem hlt]
      · rw [List.getElem?_set_ne (Ne.symm hji)]; exact hs j (by omega)
  exact key es.length 0 (by omega) zs hz fun j hj => by omega

/-- A slice is the same as itself. -/
theorem eq_loop {L : Nat → T → T → T → R} {F : Nat}
    (hL : ∀ (x1 x2 x3 : T) (r : List T), Yields (fun k =>
      bif (decide (x3.i < (x1.es.length : Int))) then
        bif (decide (0 ≤ x3.i) && decide (x3.i.toNat < x1.es.length)) then
          bif (decide (0 ≤ x3.i) && decide (x3.i.toNat < x2.es.length)) then
            obind (cl E k F [(x1.nth x3.i.toNat), (x2.nth x3.i.toNat)]) fun r1 =>
            bif (!(rt r1 0).b) then
              some [(T.bool false)]
            else
              L k x1 x2 (T.int (IntKind.wrap .i64 (x3.i + (1 : Int))))
          else
            none
        else
          none
      else
        some [(T.bool true)]) r → Yields (fun k => L k x1 x2 x3) r)
    (es : List T) (hlen : es.length ≤ maxLen) (hF : ∀ t ∈ es, Yields (fun k => cl E k F [t, t]) [.bool true]) : Yields (fun k => L k (.sl es) (.sl es) (.int 0)) [.bool true] := by
  have key : ∀ (m i : Nat), i + m = es.length → Yields (fun k => L k (.sl es) (.sl es) (.int (i : Int))) [.bool true] := by
    intro m
    induction m with
    | zero => intro i hi; exact hL _ _ _ _ (Yields.ff (lt_ff (by omega)) (Yields.some _))
    | succ m ih =>
      intro i hi
      have hlt : i < es.length := by omega
      have y1 : Yields (fun k => cl E k F [((T.sl es).nth (T.int (i : Int)).i.toNat), ((T.sl es).nth (T.int (i : Int)).i.toNat)]) [.bool true] := by rw [idx_ok hlt]; exact hF _ (List.getElem_mem hlt)
      refine hL _ _ _ _ (Yields.tt (lt_tt hlt) (Yields.tt (in_tt hlt) (Yields.tt (in_tt hlt) (Yields.obind y1 (Yields.ff rfl ?_)))))
      rw [next_ok hlt hlen]; exact ih (i + 1) (by omega)
  exact key es.length 0 (by omega)
end

/- ---- trees of this program ---- -/
inductive IsVal (b : Nat) : T → Prop
  | mk {s : ByteArray} {n : Int} {ps is : List T} : s.size ≤ maxLen → -9223372036854775808 ≤ n → n ≤ 9223372036854775807 → ps.length ≤ b → is.length ≤ b → (∀ x ∈ is, ∃ m : Int, x = .int m) → (∀ x ∈ ps, IsVal b x) →
      IsVal b (.st [.str s, .int n, .sl ps, .sl is])
def IsStr (t : T) : Prop := ∃ s : ByteArray, t = .str s ∧ s.size ≤ maxLen
def IsRec (b : Nat) (t : T) : Prop := ∃ (a : Int) (fs : List T), t = .st [.int a, .sl fs] ∧ -9223372036854775808 ≤ a ∧ a ≤ 9223372036854775807 ∧ fs.length ≤ b ∧ ∀ x ∈ fs, IsStr x
def IsRecs (b : Nat) (t : T) : Prop := ∃ rs : List T, t = .sl rs ∧ rs.length ≤ b ∧ ∀ x ∈ rs, IsRec b x
def IsKinds (b : Nat) (t : T) : Prop := ∃ ks : List T, t = .sl ks ∧ ks.length ≤ b ∧ ∀ x ∈ ks, IsRecs b x
def IsKept (b : Nat) (t : T) : Prop := ∃ (o : Int) (v : T), t = .st [.int o, v] ∧ -9223372036854775808 ≤ o ∧ o ≤ 9223372036854775807 ∧ IsVal b v
def IsList (b : Nat) (t : T) : Prop := ∃ ks : List T, t = .sl ks ∧ ks.length ≤ b ∧ ∀ x ∈ ks, IsKept b x
def IsVals (b : Nat) (t : T) : Prop := ∃ ks : List T, t = .sl ks ∧ ks.length ≤ b ∧ ∀ x ∈ ks, IsVal b x
end Go.Proofs.YtfelodpbejdhlaaDoor.Ra
/- Plain side: sizes, copies, equality. -/
namespace Go.Proofs.YtfelodpbejdhlaaDoor.Ra
open Go

def BB : Nat := 1048576
def SzOk (F : Nat) (p : Nat → T → Prop) : Prop := ∀ (t : T) (left : Int), p maxLen t → 0 ≤ left → left ≤ 1048576 → ∃ n, Yields (fun k => cl env k F [t, .int left]) [.int n] ∧ -1 ≤ n ∧ n ≤ left ∧ (0 ≤ n → p BB t ∧ n + (t.wt : Int) ≤ left)

theorem sub_ok {left : Int} {n : Nat} (h0 : 0 ≤ left) (h1 : left ≤ 1048576) (hn : n ≤ maxLen) : IntKind.wrap .i64 (left - (n : Int)) = left - n := by
  rw [maxLen_eq] at hn
  exact wrap64 (by omega) (by omega)

theorem sz_int : ∀ (is : List T) (left : Int), is.length ≤ maxLen → 0 ≤ left → left ≤ 1048576 → ∃ n, Yields (fun k => cl env k F_laws_szIntS [.sl is, .int left]) [.int n] ∧ -1 ≤ n ∧ n ≤ left ∧ (0 ≤ n → is.length ≤ BB ∧ n + (is.length : Int) ≤ left) := by
  intro is left hl h0 h1
  by_cases hn : left - (is.length : Int) < 0
  · refine ⟨-1, y_laws_szIntS _ _ (Yields.tt ?_ (Yields.some _)), by omega, by omega, fun h => by omega⟩
    apply decide_eq_true; show IntKind.wrap .i64 (left - (is.length : Int)) < 0; rw [sub_ok h0 h1 hl]; exact hn
  · refine ⟨left - is.length, y_laws_szIntS _ _ (Yields.ff ?_ ?_), by omega, by omega, fun _ => ⟨by unfold BB; omega, by omega⟩⟩
    · apply decide_eq_false; show ¬ IntKind.wrap .i64 (left - (is.length : Int)) < 0; rw [sub_ok h0 h1 hl]; exact hn
    · show Yields (fun _ => some [T.int (IntKind.wrap .i64 (left - (is.length : Int)))]) _
      rw [sub_ok h0 h1 hl]; exact Yields.some _

theorem sz_str : ∀ (fs : List T) (left : Int), fs.length ≤ maxLen → (∀ x ∈ fs, IsStr x) → 0 ≤ left → left ≤ 1048576 → ∃ n, Yields (fun k => cl env k F_laws_szStringS [.sl fs, .int left]) [.int n] ∧ -1 ≤ n ∧ n ≤ left ∧ (0 ≤ n → fs.length ≤ BB ∧ n + (fs.length : Int) ≤ left) := by
  intro fs left hln hs h0 h1
  have key : ∀ (m i : Nat) (left : Int), i + m = fs.length → 0 ≤ left → left ≤ 1048576 → ∃ n, Yields (fun k => l_laws_szStringS_0 (hl env k fi_laws_szStringS) (.sl fs) (.int left) (.int (i : Int))) [.int n] ∧ -1 ≤ n ∧ n ≤ left := by
    intro m
    induction m with
    | zero => intro i left hi h0 h1; exact ⟨left, y_laws_szStringS_0 _ _ _ (Yields.ff (lt_ff (by omega)) (Yields.some _)), by omega, by omega⟩
    | succ m ih =>
      intro i left hi h0 h1
      have hlt : i < fs.length := by omega
      obtain ⟨s, hs1, hs2⟩ := hs _ (List.getElem_mem hlt)
      have hw : IntKind.wrap .i64 ((T.int left).i - ((((T.sl fs).nth (T.int (i : Int)).i.toNat).s).size : Int)) = left - (s.size : Int) := by
        rw [idx_ok hlt, hs1]; exact sub_ok h0 h1 hs2
      by_cases hn : left - (s.size : Int) < 0
      · refine ⟨-1, y_laws_szStringS_0 _ _ _ (Yields.tt (lt_tt hlt) (Yields.tt (in_tt hlt) (Yields.tt ?_ (Yields.some _)))), by omega, by omega⟩
        rw [hw]; exact decide_eq_true hn
      · obtain ⟨n, y2, b1, b2⟩ := ih (i + 1) (left - s.size) (by omega) (by omega) (by omega)
        refine ⟨n, y_laws_szStringS_0 _ _ _ (Yields.tt (lt_tt hlt) (Yields.tt (in_tt hlt) (Yields.ff ?_ ?_))), b1, by omega⟩
        · rw [hw]; exact decide_eq_false hn
        · rw [hw, next_ok hlt hln]; exact y2
  by_cases hn : left - (fs.length : Int) < 0
  · refine ⟨-1, y_laws_szStringS _ _ (Yields.tt ?_ (Yields.some _)), by omega, by omega, fun h => by omega⟩
    apply decide_eq_true; show IntKind.wrap .i64 (left - (fs.length : Int)) < 0; rw [sub_ok h0 h1 hln]; exact hn
  · obtain ⟨n, y, b1, b2⟩ := key fs.length 0 (left - fs.length) (by omega) (by omega) (by omega)
    refine ⟨n, y_laws_szStringS _ _ (Yields.ff ?_ ?_), b1, by omega, fun _ => ⟨by unfold BB; omega, by omega⟩⟩
    · apply decide_eq_false; show ¬ IntKind.wrap .i64 (left - (fs.length : Int)) < 0; rw [sub_ok h0 h1 hln]; exact hn
    · show Yields (fun k => l_laws_szStringS_0 (hl env k fi_laws_szStringS) (.sl fs) (T.int (IntKind.wrap .i64 (left - (fs.length : Int)))) (.int 0)) _
      rw [sub_ok h0 h1 hln]; exact y

theorem sz_slice {F : Nat} {L : Nat → T → T → T → R} {G : Nat} {p : Nat → T → Prop} (hG : SzOk G p)
    (hF : ∀ (a0 a1 : T) (r : List T), Yields (fun k =>
      bif (decide ((IntKind.wrap .i64 (a1.i - (a0.es.length : Int))) < (0 : Int))) then
        some [(T.int (-1 : Int))]
      else
        L k a0 (T.int (IntKind.wrap .i64 (a1.i - (a0.es.length : Int)))) (T.int (0 : Int))) r → Yields (fun k => cl env k F [a0, a1]) r)
    (hL : ∀ (x1 x2 x3 : T) (r : List T), Yields (fun k =>
      bif (decide (x3.i < (x1.es.length : Int))) then
        bif (decide (0 ≤ x3.i) && decide (x3.i.toNat < x1.es.length)) then
          obind (cl env k G [(x1.nth x3.i.toNat), x2]) fun r1 =>
          bif (decide ((rt r1 0).i < (0 : Int))) then
            some [(T.int (-1 : Int))]
          else
            L k x1 (rt r1 0) (T.int (IntKind.wrap .i64 (x3.i + (1 : Int))))
        else
          none
      else
        some [x2]) r → Yields (fun k => L k x1 x2 x3) r) : SzOk F (fun b t => ∃ ks : List T, t = .sl ks ∧ ks.length ≤ b ∧ ∀ x ∈ ks, p b x) := by
  rintro t left ⟨ks, rfl, hl, hp⟩ h0 h1
  by_cases hn : left - (ks.length : Int) < 0
  · refine ⟨-1, hF _ _ _ (Yields.tt ?_ (Yields.some _)), by omega, by omega, fun h => by omega⟩
    apply decide_eq_true; show IntKind.wrap .i64 (left - (ks.length : Int)) < 0; rw [sub_ok h0 h1 hl]; exact hn
  · obtain ⟨n, y, b1, b2, b3⟩ := sz_loop (q := p BB) hL (fun t left hp h0 h1 => hG t left hp h0 h1) ks hp hl (left - ks.length) (by omega) (by omega)
    refine ⟨n, hF _ _ _ (Yields.ff ?_ ?_), b1, by omega, fun h => ⟨⟨ks, rfl, by unfold BB; omega, (b3 h).1⟩, by have := (b3 h).2; simp only [T.wt]; omega⟩⟩
    · apply decide_eq_false; show ¬ IntKind.wrap .i64 (left - (ks.length : Int)) < 0; rw [sub_ok h0 h1 hl]; exact hn
    · show Yields (fun k => L k (.sl ks) (T.int (IntKind.wrap .i64 (left - (ks.length : Int)))) (.int 0)) _
      rw [sub_ok h0 h1 hl]; exact y

theorem sz_val : ∀ t, IsVal maxLen t → ∀ left : Int, 0 ≤ left → left ≤ 1048576 → ∃ n, Yields (fun k => cl env k F_laws_szValue [t, .int left]) [.int n] ∧ -1 ≤ n ∧ n ≤ left ∧ (0 ≤ n → IsVal BB t ∧ n + (t.wt : Int) ≤ left) := by
  intro t h
  induction h with
  | @mk s n ps is h1 h2 h3 h4 h5 h6 h7 ih =>
    intro left h0 hl1
    by_cases hn : left - (s.size : Int) < 0
    · refine ⟨-1, y_laws_szValue _ _ (Yields.tt ?_ (Yields.some _)), by omega, by omega, fun h => by omega⟩
      apply decide_eq_true; show IntKind.wrap .i64 (left - (s.size : Int)) < 0; rw [sub_ok h0 hl1 h1]; exact hn
    · have hw : IntKind.wrap .i64 ((T.int left).i - ((((T.st [.str s, .int n, .sl ps, .sl is]).fld 0).s).size : Int)) = left - (s.size : Int) := sub_ok h0 hl1 h1
      have hc : decide (IntKind.wrap .i64 ((T.int left).i - ((((T.st [.str s, .int n, .sl ps, .sl is]).fld 0).s).size : Int)) < (0 : Int)) = false := by rw [hw]; exact decide_eq_false hn
      -- the parts, one by one
      have parts : ∃ m, Yields (fun k => cl env k F_laws_szValueS [.sl ps, .int (left - s.size)]) [.int m] ∧ -1 ≤ m ∧ m ≤ left - s.size ∧ (0 ≤ m → (ps.length ≤ BB ∧ ∀ x ∈ ps, IsVal BB x) ∧ m + ((T.wts ps + ps.length : Nat) : Int) ≤ left - s.size) := by
        by_cases hm : left - (s.size : Int) - (ps.length : Int) < 0
        · refine ⟨-1, y_laws_szValueS _ _ (Yields.tt ?_ (Yields.some _)), by omega, by omega, fun h => by omega⟩
          apply decide_eq_true; show IntKind.wrap .i64 (left - s.size - (ps.length : Int)) < 0; rw [sub_ok (by omega) (by omega) h4]; exact hm
        · obtain ⟨m, y, b1, b2, b3⟩ := sz_loop (F := F_laws_szValue) (L := fun k => l_laws_szValueS_0 (hl env k fi_laws_szValueS)) (q := IsVal BB) (p := fun x => x ∈ ps) (fun x1 x2 x3 r h => y_laws_szValueS_0 x1 x2 x3 h)
            (fun t left hp h0 h1 => ih t hp left h0 h1) ps (fun t h => h) h4 (left - s.size - ps.length) (by omega) (by omega)
          refine ⟨m, y_laws_szValueS _ _ (Yields.ff ?_ ?_), b1, by omega, fun h => ⟨⟨by unfold BB; omega, (b3 h).1⟩, by have := (b3 h).2; omega⟩⟩
          · apply decide_eq_false; show ¬ IntKind.wrap .i64 (left - s.size - (ps.length : Int)) < 0; rw [sub_ok (by omega) (by omega) h4]; exact hm
          · show Yields (fun k => l_laws_szValueS_0 (hl env k fi_laws_szValueS) (.sl ps) (T.int (IntKind.wrap .i64 (left - s.size - (ps.length : Int)))) (.int 0)) _
            rw [sub_ok (by omega) (by omega) h4]; exact y
      obtain ⟨m, yp, p1, p2, p3⟩ := parts
      have yp' : Yields (fun k => cl env k F_laws_szValueS [((T.st [.str s, .int n, .sl ps, .sl is]).fld 2), (T.int (IntKind.wrap .i64 ((T.int left).i - ((((T.st [.str s, .int n, .sl ps, .sl is]).fld 0).s).size : Int))))]) [.int m] := by rw [hw]; exact yp
      by_cases hm : m < 0
      · exact ⟨-1, y_laws_szValue _ _ (Yields.ff hc (Yields.obind yp' (Yields.tt (decide_eq_true hm) (Yields.some _)))), by omega, by omega, fun h => by omega⟩
      · obtain ⟨q, yi, q1, q2, q3⟩ := sz_int is m h5 (by omega) (by omega)
        by_cases hq : q < 0
        · exact ⟨-1, y_laws_szValue _ _ (Yields.ff hc (Yields.obind yp' (Yields.ff (decide_eq_false hm) (Yields.obind yi (Yields.tt (decide_eq_true hq) (Yields.some _)))))), by omega, by omega, fun h => by omega⟩
        · refine ⟨q, y_laws_szValue _ _ (Yields.ff hc (Yields.obind yp' (Yields.ff (decide_eq_false hm) (Yields.obind yi (Yields.ff (decide_eq_false hq) (Yields.some _)))))), q1, by omega, fun h => ?_⟩
          obtain ⟨⟨c1, c2⟩, c3⟩ := p3 (by omega)
          obtain ⟨d1, d2⟩ := q3 h
          refine ⟨.mk h1 h2 h3 c1 d1 h6 c2, ?_⟩
          simp only [T.wt, T.wts, wts_ints h6]
          omega

theorem sz_kept : SzOk F_laws_szKept IsKept := by
  rintro t left ⟨o, v, rfl, h1, h2, h3⟩ h0 hl
  obtain ⟨n, y, b1, b2, b3⟩ := sz_val v h3 left h0 hl
  have y' : Yields (fun k => cl env k F_laws_szValue [((T.st [.int o, v]).fld 1), .int left]) [.int n] := y
  by_cases hn : n < 0
  · exact ⟨-1, y_laws_szKept _ _ (Yields.obind y' (Yields.tt (decide_eq_true hn) (Yields.some _))), by omega, by omega, fun h => by omega⟩
  · exact ⟨n, y_laws_szKept _ _ (Yields.obind y' (Yields.ff (decide_eq_false hn) (Yields.some _))), b1, b2, fun h => ⟨⟨o, v, rfl, h1, h2, (b3 h).1⟩, by have := (b3 h).2; simp only [T.wt, T.wts]; omega⟩⟩
theorem sz_list : SzOk F_laws_szKeptS IsList :=
  sz_slice (L := fun k => l_laws_szKeptS_0 (hl env k fi_laws_szKeptS)) sz_kept (fun a0 a1 r h => y_laws_szKeptS a0 a1 h) (fun x1 x2 x3 r h => y_laws_szKeptS_0 x1 x2 x3 h)
theorem wts_strs : ∀ {is : List T}, (∀ x ∈ is, IsStr x) → T.wts is = 0
  | [], _ => rfl
  | t :: l, h => by
    obtain ⟨m, rfl, _⟩ := h t (by simp)
    simp only [T.wts, T.wt, wts_strs (is := l) (fun x hx => h x (by simp [hx]))]
theorem sz_rec : SzOk F_laws_szRecord IsRec := by
  rintro t left ⟨a, fs, rfl, h1, h2, h3, h4⟩ h0 hl
  obtain ⟨n, y, b1, b2, b3⟩ := sz_str fs left h3 h4 h0 hl
  have y' : Yields (fun k => cl env k F_laws_szStringS [((T.st [.int a, .sl fs]).fld 1), .int left]) [.int n] := y
  by_cases hn : n < 0
  · exact ⟨-1, y_laws_szRecord _ _ (Yields.obind y' (Yields.tt (decide_eq_true hn) (Yields.some _))), by omega, by omega, fun h => by omega⟩
  · exact ⟨n, y_laws_szRecord _ _ (Yields.obind y' (Yields.ff (decide_eq_false hn) (Yields.some _))), b1, b2, fun h => ⟨⟨a, fs, rfl, h1, h2, (b3 h).1, h4⟩, by have := (b3 h).2; have hz := wts_strs h4; simp only [T.wt, T.wts, hz]; omega⟩⟩
theorem sz_recs : SzOk F_laws_szRecordS IsRecs :=
  sz_slice (L := fun k => l_laws_szRecordS_0 (hl env k fi_laws_szRecordS)) sz_rec (fun a0 a1 r h => y_laws_szRecordS a0 a1 h) (fun x1 x2 x3 r h => y_laws_szRecordS_0 x1 x2 x3 h)

/- ---- copies ---- -/
theorem room {n : Nat} (h : n ≤ BB) : (decide (0 ≤ (n : Int)) && (decide ((n : Int) ≤ (n : Int)) && decide (n ≤ LIM))) = true := by
  unfold BB at h
  rw [Bool.and_eq_true, Bool.and_eq_true, decide_eq_true_eq, decide_eq_true_eq, decide_eq_true_eq]
  exact ⟨by omega, by omega, by unfold LIM; omega⟩
theorem bb_max {n : Nat} (h : n ≤ BB) : n ≤ maxLen := by rw [maxLen_eq]; unfold BB at h; omega
def ToOk (F : Nat) (p : T → Prop) : Prop := ∀ t, p t → Yields (fun k => cl env k F [t]) [t]

theorem to_int (is : List T) (h : is.length ≤ BB) : Yields (fun k => cl env k F_laws_toIntS [.sl is]) [.sl is] := by
  refine y_laws_toIntS _ (Yields.tt (room h) ?_)
  refine to_loop (L := fun k x1 x2 x3 => l_laws_toIntS_0 (hl env k fi_laws_toIntS) x1 x2 x3) is _ (by simp [T.es]) (bb_max h) (fun i t x3 r ht hx hy => ?_) (fun x3 => ?_)
  · have hlt := (List.getElem?_eq_some_iff.1 ht).1
    refine y_laws_toIntS_0 _ _ _ (Yields.tt (lt_tt hlt) (Yields.tt (in_tt hlt) (Yields.tt ?_ ?_)))
    · rw [Bool.and_eq_true]
      refine ⟨decide_eq_true ?_, decide_eq_true ?_⟩
      · show (0 : Int) ≤ i; omega
      · show (i : Int).toNat < x3.es.length; omega
    · rw [idx_ok hlt]
      rw [List.getElem?_eq_getElem hlt] at ht; cases ht
      exact hy
  · exact y_laws_toIntS_0 _ _ _ (Yields.ff (lt_ff (by omega)) (Yields.some _))
theorem to_str (is : List T) (h : is.length ≤ BB) : Yields (fun k => cl env k F_laws_toStringS [.sl is]) [.sl is] := by
  refine y_laws_toStringS _ (Yields.tt (room h) ?_)
  refine to_loop (L := fun k x1 x2 x3 => l_laws_toStringS_0 (hl env k fi_laws_toStringS) x1 x2 x3) is _ (by simp [T.es]) (bb_max h) (fun i t x3 r ht hx hy => ?_) (fun x3 => ?_)
  · have hlt := (List.getElem?_eq_some_iff.1 ht).1
    refine y_laws_toStringS_0 _ _ _ (Yields.tt (lt_tt hlt) (Yields.tt (in_tt hlt) (Yields.tt ?_ ?_)))
    · rw [Bool.and_eq_true]
      refine ⟨decide_eq_true ?_, decide_eq_true ?_⟩
      · show (0 : Int) ≤ i; omega
      · show (i : Int).toNat < x3.es.length; omega
    · rw [idx_ok hlt]
      rw [List.getElem?_eq_getElem hlt] at ht; cases ht
      exact hy
  · exact y_laws_toStringS_0 _ _ _ (Yields.ff (lt_ff (by omega)) (Yields.some _))

/-- A slice copied, its elements by a function that gives each back, put down as 'put' says. -/
theorem to_slice {F G : Nat} {L : Nat → T → T → T → R} {p : T → Prop} {z : T} {put : T → T} (hput : ∀ t, p t → put t = t)
    (hF : ∀ (a0 : T) (r : List T), Yields (fun k =>
      bif (decide (0 ≤ (a0.es.length : Int)) && (decide ((a0.es.length : Int) ≤ (a0.es.length : Int)) && decide (a0.es.length ≤ LIM))) then
        L k a0 (T.int (0 : Int)) (T.sl (List.replicate a0.es.length z))
      else
        none) r → Yields (fun k => cl env k F [a0]) r)
    (hL : ∀ (x1 x2 x3 : T) (r : List T), Yields (fun k =>
      bif (decide (x2.i < (x1.es.length : Int))) then
        bif (decide (0 ≤ x2.i) && decide (x2.i.toNat < x1.es.length)) then
          obind (cl env k G [(x1.nth x2.i.toNat)]) fun r1 =>
          bif (decide (0 ≤ x2.i) && decide (x2.i.toNat < x3.es.length)) then
            L k x1 (T.int (IntKind.wrap .i64 (x2.i + (1 : Int)))) (T.sl (x3.es.set x2.i.toNat (put (rt r1 0))))
          else
            none
        else
          none
      else
        some [x3]) r → Yields (fun k => L k x1 x2 x3) r) (es : List T) (h : es.length ≤ BB) (hG : ∀ t ∈ es, p t ∧ Yields (fun k => cl env k G [t]) [t]) : Yields (fun k => cl env k F [.sl es]) [.sl es] := by
  refine hF _ _ (Yields.tt (room h) ?_)
  refine to_loop (L := L) es _ (by simp [T.es]) (bb_max h) (fun i t x3 r ht hx hy => ?_) (fun x3 => ?_)
  · have hlt := (List.getElem?_eq_some_iff.1 ht).1
    rw [List.getElem?_eq_getElem hlt] at ht; cases ht
    obtain ⟨g1, g2⟩ := hG _ (List.getElem_mem hlt)
    have g2' : Yields (fun k => cl env k G [((T.sl es).nth (T.int (i : Int)).i.toNat)]) [es[i]] := by rw [idx_ok hlt]; exact g2
    refine hL _ _ _ _ (Yields.tt (lt_tt hlt) (Yields.tt (in_tt hlt) (Yields.obind g2' (Yields.tt ?_ ?_))))
    · rw [Bool.and_eq_true]
      refine ⟨decide_eq_true ?_, decide_eq_true ?_⟩
      · show (0 : Int) ≤ i; omega
      · show (i : Int).toNat < x3.es.length; omega
    · rw [rt0, hput _ g1]
      exact hy
  · exact hL _ _ _ _ (Yields.ff (lt_ff (by omega)) (Yields.some _))

theorem to_val : ∀ t, IsVal BB t → Yields (fun k => cl env k F_laws_toValue [t]) [t] := by
  intro t h
  induction h with
  | @mk s n ps is h1 h2 h3 h4 h5 h6 h7 ih =>
    have hv : Yields (fun k => cl env k F_laws_toValueS [.sl ps]) [.sl ps] :=
      to_slice (L := fun k => l_laws_toValueS_0 (hl env k fi_laws_toValueS)) (p := IsVal BB) (put := fun t => T.st [t.fld 0, t.fld 1, t.fld 2, t.fld 3]) (fun t ht => by cases ht; rfl) (fun a0 r h => y_laws_toValueS a0 h)
        (fun x1 x2 x3 r h => y_laws_toValueS_0 x1 x2 x3 h) ps h4 fun t ht => ⟨h7 t ht, ih t ht⟩
    exact y_laws_toValue _ (Yields.obind hv (Yields.obind (to_int is h5) (Yields.some _)))
theorem to_kept : ToOk F_laws_toKept (IsKept BB) := by
  rintro t ⟨o, v, rfl, h1, h2, h3⟩
  refine y_laws_toKept _ (Yields.obind (to_val v h3) ?_)
  cases h3
  exact Yields.some _
theorem to_list (t : T) (h : IsList BB t) : Yields (fun k => cl env k F_laws_toKeptS [t]) [t] := by
  obtain ⟨ks, rfl, hlen, hk⟩ := h
  exact to_slice (L := fun k => l_laws_toKeptS_0 (hl env k fi_laws_toKeptS)) (p := IsKept BB) (put := fun t => T.st [t.fld 0, T.st [(t.fld 1).fld 0, (t.fld 1).fld 1, (t.fld 1).fld 2, (t.fld 1).fld 3]])
    (fun t ht => by obtain ⟨o, v, rfl, _, _, hv⟩ := ht; cases hv; rfl) (fun a0 r h => y_laws_toKeptS a0 h) (fun x1 x2 x3 r h => y_laws_toKeptS_0 x1 x2 x3 h) ks hlen fun t ht => ⟨hk t ht, to_kept t (hk t ht)⟩
theorem to_rec : ToOk F_laws_toRecord (IsRec BB) := by
  rintro t ⟨a, fs, rfl, h1, h2, h3, h4⟩
  exact y_laws_toRecord _ (Yields.obind (to_str fs h3) (Yields.some _))
theorem to_recs : ToOk F_laws_toRecordS (IsRecs BB) := by
  rintro t ⟨ks, rfl, hlen, hk⟩
  exact to_slice (L := fun k => l_laws_toRecordS_0 (hl env k fi_laws_toRecordS)) (p := IsRec BB) (put := fun t => T.st [t.fld 0, t.fld 1])
    (fun t ht => by obtain ⟨a, fs, rfl, _⟩ := ht; rfl) (fun a0 r h => y_laws_toRecordS a0 h) (fun x1 x2 x3 r h => y_laws_toRecordS_0 x1 x2 x3 h) ks hlen fun t ht => ⟨hk t ht, to_rec t (hk t ht)⟩

/- ---- equality ---- -/
theorem ne_self (n : Int) : (n != n) = false := by simp
theorem nse_self (s : ByteArray) : (!(s.toList == s.toList)) = false := by simp
theorem eq_int (is : List T) (h : is.length ≤ maxLen) : Yields (fun k => cl env k F_laws_eqIntS [.sl is, .sl is]) [.bool true] := by
  refine y_laws_eqIntS _ _ (Yields.ff (ne_self _) ?_)
  have key : ∀ (m i : Nat), i + m = is.length → Yields (fun k => l_laws_eqIntS_0 (hl env k fi_laws_eqIntS) (.sl is) (.sl is) (.int (i : Int))) [.bool true] := by
    intro m
    induction m with
    | zero => intro i hi; exact y_laws_eqIntS_0 _ _ _ (Yields.ff (lt_ff (by omega)) (Yields.some _))
    | succ m ih =>
      intro i hi
      have hlt : i < is.length := by omega
      refine y_laws_eqIntS_0 _ _ _ (Yields.tt (lt_tt hlt) (Yields.tt (in_tt hlt) (Yields.tt (in_tt hlt) (Yields.ff (ne_self _) ?_))))
      rw [next_ok hlt h]; exact ih (i + 1) (by omega)
  exact key is.length 0 (by omega)
theorem eq_str (is : List T) (h : is.length ≤ maxLen) : Yields (fun k => cl env k F_laws_eqStringS [.sl is, .sl is]) [.bool true] := by
  refine y_laws_eqStringS _ _ (Yields.ff (ne_self _) ?_)
  have key : ∀ (m i : Nat), i + m = is.length → Yields (fun k => l_laws_eqStringS_0 (hl env k fi_laws_eqStringS) (.sl is) (.sl is) (.int (i : Int))) [.bool true] := by
    intro m
    induction m with
    | zero => intro i hi; exact y_laws_eqStringS_0 _ _ _ (Yields.ff (lt_ff (by omega)) (Yields.some _))
    | succ m ih =>
      intro i hi
      have hlt : i < is.length := by omega
      refine y_laws_eqStringS_0 _ _ _ (Yields.tt (lt_tt hlt) (Yields.tt (in_tt hlt) (Yields.tt (in_tt hlt) (Yields.ff (nse_self _) ?_))))
      rw [next_ok hlt h]; exact ih (i + 1) (by omega)
  exact key is.length 0 (by omega)
theorem eq_val : ∀ t, IsVal BB t → Yields (fun k => cl env k F_laws_eqValue [t, t]) [.bool true] := by
  intro t h
  induction h with
  | @mk s n ps is h1 h2 h3 h4 h5 h6 h7 ih =>
    have hv : Yields (fun k => cl env k F_laws_eqValueS [.sl ps, .sl ps]) [.bool true] :=
      y_laws_eqValueS _ _ (Yields.ff (ne_self _) (eq_loop (F := F_laws_eqValue) (L := fun k => l_laws_eqValueS_0 (hl env k fi_laws_eqValueS)) (fun x1 x2 x3 r h => y_laws_eqValueS_0 x1 x2 x3 h) ps (bb_max h4) ih))
    exact y_laws_eqValue _ _ (Yields.ff (nse_self _) (Yields.ff (ne_self _) (Yields.obind hv (Yields.ff rfl (Yields.obind (eq_int is (bb_max h5)) (Yields.ff rfl (Yields.some _)))))))
theorem eq_kept (t : T) (h : IsKept BB t) : Yields (fun k => cl env k F_laws_eqKept [t, t]) [.bool true] := by
  obtain ⟨o, v, rfl, h1, h2, h3⟩ := h
  exact y_laws_eqKept _ _ (Yields.ff (ne_self _) (Yields.obind (eq_val v h3) (Yields.ff rfl (Yields.some _))))
theorem eq_list (t : T) (h : IsList BB t) : Yields (fun k => cl env k F_laws_eqKeptS [t, t]) [.bool true] := by
  obtain ⟨ks, rfl, hlen, hk⟩ := h
  exact y_laws_eqKeptS _ _ (Yields.ff (ne_self _) (eq_loop (F := F_laws_eqKept) (L := fun k => l_laws_eqKeptS_0 (hl env k fi_laws_eqKeptS)) (fun x1 x2 x3 r h => y_laws_eqKeptS_0 x1 x2 x3 h) ks (bb_max hlen) fun t ht => eq_kept t (hk t ht)))
theorem eq_rec (t : T) (h : IsRec BB t) : Yields (fun k => cl env k F_laws_eqRecord [t, t]) [.bool true] := by
  obtain ⟨a, fs, rfl, h1, h2, h3, h4⟩ := h
  exact y_laws_eqRecord _ _ (Yields.ff (ne_self _) (Yields.obind (eq_str fs (bb_max h3)) (Yields.ff rfl (Yields.some _))))
theorem eq_recs (t : T) (h : IsRecs BB t) : Yields (fun k => cl env k F_laws_eqRecordS [t, t]) [.bool true] := by
  obtain ⟨ks, rfl, hlen, hk⟩ := h
  exact y_laws_eqRecordS _ _ (Yields.ff (ne_self _) (eq_loop (F := F_laws_eqRecord) (L := fun k => l_laws_eqRecordS_0 (hl env k fi_laws_eqRecordS)) (fun x1 x2 x3 r h => y_laws_eqRecordS_0 x1 x2 x3 h) ks (bb_max hlen) fun t ht => eq_rec t (hk t ht)))
end Go.Proofs.YtfelodpbejdhlaaDoor.Ra
/- Plain side: kinds: sizes, copies, equality. -/
namespace Go.Proofs.YtfelodpbejdhlaaDoor.Ra
open Go

theorem sz_kinds : SzOk F_laws_szRecordSS IsKinds :=
  sz_slice (L := fun k => l_laws_szRecordSS_0 (hl env k fi_laws_szRecordSS)) sz_recs (fun a0 a1 r h => y_laws_szRecordSS a0 a1 h) (fun x1 x2 x3 r h => y_laws_szRecordSS_0 x1 x2 x3 h)
theorem to_kinds (t : T) (h : IsKinds BB t) : Yields (fun k => cl env k F_laws_toRecordSS [t]) [t] := by
  obtain ⟨ks, rfl, hlen, hk⟩ := h
  exact to_slice (L := fun k => l_laws_toRecordSS_0 (hl env k fi_laws_toRecordSS)) (p := IsRecs BB) (put := fun t => t)
    (fun t _ => rfl) (fun a0 r h => y_laws_toRecordSS a0 h) (fun x1 x2 x3 r h => y_laws_toRecordSS_0 x1 x2 x3 h) ks hlen fun t ht => ⟨hk t ht, to_recs t (hk t ht)⟩
theorem eq_kinds (t : T) (h : IsKinds BB t) : Yields (fun k => cl env k F_laws_eqRecordSS [t, t]) [.bool true] := by
  obtain ⟨ks, rfl, hlen, hk⟩ := h
  exact y_laws_eqRecordSS _ _ (Yields.ff (ne_self _) (eq_loop (F := F_laws_eqRecordS) (L := fun k => l_laws_eqRecordSS_0 (hl env k fi_laws_eqRecordSS)) (fun x1 x2 x3 r h => y_laws_eqRecordSS_0 x1 x2 x3 h) ks (bb_max hlen) fun t ht => eq_recs t (hk t ht)))
end Go.Proofs.YtfelodpbejdhlaaDoor.Ra
/- Plain side: kinds and records: both sides find the same. -/
namespace Go.Proofs.YtfelodpbejdhlaaDoor.Ra
open Go

def byteN (s : ByteArray) (i : Nat) : Nat := (s.data.getD i 0).toNat
def kindC (s : ByteArray) : Option (Nat × Nat) :=
  if s.size = 3 ∧ byteN s 0 = 83 ∧ 48 ≤ byteN s 1 ∧ byteN s 1 ≤ 57 ∧ 48 ≤ byteN s 2 ∧ byteN s 2 ≤ 57 then some (byteN s 1 - 48, byteN s 2 - 48) else none
def kindR : Option (Nat × Nat) → List T
  | none => [.int 0, .int 0, .bool false]
  | some (i, j) => [.int (i : Int), .int (j : Int), .bool true]
theorem wrap8 {n : Int} (h0 : 0 ≤ n) (h1 : n ≤ 255) : IntKind.wrap .u8 n = n := by
  simp only [IntKind.wrap, IntKind.bits, IntKind.signed]
  have : n % 256 = n := by omega
  simpa using this
theorem digit {n : Nat} (h : 48 ≤ n) (h2 : n ≤ 57) : IntKind.wrap .i64 (IntKind.wrap .u8 ((n : Int) - (48 : Int))) = ((n - 48 : Nat) : Int) := by
  rw [wrap8 (by omega) (by omega), wrap64 (by omega) (by omega)]; omega
theorem kind_body (s : ByteArray) : Yields (fun _ =>
    bif (((T.str s).s.size : Int) != (3 : Int)) then
      some [(T.int (0 : Int)), (T.int (0 : Int)), (T.bool false)]
    else
      bif (decide (0 ≤ (0 : Int)) && decide (0 < (T.str s).s.size)) then
        bif (((T.str s).s.data.getD 0 0).toNat != (83 : Int)) then
          some [(T.int (0 : Int)), (T.int (0 : Int)), (T.bool false)]
        else
          bif (decide (0 ≤ (1 : Int)) && decide (1 < (T.str s).s.size)) then
            bif (decide (((T.str s).s.data.getD 1 0).toNat < (48 : Int))) then
              some [(T.int (0 : Int)), (T.int (0 : Int)), (T.bool false)]
            else
              bif (decide (((T.str s).s.data.getD 1 0).toNat > (57 : Int))) then
                some [(T.int (0 : Int)), (T.int (0 : Int)), (T.bool false)]
              else
                bif (decide (0 ≤ (2 : Int)) && decide (2 < (T.str s).s.size)) then
                  bif (decide (((T.str s).s.data.getD 2 0).toNat < (48 : Int))) then
                    some [(T.int (0 : Int)), (T.int (0 : Int)), (T.bool false)]
                  else
                    bif (decide (((T.str s).s.data.getD 2 0).toNat > (57 : Int))) then
                      some [(T.int (0 : Int)), (T.int (0 : Int)), (T.bool false)]
                    else
                      some [(T.int (IntKind.wrap .i64 (IntKind.wrap .u8 (((T.str s).s.data.getD 1 0).toNat - (48 : Int))))), (T.int (IntKind.wrap .i64 (IntKind.wrap .u8 (((T.str s).s.data.getD 2 0).toNat - (48 : Int))))), (T.bool true)]
                else
                  none
          else
            none
      else
        none) (kindR (kindC s)) := by
  have no : ∀ {x : Nat → R}, ¬ (s.size = 3 ∧ byteN s 0 = 83 ∧ 48 ≤ byteN s 1 ∧ byteN s 1 ≤ 57 ∧ 48 ≤ byteN s 2 ∧ byteN s 2 ≤ 57) → x = (fun _ => some [(T.int (0 : Int)), (T.int (0 : Int)), (T.bool false)]) → Yields x (kindR (kindC s)) := by
    intro x h hx
    subst hx
    unfold kindC
    rw [if_neg h]
    exact Yields.some _
  have sz : (T.str s).s.size = s.size := rfl
  refine Yields.ite (fun h => no ?_ rfl) (fun h => Yields.ite (fun _ => Yields.ite (fun h2 => no ?_ rfl) (fun h2 => Yields.ite (fun _ => Yields.ite (fun h3 => no ?_ rfl) (fun h3 => Yields.ite (fun h4 => no ?_ rfl) (fun h4 => Yields.ite (fun _ => Yields.ite (fun h5 => no ?_ rfl) (fun h5 => Yields.ite (fun h6 => no ?_ rfl) (fun h6 => ?_))) (fun h5 => ?_)))) (fun h3 => ?_))) (fun h2 => ?_))
  all_goals simp only [bne_iff_ne, ne_eq, bne_eq_false_iff_eq, decide_eq_true_eq, decide_eq_false_iff_not, Bool.and_eq_true, Bool.and_eq_false_iff] at *
  · intro ⟨c, _⟩; rw [sz] at h; omega
  · intro ⟨_, c, _⟩; unfold byteN at c; exact h2 (by exact_mod_cast c)
  · intro ⟨_, _, c, _⟩; unfold byteN at c; have : ((s.data.getD 1 0).toNat : Int) < 48 := h3; omega
  · intro ⟨_, _, _, c, _⟩; unfold byteN at c; have : ((s.data.getD 1 0).toNat : Int) > 57 := h4; omega
  · intro ⟨_, _, _, _, c, _⟩; unfold byteN at c; have : ((s.data.getD 2 0).toNat : Int) < 48 := h5; omega
  · intro ⟨_, _, _, _, _, c⟩; unfold byteN at c; have : ((s.data.getD 2 0).toNat : Int) > 57 := h6; omega
  · have e0 : ((s.size : Nat) : Int) = 3 := h
    have e2 : ((s.data.getD 0 0).toNat : Int) = 83 := h2
    have e3 : ¬ ((s.data.getD 1 0).toNat : Int) < 48 := h3
    have e4 : ¬ ((s.data.getD 1 0).toNat : Int) > 57 := h4
    have e5 : ¬ ((s.data.getD 2 0).toNat : Int) < 48 := h5
    have e6 : ¬ ((s.data.getD 2 0).toNat : Int) > 57 := h6
    have hk : kindC s = some (byteN s 1 - 48, byteN s 2 - 48) := by
      unfold kindC
      rw [if_pos ⟨by omega, by unfold byteN; omega, by unfold byteN; omega, by unfold byteN; omega, by unfold byteN; omega, by unfold byteN; omega⟩]
    rw [hk]
    have d1 : IntKind.wrap .i64 (IntKind.wrap .u8 (((T.str s).s.data.getD 1 0).toNat - (48 : Int))) = ((byteN s 1 - 48 : Nat) : Int) := digit (by omega) (by omega)
    have d2 : IntKind.wrap .i64 (IntKind.wrap .u8 (((T.str s).s.data.getD 2 0).toNat - (48 : Int))) = ((byteN s 2 - 48 : Nat) : Int) := digit (by omega) (by omega)
    rw [d1, d2]
    exact Yields.some _
  · exfalso; rw [sz] at *; rcases h5 with h5 | h5 <;> omega
  · exfalso; rw [sz] at *; rcases h3 with h3 | h3 <;> omega
  · exfalso; rw [sz] at *; rcases h2 with h2 | h2 <;> omega
theorem kind_s (s : ByteArray) : Yields (fun k => cl env k F_spec_l1Kind [.str s]) (kindR (kindC s)) := y_spec_l1Kind _ (kind_body s)
theorem kind_i (s : ByteArray) : Yields (fun k => cl env k F_impl_kindAt [.str s]) (kindR (kindC s)) := y_impl_kindAt _ (kind_body s)
theorem kind_some {s : ByteArray} {i j : Nat} (h : kindC s = some (i, j)) : s.size = 3 ∧ byteN s 0 = 83 ∧ i ≤ 9 ∧ j ≤ 9 := by
  unfold kindC at h
  split at h
  · rename_i hc
    simp only [Option.some.injEq, Prod.mk.injEq] at h
    obtain ⟨rfl, rfl⟩ := h
    exact ⟨hc.1, hc.2.1, by omega, by omega⟩
  · cases h

def baseB (s : ByteArray) : Bool := s.toList == (⟨#[110]⟩ : ByteArray).toList || (s.toList == (⟨#[98]⟩ : ByteArray).toList || s.toList == (⟨#[111]⟩ : ByteArray).toList)
theorem base_s (s : ByteArray) : Yields (fun k => cl env k F_spec_l1Base [.str s]) [.bool (baseB s)] := by
  refine y_spec_l1Base _ (Yields.ite (fun h => ?_) (fun h => Yields.ite (fun h2 => ?_) (fun h2 => ?_)))
  · have : baseB s = true := by unfold baseB; rw [show (s.toList == (⟨#[110]⟩ : ByteArray).toList) = true from h]; rfl
    rw [this]; exact Yields.some _
  · have : baseB s = true := by unfold baseB; rw [show (s.toList == (⟨#[98]⟩ : ByteArray).toList) = true from h2]; simp
    rw [this]; exact Yields.some _
  · have : baseB s = (s.toList == (⟨#[111]⟩ : ByteArray).toList) := by
      unfold baseB; rw [show (s.toList == (⟨#[110]⟩ : ByteArray).toList) = false from h, show (s.toList == (⟨#[98]⟩ : ByteArray).toList) = false from h2]; simp
    rw [this]; exact Yields.some _
theorem byte1 {s : ByteArray} {c : UInt8} (h : (s.toList == (⟨#[c]⟩ : ByteArray).toList) = true) : s.size = 1 ∧ byteN s 0 = c.toNat := by
  rw [beq_iff_eq, ByteArray.toList_eq, ByteArray.toList_eq] at h
  have hs : s = ⟨#[c]⟩ := WideShapes.bytes_inj h
  subst hs
  exact ⟨rfl, rfl⟩
theorem base_some {s : ByteArray} (h : baseB s = true) : s.size = 1 ∧ (byteN s 0 = 110 ∨ byteN s 0 = 98 ∨ byteN s 0 = 111) := by
  unfold baseB at h
  rw [Bool.or_eq_true, Bool.or_eq_true] at h
  rcases h with h | h | h
  · obtain ⟨a, b⟩ := byte1 h; exact ⟨a, .inl b⟩
  · obtain ⟨a, b⟩ := byte1 h; exact ⟨a, .inr (.inl b)⟩
  · obtain ⟨a, b⟩ := byte1 h; exact ⟨a, .inr (.inr b)⟩
theorem base_kind {s : ByteArray} (h : baseB s = true) : kindC s = none := by
  cases hk : kindC s with
  | none => rfl
  | some x =>
    obtain ⟨i, j⟩ := x
    have := (kind_some hk).1
    have := (base_some h).1
    omega

def hasB (ks : List T) (i j : Nat) : Bool := decide (i < ks.length) && decide (j < ((T.sl ks).nth i).es.length)
theorem has_at {ks : List T} {i j : Nat} (h : i < ks.length) : (decide (0 ≤ (T.int (i : Int)).i) && decide ((T.int (i : Int)).i.toNat < (T.sl ks).es.length)) = true := in_tt h
theorem has_s (ks : List T) (i j : Nat) : Yields (fun k => cl env k F_spec_l1Has [.sl ks, .int (i : Int), .int (j : Int)]) [.bool (hasB ks i j)] := by
  refine y_spec_l1Has _ _ _ ?_
  by_cases h : i < ks.length
  · refine Yields.tt (lt_tt h) (Yields.tt (in_tt h) ?_)
    have : hasB ks i j = decide ((T.int (j : Int)).i < ((((T.sl ks).nth (T.int (i : Int)).i.toNat).es).length : Int)) := by
      unfold hasB
      rw [decide_eq_true h, Bool.true_and]
      show _ = decide ((j : Int) < (((T.sl ks).nth ((i : Int).toNat)).es.length : Int))
      rw [Int.toNat_natCast]
      by_cases hj : j < ((T.sl ks).nth i).es.length
      · rw [decide_eq_true hj, decide_eq_true (by omega)]
      · rw [decide_eq_false hj, decide_eq_false (by omega)]
    rw [this]; exact Yields.some _
  · have : hasB ks i j = false := by unfold hasB; rw [decide_eq_false h]; rfl
    rw [this]
    exact Yields.ff (lt_ff h) (Yields.some _)
def kinB (ks : List T) (s : ByteArray) : Bool := match kindC s with
  | some (i, j) => hasB ks i j
  | none => false
theorem kin_i (ks : List T) (s : ByteArray) : Yields (fun k => cl env k F_impl_kindIn [.sl ks, .str s]) [.bool (kinB ks s)] := by
  refine y_impl_kindIn _ _ (Yields.obind (kind_i s) ?_)
  unfold kinB
  cases hk : kindC s with
  | none => exact Yields.ff rfl (Yields.some _)
  | some x =>
    obtain ⟨i, j⟩ := x
    refine Yields.tt rfl ?_
    simp only
    by_cases h : i < ks.length
    · refine Yields.tt (lt_tt h) (Yields.tt (in_tt h) ?_)
      have : hasB ks i j = decide ((T.int (j : Int)).i < ((((T.sl ks).nth (T.int (i : Int)).i.toNat).es).length : Int)) := by
        unfold hasB
        rw [decide_eq_true h, Bool.true_and]
        show _ = decide ((j : Int) < (((T.sl ks).nth ((i : Int).toNat)).es.length : Int))
        rw [Int.toNat_natCast]
        by_cases hj : j < ((T.sl ks).nth i).es.length
        · rw [decide_eq_true hj, decide_eq_true (by omega)]
        · rw [decide_eq_false hj, decide_eq_false (by omega)]
      rw [this]; exact Yields.some _
    · have : hasB ks i j = false := by unfold hasB; rw [decide_eq_false h]; rfl
      rw [this]
      exact Yields.ff (lt_ff h) (Yields.some _)
theorem plain_i (ks : List T) (s : ByteArray) : Yields (fun k => cl env k F_impl_plainOk [.sl ks, .str s]) [.bool (baseB s || kinB ks s)] := by
  refine y_impl_plainOk _ _ (Yields.ite (fun h => ?_) (fun h => Yields.ite (fun h2 => ?_) (fun h2 => Yields.ite (fun h3 => ?_) (fun h3 => ?_))))
  · have : baseB s = true := by unfold baseB; rw [show (s.toList == (⟨#[110]⟩ : ByteArray).toList) = true from h]; rfl
    rw [this]; exact Yields.some _
  · have : baseB s = true := by unfold baseB; rw [show (s.toList == (⟨#[98]⟩ : ByteArray).toList) = true from h2]; simp
    rw [this]; exact Yields.some _
  · have : baseB s = true := by unfold baseB; rw [show (s.toList == (⟨#[111]⟩ : ByteArray).toList) = true from h3]; simp
    rw [this]; exact Yields.some _
  · have : baseB s = false := by
      unfold baseB; rw [show (s.toList == (⟨#[110]⟩ : ByteArray).toList) = false from h, show (s.toList == (⟨#[98]⟩ : ByteArray).toList) = false from h2, show (s.toList == (⟨#[111]⟩ : ByteArray).toList) = false from h3]; rfl
    rw [this]; exact Yields.obind (kin_i ks s) (Yields.some _)
end Go.Proofs.YtfelodpbejdhlaaDoor.Ra
/- Plain side: abilities, records, whether all kinds are fine. -/
namespace Go.Proofs.YtfelodpbejdhlaaDoor.Ra
open Go

/-- A field's or a value's kind is plain: a base kind, or one that is there. -/
theorem plain_head {ks : List T} {s : ByteArray} (h : (baseB s || kinB ks s) = true) : 0 < s.size ∧ byteN s 0 ≠ 38 ∧ byteN s 0 ≠ 33 := by
  rw [Bool.or_eq_true] at h
  rcases h with h | h
  · obtain ⟨h1, h2⟩ := base_some h
    exact ⟨by omega, by omega, by omega⟩
  · unfold kinB at h
    split at h
    · rename_i i j hk
      obtain ⟨h1, h2, _⟩ := kind_some hk
      exact ⟨by omega, by omega, by omega⟩
    · cases h
def ableI (ks : List T) (i j : Nat) : Int := (((T.sl ks).nth i).nth j |>.fld 0).i
def ableT (ks : List T) (s : ByteArray) : T := match kindC s with
  | some (i, j) => (((T.sl ks).nth i).nth j).fld 0
  | none => .int 7
theorem getD0 {s : ByteArray} : ((s.data.getD 0 0).toNat : Int) = (byteN s 0 : Int) := rfl
theorem ref_s {s : ByteArray} (h0 : 0 < s.size) (h1 : byteN s 0 ≠ 38) (h2 : byteN s 0 ≠ 33) : Yields (fun k => cl env k F_spec_l1Ref [.str s]) [.bool false] := by
  refine y_spec_l1Ref _ (Yields.tt ?_ (Yields.tt ?_ (Yields.ff ?_ ?_)))
  · apply decide_eq_true; show (s.size : Int) > 0; omega
  · rw [Bool.and_eq_true]; exact ⟨rfl, decide_eq_true h0⟩
  · show (((s.data.getD 0 0).toNat : Int) == 38) = false
    rw [beq_eq_false_iff_ne, getD0]; omega
  · have : ((((T.str s).s.data.getD 0 0).toNat : Int) == 33) = false := by
      show (((s.data.getD 0 0).toNat : Int) == 33) = false
      rw [beq_eq_false_iff_ne, getD0]; omega
    rw [this]; exact Yields.some _
theorem has_two {ks : List T} {i j : Nat} (h : hasB ks i j = true) : i < ks.length ∧ j < ((T.sl ks).nth i).es.length := by
  unfold hasB at h
  rw [Bool.and_eq_true, decide_eq_true_eq, decide_eq_true_eq] at h
  exact h
theorem rec_at {ks : List T} {i j : Nat} (h : j < ((T.sl ks).nth i).es.length) : (decide (0 ≤ (T.int (j : Int)).i) && decide (((T.int (j : Int)).i).toNat < (((T.sl ks).nth ((T.int (i : Int)).i.toNat)).es).length)) = true := by
  rw [Bool.and_eq_true]
  refine ⟨decide_eq_true ?_, decide_eq_true ?_⟩
  · show (0 : Int) ≤ j; omega
  · show (j : Int).toNat < (((T.sl ks).nth ((i : Int).toNat)).es).length
    rw [Int.toNat_natCast, Int.toNat_natCast]; exact h
theorem able_s (ks : List T) (s : ByteArray) (h : (baseB s || kinB ks s) = true) : Yields (fun k => cl env k F_spec_l1Able [.sl ks, .str s]) [ableT ks s] := by
  obtain ⟨h0, h1, h2⟩ := plain_head h
  refine y_spec_l1Able _ _ (Yields.obind (ref_s h0 h1 h2) (Yields.ff rfl (Yields.obind (ref_s h0 h1 h2) (Yields.ff rfl (Yields.obind (kind_s s) ?_)))))
  unfold ableT
  cases hk : kindC s with
  | none => exact Yields.ff rfl (Yields.some _)
  | some x =>
    obtain ⟨i, j⟩ := x
    have hh : hasB ks i j = true := by
      rw [Bool.or_eq_true] at h
      rcases h with h | h
      · rw [base_kind h] at hk; cases hk
      · unfold kinB at h; rw [hk] at h; exact h
    obtain ⟨g1, g2⟩ := has_two hh
    refine Yields.tt rfl (Yields.tt (in_tt g1) (Yields.tt (rec_at g2) ?_))
    exact Yields.some _
theorem recOf_i (ks : List T) {s : ByteArray} {i j : Nat} (hk : kindC s = some (i, j)) (hh : hasB ks i j = true) : Yields (fun k => cl env k F_impl_recordOf [.sl ks, .str s]) [((T.sl ks).nth i).nth j] := by
  obtain ⟨g1, g2⟩ := has_two hh
  refine y_impl_recordOf _ _ (Yields.obind (kind_i s) ?_)
  rw [hk]
  exact Yields.tt (in_tt g1) (Yields.tt (rec_at g2) (Yields.some _))
theorem sign_i {s : ByteArray} (h0 : 0 < s.size) (h1 : byteN s 0 ≠ 38) (h2 : byteN s 0 ≠ 33) : Yields (fun k => cl env k F_impl_signOf [.str s]) [.str ⟨#[]⟩, .str s] := by
  refine y_impl_signOf _ (Yields.tt ?_ (Yields.tt ?_ (Yields.ff ?_ (Yields.ff ?_ (Yields.some _)))))
  · show (!(s.toList == (⟨#[]⟩ : ByteArray).toList)) = true
    rw [Bool.not_eq_true', beq_eq_false_iff_ne, ByteArray.toList_eq, ByteArray.toList_eq]
    intro he
    have : s = ⟨#[]⟩ := WideShapes.bytes_inj he
    subst this
    exact absurd h0 (by decide)
  · rw [Bool.and_eq_true]; exact ⟨rfl, decide_eq_true h0⟩
  · show (((s.data.getD 0 0).toNat : Int) == 38) = false
    rw [beq_eq_false_iff_ne, getD0]; omega
  · show (((s.data.getD 0 0).toNat : Int) == 33) = false
    rw [beq_eq_false_iff_ne, getD0]; omega
theorem emp_ne (c : UInt8) : ((⟨#[]⟩ : ByteArray).toList == (⟨#[c]⟩ : ByteArray).toList) = false := by
  rw [beq_eq_false_iff_ne, ByteArray.toList_eq, ByteArray.toList_eq]; intro h; cases h
theorem able_i (ks : List T) (s : ByteArray) (h : (baseB s || kinB ks s) = true) : Yields (fun k => cl env k F_impl_ableOf [.sl ks, .str s]) [ableT ks s] := by
  obtain ⟨h0, h1, h2⟩ := plain_head h
  refine y_impl_ableOf _ _ (Yields.obind (sign_i h0 h1 h2) (Yields.ff (emp_ne 38) (Yields.ff (emp_ne 33) (Yields.obind (kin_i ks s) ?_))))
  unfold ableT
  cases hk : kindC s with
  | none =>
    have : kinB ks s = false := by unfold kinB; rw [hk]
    rw [this]; exact Yields.ff rfl (Yields.some _)
  | some x =>
    obtain ⟨i, j⟩ := x
    have hh : hasB ks i j = true := by
      rw [Bool.or_eq_true] at h
      rcases h with h | h
      · rw [base_kind h] at hk; cases hk
      · unfold kinB at h; rw [hk] at h; exact h
    have : kinB ks s = true := by unfold kinB; rw [hk]; exact hh
    rw [this]
    exact Yields.tt rfl (Yields.obind (recOf_i ks hk hh) (Yields.some _))

/- ---- one field ---- -/
def fieldB (ks : List T) (m k : Nat) (s : ByteArray) : Bool := match kindC s with
  | none => baseB s
  | some (i, j) => hasB ks i j && (decide (i < m) || (decide (i = m) && decide (j < k)))
theorem lt_nat (a b : Nat) : decide ((T.int (a : Int)).i < (T.int (b : Int)).i) = decide (a < b) := by
  show decide ((a : Int) < (b : Int)) = decide (a < b)
  by_cases h : a < b
  · rw [decide_eq_true h, decide_eq_true (by omega)]
  · rw [decide_eq_false h, decide_eq_false (by omega)]
theorem eq_nat (a b : Nat) : ((T.int (a : Int)).i == (T.int (b : Int)).i) = decide (a = b) := by
  show ((a : Int) == (b : Int)) = decide (a = b)
  by_cases h : a = b
  · subst h; simp
  · rw [decide_eq_false h, beq_eq_false_iff_ne]; omega
theorem field_s (ks : List T) (m k : Nat) (s : ByteArray) : Yields (fun r => cl env r F_spec_l1Field [.sl ks, .int (m : Int), .int (k : Int), .str s]) [.bool (fieldB ks m k s)] := by
  refine y_spec_l1Field _ _ _ _ (Yields.obind (kind_s s) ?_)
  unfold fieldB
  cases hk : kindC s with
  | none => exact Yields.tt rfl (Yields.obind (base_s s) (Yields.some _))
  | some x =>
    obtain ⟨i, j⟩ := x
    refine Yields.ff rfl (Yields.obind (has_s ks i j) ?_)
    simp only
    cases hh : hasB ks i j with
    | false => exact Yields.ff rfl (Yields.some _)
    | true =>
      refine Yields.tt rfl ?_
      refine Yields.ite (fun h => ?_) (fun h => Yields.ite (fun h2 => ?_) (fun h2 => ?_))
      · have h' : decide (i < m) = true := by rw [← lt_nat]; exact h
        rw [h']; exact Yields.some _
      · have h' : decide (i < m) = false := by rw [← lt_nat]; exact h
        have h2' : decide (i = m) = true := by rw [← eq_nat]; exact h2
        rw [h', h2', Bool.true_and, Bool.false_or, Bool.true_and, ← lt_nat]; exact Yields.some _
      · have h' : decide (i < m) = false := by rw [← lt_nat]; exact h
        have h2' : decide (i = m) = false := by rw [← eq_nat]; exact h2
        rw [h', h2']; exact Yields.some _
theorem field_plain {ks : List T} {m k : Nat} {s : ByteArray} (h : fieldB ks m k s = true) : (baseB s || kinB ks s) = true := by
  unfold fieldB at h
  unfold kinB
  cases hk : kindC s with
  | none => rw [hk] at h; simp only at h; rw [h]; rfl
  | some x =>
    obtain ⟨i, j⟩ := x
    rw [hk] at h; simp only [Bool.and_eq_true] at h
    simp only [h.1, Bool.or_true]

/-- What a record with ability a asks of a field with ability f. -/
def stepB (a f : Int) : Bool :=
  !((a.tdiv 1).tmod 2 == 1 && !((f.tdiv 1).tmod 2 == 1)) && (!((a.tdiv 2).tmod 2 == 1 && !((f.tdiv 2).tmod 2 == 1)) && !(decide (a ≥ 4) && !((f.tdiv 4).tmod 2 == 1)))
def andI (x y : Int) : Int := IntKind.wrap .i64 ((BitVec.ofInt (IntKind.i64).bits x &&& BitVec.ofInt (IntKind.i64).bits y).toNat : Nat)
def andNotI (x y : Int) : Int := IntKind.wrap .i64 ((BitVec.ofInt (IntKind.i64).bits x &&& ~~~ BitVec.ofInt (IntKind.i64).bits y).toNat : Nat)
def stepI (a f : Int) : Bool := !(andNotI (andI a 7) f != 0) && !((andI a 8 != 0) && (andI f 4 == 0))
theorem step_fin : ∀ (a f : Fin 16), stepI (a.val : Int) (f.val : Int) = stepB (a.val : Int) (f.val : Int) := by decide +kernel
theorem step_eq {a f : Int} (h0 : 0 ≤ a) (h1 : a ≤ 15) (h2 : 0 ≤ f) (h3 : f ≤ 15) : stepI a f = stepB a f := by
  have := step_fin ⟨a.toNat, by omega⟩ ⟨f.toNat, by omega⟩
  simp only at this
  rwa [Int.toNat_of_nonneg h0, Int.toNat_of_nonneg h2] at this
theorem can_s (a : Int) (p : Int) (ha : 0 ≤ a ∧ a ≤ 15) (hp : p = 1 ∨ p = 2 ∨ p = 4 ∨ p = 8) : Yields (fun k => cl env k F_spec_l1Can [.int a, .int p]) [.bool ((a.tdiv p).tmod 2 == 1)] := by
  have hw : IntKind.wrap .i64 (a.tdiv p) = a.tdiv p := by
    have h1 : 0 ≤ a.tdiv p := Int.tdiv_nonneg ha.1 (by omega)
    have h2 : a.tdiv p ≤ a := by rw [Int.tdiv_eq_ediv_of_nonneg ha.1]; exact Int.ediv_le_self _ ha.1
    exact wrap64 (by omega) (by omega)
  refine y_spec_l1Can _ _ (Yields.tt ?_ (Yields.tt rfl ?_))
  · rcases hp with rfl | rfl | rfl | rfl <;> rfl
  · show Yields (fun _ => some [T.bool (((IntKind.wrap .i64 (a.tdiv p)).tmod 2) == 1)]) _
    rw [hw]; exact Yields.some _
end Go.Proofs.YtfelodpbejdhlaaDoor.Ra
/- Plain side: records and whether all kinds are fine: both sides say the same. -/
namespace Go.Proofs.YtfelodpbejdhlaaDoor.Ra
open Go

theorem tail_s {a f : Int} (ha : 0 ≤ a ∧ a ≤ 15) (hf : 0 ≤ f ∧ f ≤ 15) {N : Nat → R} {r : List T} (no : stepB a f = false → r = [.bool false]) (yes : stepB a f = true → Yields N r) :
    Yields (fun k => obind (cl env k F_spec_l1Can [(T.int a), (T.int (1 : Int))]) fun r3 =>
        bif (rt r3 0).b then
          obind (cl env k F_spec_l1Can [(T.int f), (T.int (1 : Int))]) fun r4 =>
          bif (!(rt r4 0).b) then
            some [(T.bool false)]
          else
            obind (cl env k F_spec_l1Can [(T.int a), (T.int (2 : Int))]) fun r5 =>
            bif (rt r5 0).b then
              obind (cl env k F_spec_l1Can [(T.int f), (T.int (2 : Int))]) fun r6 =>
              bif (!(rt r6 0).b) then
                some [(T.bool false)]
              else
                bif (decide (a ≥ (4 : Int))) then
                  obind (cl env k F_spec_l1Can [(T.int f), (T.int (4 : Int))]) fun r7 =>
                  bif (!(rt r7 0).b) then
                    some [(T.bool false)]
                  else
                    N k
                else
                  N k
            else
              bif (decide (a ≥ (4 : Int))) then
                obind (cl env k F_spec_l1Can [(T.int f), (T.int (4 : Int))]) fun r6 =>
                bif (!(rt r6 0).b) then
                  some [(T.bool false)]
                else
                  N k
              else
                N k
        else
          obind (cl env k F_spec_l1Can [(T.int a), (T.int (2 : Int))]) fun r4 =>
          bif (rt r4 0).b then
            obind (cl env k F_spec_l1Can [(T.int f), (T.int (2 : Int))]) fun r5 =>
            bif (!(rt r5 0).b) then
              some [(T.bool false)]
            else
              bif (decide (a ≥ (4 : Int))) then
                obind (cl env k F_spec_l1Can [(T.int f), (T.int (4 : Int))]) fun r6 =>
                bif (!(rt r6 0).b) then
                  some [(T.bool false)]
                else
                  N k
              else
                N k
          else
            bif (decide (a ≥ (4 : Int))) then
              obind (cl env k F_spec_l1Can [(T.int f), (T.int (4 : Int))]) fun r5 =>
              bif (!(rt r5 0).b) then
                some [(T.bool false)]
              else
                N k
            else
              N k) r := by
  have p1 : (1 : Int) = 1 ∨ (1 : Int) = 2 ∨ (1 : Int) = 4 ∨ (1 : Int) = 8 := .inl rfl
  have p2 : (2 : Int) = 1 ∨ (2 : Int) = 2 ∨ (2 : Int) = 4 ∨ (2 : Int) = 8 := .inr (.inl rfl)
  have p4 : (4 : Int) = 1 ∨ (4 : Int) = 2 ∨ (4 : Int) = 4 ∨ (4 : Int) = 8 := .inr (.inr (.inl rfl))
  unfold stepB at no yes
  generalize hc1 : ((a.tdiv 1).tmod 2 == 1) = c1 at no yes
  generalize hc2 : ((a.tdiv 2).tmod 2 == 1) = c2 at no yes
  generalize hd1 : ((f.tdiv 1).tmod 2 == 1) = d1 at no yes
  generalize hd2 : ((f.tdiv 2).tmod 2 == 1) = d2 at no yes
  generalize hd4 : ((f.tdiv 4).tmod 2 == 1) = d4 at no yes
  generalize hc4 : decide (a ≥ 4) = c4 at no yes
  have a1 := can_s a 1 ha p1
  have a2 := can_s a 2 ha p2
  have f1 := can_s f 1 hf p1
  have f2 := can_s f 2 hf p2
  have f4 := can_s f 4 hf p4
  rw [hc1] at a1; rw [hc2] at a2; rw [hd1] at f1; rw [hd2] at f2; rw [hd4] at f4
  have nn : ∀ {x : Nat → R}, x = (fun _ => some [(T.bool false)]) → r = [.bool false] → Yields x r := fun hx hr => by subst hx; subst hr; exact Yields.some _
  have last : (c1 && !d1) = false → (c2 && !d2) = false → Yields (fun k => bif c4 then obind (cl env k F_spec_l1Can [(T.int f), (T.int (4 : Int))]) fun r5 =>
              bif (!(rt r5 0).b) then
                some [(T.bool false)]
              else
                N k
            else
              N k) r := by
    intro h1 h2
    cases c4 with
    | false => exact yes (by rw [h1, h2]; rfl)
    | true =>
      refine Yields.tt rfl (Yields.obind f4 ?_)
      cases d4 with
      | false => exact Yields.tt rfl (nn rfl (no (by rw [h1, h2]; rfl)))
      | true => exact Yields.ff rfl (yes (by rw [h1, h2]; rfl))
  cases c1 with
  | true =>
    refine Yields.obind a1 (Yields.tt rfl (Yields.obind f1 ?_))
    cases d1 with
    | false => exact Yields.tt rfl (nn rfl (no rfl))
    | true =>
      refine Yields.ff rfl (Yields.obind a2 ?_)
      cases c2 with
      | true =>
        refine Yields.tt rfl (Yields.obind f2 ?_)
        cases d2 with
        | false => exact Yields.tt rfl (nn rfl (no rfl))
        | true => exact Yields.ff rfl (last rfl rfl)
      | false => exact Yields.ff rfl (last rfl rfl)
  | false =>
    refine Yields.obind a1 (Yields.ff rfl (Yields.obind a2 ?_))
    cases c2 with
    | true =>
      refine Yields.tt rfl (Yields.obind f2 ?_)
      cases d2 with
      | false => exact Yields.tt rfl (nn rfl (no rfl))
      | true => exact Yields.ff rfl (last rfl rfl)
    | false => exact Yields.ff rfl (last rfl rfl)

theorem tail_i {ks : List T} {s : ByteArray} {a f : Int} (ha : 0 ≤ a ∧ a ≤ 15) (hp : (baseB s || kinB ks s) = true → ableT ks s = .int f ∧ 0 ≤ f ∧ f ≤ 15) {N : Nat → R} {r : List T}
    (no1 : (baseB s || kinB ks s) = false → r = [.bool false]) (no : (baseB s || kinB ks s) = true → stepB a f = false → r = [.bool false]) (yes : (baseB s || kinB ks s) = true → stepB a f = true → Yields N r) :
    Yields (fun k => obind (cl env k F_impl_plainOk [.sl ks, .str s]) fun r2 =>
        bif (!(rt r2 0).b) then
          some [(T.bool false)]
        else
          obind (cl env k F_impl_ableOf [.sl ks, .str s]) fun r3 =>
          bif (andNotI (andI a 7) (rt r3 0).i != (0 : Int)) then
            some [(T.bool false)]
          else
            bif (andI a 8 != (0 : Int)) then
              bif (andI (rt r3 0).i 4 == (0 : Int)) then
                some [(T.bool false)]
              else
                N k
            else
              N k) r := by
  have nn : ∀ {x : Nat → R}, x = (fun _ => some [(T.bool false)]) → r = [.bool false] → Yields x r := fun hx hr => by subst hx; subst hr; exact Yields.some _
  refine Yields.obind (plain_i ks s) ?_
  cases hpl : (baseB s || kinB ks s) with
  | false => exact Yields.tt rfl (nn rfl (no1 hpl))
  | true =>
    obtain ⟨h1, h2⟩ := hp hpl
    have hab := able_i ks s hpl
    rw [h1] at hab
    refine Yields.ff rfl (Yields.obind hab ?_)
    have hst := step_eq ha.1 ha.2 h2.1 h2.2
    unfold stepI at hst
    refine Yields.ite (fun e1 => nn rfl (no hpl ?_)) (fun e1 => Yields.ite (fun e2 => Yields.ite (fun e3 => nn rfl (no hpl ?_)) (fun e3 => yes hpl ?_)) (fun e2 => yes hpl ?_))
    · rw [← hst, show (andNotI (andI a 7) f != 0) = true from e1]; rfl
    · rw [← hst, show (andNotI (andI a 7) f != 0) = false from e1, show (andI a 8 != 0) = true from e2, show (andI f 4 == 0) = true from e3]; rfl
    · rw [← hst, show (andNotI (andI a 7) f != 0) = false from e1, show (andI a 8 != 0) = true from e2, show (andI f 4 == 0) = false from e3]; rfl
    · rw [← hst, show (andNotI (andI a 7) f != 0) = false from e1, show (andI a 8 != 0) = false from e2]; rfl

/-- The records ahead of place (m, k) have abilities in range. -/
def Early (ks : List T) (m k : Nat) : Prop := ∀ i j, (i < m ∨ (i = m ∧ j < k)) → i < ks.length → j < ((T.sl ks).nth i).es.length → ∃ a : Int, (((T.sl ks).nth i).nth j).fld 0 = .int a ∧ 0 ≤ a ∧ a ≤ 15
theorem field_able {ks : List T} {m k : Nat} {s : ByteArray} (he : Early ks m k) (h : fieldB ks m k s = true) : ∃ f : Int, ableT ks s = .int f ∧ 0 ≤ f ∧ f ≤ 15 := by
  unfold fieldB at h
  unfold ableT
  cases hk : kindC s with
  | none => exact ⟨7, rfl, by omega, by omega⟩
  | some x =>
    obtain ⟨i, j⟩ := x
    rw [hk] at h
    simp only [Bool.and_eq_true, Bool.or_eq_true, decide_eq_true_eq] at h
    obtain ⟨g1, g2⟩ := has_two h.1
    exact he i j h.2 g1 g2

theorem fields_same {ks : List T} {m k : Nat} {a : Int} {fs : List T} (he : Early ks m k) (ha : 0 ≤ a ∧ a ≤ 15) (hl : fs.length ≤ maxLen) (hs : ∀ x ∈ fs, IsStr x) :
    ∃ b, Yields (fun r => l_spec_l1Record_0 (Ra.hl env r fi_spec_l1Record) (.sl ks) (.int (m : Int)) (.int (k : Int)) (.int 0) (.st [.int a, .sl fs])) [.bool b] ∧
      Yields (fun r => l_impl_recordOk_0 (Ra.hl env r fi_impl_recordOk) (.sl ks) (.int (m : Int)) (.int (k : Int)) (.sl fs) (.int (fs.length : Int)) (.int 0) (.st [.int a, .sl fs])) [.bool b] := by
  have key : ∀ (n i : Nat), i + n = fs.length → ∃ b, Yields (fun r => l_spec_l1Record_0 (Ra.hl env r fi_spec_l1Record) (.sl ks) (.int (m : Int)) (.int (k : Int)) (.int (i : Int)) (.st [.int a, .sl fs])) [.bool b] ∧
      Yields (fun r => l_impl_recordOk_0 (Ra.hl env r fi_impl_recordOk) (.sl ks) (.int (m : Int)) (.int (k : Int)) (.sl fs) (.int (fs.length : Int)) (.int (i : Int)) (.st [.int a, .sl fs])) [.bool b] := by
    intro n
    induction n with
    | zero =>
      intro i hi
      refine ⟨true, y_spec_l1Record_0 _ _ _ _ _ (Yields.ff (lt_ff (by omega)) (Yields.some _)), y_impl_recordOk_0 _ _ _ _ _ _ _ (Yields.ff ?_ (Yields.some _))⟩
      rw [lt_nat]; exact decide_eq_false (by omega)
    | succ n ih =>
      intro i hi
      have hlt : i < fs.length := by omega
      obtain ⟨b, y1, y2⟩ := ih (i + 1) (by omega)
      obtain ⟨s, hs1, hs2⟩ := hs _ (List.getElem_mem hlt)
      have hnth : ((T.sl fs).nth (T.int (i : Int)).i.toNat) = .str s := by rw [idx_ok hlt, hs1]
      have hnx := next_ok hlt hl
      have c1 : decide ((T.int (i : Int)).i < (T.int (fs.length : Int)).i) = true := by rw [lt_nat]; exact decide_eq_true hlt
      -- the spec's side
      have spec : ∀ b', (fieldB ks m k s = false → b' = false) → (∀ f, fieldB ks m k s = true → ableT ks s = .int f → 0 ≤ f → f ≤ 15 → (stepB a f = false → b' = false) ∧ (stepB a f = true → b' = b)) →
          Yields (fun r => l_spec_l1Record_0 (Ra.hl env r fi_spec_l1Record) (.sl ks) (.int (m : Int)) (.int (k : Int)) (.int (i : Int)) (.st [.int a, .sl fs])) [.bool b'] := by
        intro b' q1 q2
        refine y_spec_l1Record_0 _ _ _ _ _ (Yields.tt (lt_tt hlt) (Yields.tt (in_tt hlt) ?_))
        have hf := field_s ks m k s
        rw [← hnth] at hf
        refine Yields.obind hf ?_
        cases hfb : fieldB ks m k s with
        | false =>
          rw [q1 hfb]
          exact Yields.tt rfl (Yields.some _)
        | true =>
          obtain ⟨f, hf1, hf2, hf3⟩ := field_able he hfb
          obtain ⟨q3, q4⟩ := q2 f hfb hf1 hf2 hf3
          have hab := able_s ks s (field_plain hfb)
          rw [hf1, ← hnth] at hab
          refine Yields.ff rfl (Yields.obind hab ?_)
          refine tail_s ha ⟨hf2, hf3⟩ (N := fun r => l_spec_l1Record_0 (Ra.hl env r fi_spec_l1Record) (.sl ks) (.int (m : Int)) (.int (k : Int)) (T.int (IntKind.wrap .i64 ((T.int (i : Int)).i + (1 : Int)))) (.st [.int a, .sl fs]))
            (fun h => by rw [q3 h]) fun h => ?_
          rw [q4 h, hnx]; exact y1
      have impl : ∀ b', (fieldB ks m k s = false → b' = false) → (∀ f, fieldB ks m k s = true → ableT ks s = .int f → 0 ≤ f → f ≤ 15 → (stepB a f = false → b' = false) ∧ (stepB a f = true → b' = b)) →
          Yields (fun r => l_impl_recordOk_0 (Ra.hl env r fi_impl_recordOk) (.sl ks) (.int (m : Int)) (.int (k : Int)) (.sl fs) (.int (fs.length : Int)) (.int (i : Int)) (.st [.int a, .sl fs])) [.bool b'] := by
        intro b' q1 q2
        refine y_impl_recordOk_0 _ _ _ _ _ _ _ (Yields.tt c1 (Yields.tt (in_tt hlt) ?_))
        rw [hnth, hnx]
        -- where the field's kind may stand
        have tail : (fieldB ks m k s = (baseB s || kinB ks s)) → ∀ {Z : Nat → R}, (∀ {f : Int}, ((baseB s || kinB ks s) = true → ableT ks s = .int f ∧ 0 ≤ f ∧ f ≤ 15) → ((baseB s || kinB ks s) = false → b' = false) → ((baseB s || kinB ks s) = true → stepB a f = false → b' = false) →
            ((baseB s || kinB ks s) = true → stepB a f = true → Yields (fun r => l_impl_recordOk_0 (Ra.hl env r fi_impl_recordOk) (.sl ks) (.int (m : Int)) (.int (k : Int)) (.sl fs) (.int (fs.length : Int)) (.int ((i + 1 : Nat) : Int)) (.st [.int a, .sl fs])) [.bool b']) → Yields Z [.bool b']) → Yields Z [.bool b'] := by
          intro heq Z hz
          cases hpl : (baseB s || kinB ks s) with
          | false => exact hz (f := 0) (fun h => by rw [hpl] at h; cases h) (fun _ => q1 (by rw [heq, hpl])) (fun h => by rw [hpl] at h; cases h) (fun h => by rw [hpl] at h; cases h)
          | true =>
            have hfb : fieldB ks m k s = true := by rw [heq, hpl]
            obtain ⟨f, hf1, hf2, hf3⟩ := field_able he hfb
            obtain ⟨q3, q4⟩ := q2 f hfb hf1 hf2 hf3
            exact hz (f := f) (fun _ => ⟨hf1, hf2, hf3⟩) (fun h => by rw [hpl] at h; cases h) (fun _ h => q3 h) (fun _ h => by rw [q4 h]; exact y2)
        refine Yields.obind (kind_i s) ?_
        cases hk : kindC s with
        | none =>
          refine Yields.ff rfl (tail (by unfold fieldB kinB; rw [hk]; simp) fun {f} g1 g2 g3 g4 => ?_)
          exact tail_i ha g1 (fun h => by rw [g2 h]) (fun h1 h2 => by rw [g3 h1 h2]) g4
        | some x =>
          obtain ⟨u, v⟩ := x
          have hnb : baseB s = false := by
            cases hb : baseB s with
            | false => rfl
            | true => rw [base_kind hb] at hk; cases hk
          refine Yields.tt rfl (Yields.ite (fun e1 => ?_) (fun e1 => Yields.ite (fun e2 => Yields.ite (fun e3 => ?_) (fun e3 => ?_)) (fun e2 => ?_)))
          · have e1' : (u : Int) > (m : Int) := of_decide_eq_true e1
            rw [q1 (by unfold fieldB; rw [hk]; simp only; rw [show decide (u < m) = false from decide_eq_false (by omega), show decide (u = m) = false from decide_eq_false (by omega)]; simp)]
            exact Yields.some _
          · have e3' : (v : Int) ≥ (k : Int) := of_decide_eq_true e3
            have e2' : u = m := by have : decide (u = m) = true := by rw [← eq_nat]; exact e2
                                   exact of_decide_eq_true this
            rw [q1 (by unfold fieldB; rw [hk]; simp only; rw [show decide (u < m) = false from decide_eq_false (by omega), show decide (v < k) = false from decide_eq_false (by omega)]; simp)]
            exact Yields.some _
          · have e3' : ¬ (v : Int) ≥ (k : Int) := of_decide_eq_false e3
            have e2' : u = m := by have : decide (u = m) = true := by rw [← eq_nat]; exact e2
                                   exact of_decide_eq_true this
            refine tail (by unfold fieldB kinB; rw [hk, hnb]; simp only; rw [show decide (u = m) = true from decide_eq_true e2', show decide (v < k) = true from decide_eq_true (by omega)]; simp) fun {f} g1 g2 g3 g4 => ?_
            exact tail_i ha g1 (fun h => by rw [g2 h]) (fun h1 h2 => by rw [g3 h1 h2]) g4
          · have e1' : ¬ (u : Int) > (m : Int) := of_decide_eq_false e1
            have e2' : ¬ u = m := by have : decide (u = m) = false := by rw [← eq_nat]; exact e2
                                     exact of_decide_eq_false this
            refine tail (by unfold fieldB kinB; rw [hk, hnb]; simp only; rw [show decide (u < m) = true from decide_eq_true (by omega)]; simp) fun {f} g1 g2 g3 g4 => ?_
            exact tail_i ha g1 (fun h => by rw [g2 h]) (fun h1 h2 => by rw [g3 h1 h2]) g4
      cases hfb : fieldB ks m k s with
      | false => exact ⟨false, spec false (fun _ => rfl) (fun f h => by rw [hfb] at h; cases h), impl false (fun _ => rfl) (fun f h => by rw [hfb] at h; cases h)⟩
      | true =>
        obtain ⟨f, hf1, hf2, hf3⟩ := field_able he hfb
        have one : ∀ f', ableT ks s = .int f' → f' = f := fun f' h => by rw [hf1] at h; cases h; rfl
        cases hst : stepB a f with
        | false =>
          have q : ∀ f', fieldB ks m k s = true → ableT ks s = .int f' → 0 ≤ f' → f' ≤ 15 → (stepB a f' = false → false = false) ∧ (stepB a f' = true → false = b) := fun f' _ h _ _ => by
            have := one f' h; subst this
            exact ⟨fun _ => rfl, fun h => by rw [hst] at h; cases h⟩
          exact ⟨false, spec false (fun _ => rfl) q, impl false (fun _ => rfl) q⟩
        | true =>
          have q : ∀ f', fieldB ks m k s = true → ableT ks s = .int f' → 0 ≤ f' → f' ≤ 15 → (stepB a f' = false → b = false) ∧ (stepB a f' = true → b = b) := fun f' _ h _ _ => by
            have := one f' h; subst this
            exact ⟨(fun h => by rw [hst] at h; cases h), fun _ => rfl⟩
          exact ⟨b, spec b (fun h => by rw [hfb] at h; cases h) q, impl b (fun h => by rw [hfb] at h; cases h) q⟩
  exact key fs.length 0 (by omega)
end Go.Proofs.YtfelodpbejdhlaaDoor.Ra
