/- A verified evaluator for the program, part Ra3 of this claim. -/
import Derived.Test.YtfelodpbejdhlaaDoorRa2
set_option linter.unusedSimpArgs false
set_option linter.unusedVariables false
/- What is handed over to be read; what shares nothing. -/
namespace Go.Proofs.YtfelodpbejdhlaaDoor.Ra
open Go Go.RowKit

/-- All is owned: nothing frozen is leaned on. -/
theorem Rep.relocD {E : Env} {w : World} {g : Gh} (hE : TyWf E) {ty : Nat} {t : T} {o : O} {r : Nat} {p : List Step} {κ : Place} (h : Rep E w g ty t o r p κ)
    {w' : World} {g' : Gh} {r' : Nat} {p' : List Step} {κ' : Place} : o.geDp = true → E.nofn ty = true →
    (∀ k, k < E.sz ty → rd w' (κ'.add k) = rd w (κ.add k)) → (∀ b q, g b = .at r (p ++ q) → SameBlk w w' b ∧ g' b = .at r' (p' ++ q)) → Rep E w' g' ty t o r' p' κ' := by
  induction h generalizing κ' p' with
  | int h1 h2 => intro _ _ hc hb; exact .int h1 (by rw [← h2]; simpa [Place.add_zero] using hc 0 (by rw [hE.one _ (by simp [h1])]; omega))
  | bool h1 h2 => intro _ _ hc hb; exact .bool h1 (by rw [← h2]; simpa [Place.add_zero] using hc 0 (by rw [hE.one _ (by simp [h1])]; omega))
  | str h1 h2 => intro _ _ hc hb; exact .str h1 (by rw [← h2]; simpa [Place.add_zero] using hc 0 (by rw [hE.one _ (by simp [h1])]; omega))
  | fn vs cts h1 => intro _ hn; rw [hE.nofn_fn _ _ _ h1] at hn; cases hn
  | cp h1 => intro _ hn; rw [hE.nofn_cp _ _ h1] at hn; cases hn
  | dead => intro hd; simp [O.geDp] at hd
  | fz0 h1 h2 => intro hd; simp [O.geDp] at hd
  | fz h1 h2 h3 h4 h5 h6 ih => intro hd; simp [O.geDp] at hd
  | own0 h1 h2 h3 => intro _ _ hc hb; exact .own0 h1 h2 (by rw [← h3]; simpa [Place.add_zero] using hc 0 (by rw [hE.one _ (by simp [h1])]; omega))
  | own h1 h2 h3 h4 h5 h6 h7 h8 ih =>
    intro hd hn hc hb
    obtain ⟨l1, l2⟩ := hb _ [] (by rw [h6]; simp)
    refine .own h1 h2 (by rw [← h3]; simpa [Place.add_zero] using hc 0 (by rw [hE.one _ (by simp [h1])]; omega)) h4 h5 (by simpa using l2) (l1.2 _ h7) fun i t hi => ?_
    exact ih i t hi (geDp_elem hd) (hE.nofn_sl _ _ h1 hn) (fun k _ => l1.1 _) fun b q hq => by
      have := hb b (.idx i :: q) (by rw [hq]; simp)
      simpa using this
  | st h1 h2 h3 ih =>
    intro hd hn hc hb
    refine .st h1 h2 fun j f t hf ht => ih j f t hf ht (geDp_fld hd j) (hE.nofn_st _ _ h1 hn f (List.mem_of_getElem? hf)) (fun k hk => ?_) fun b q hq => by
      have := hb b (.fld j :: q) (by rw [hq]; simp)
      simpa using this
    rw [Place.add_add, Place.add_add]
    exact hc _ (by rw [hE.sum _ _ h1]; have := off_le (E := E) hf; omega)
/-- What shares nothing, told at another root. -/
theorem Rep.deep {E : Env} {w : World} {g : Gh} (hE : TyWf E) {ty : Nat} {t : T} {o : O} {r : Nat} {p : List Step} {κ : Place} (h : Rep E w g ty t o r p κ) (hd : deep E ty o = true) (hl : o.live = true)
    {w' : World} {g' : Gh} {r' : Nat} {p' : List Step} {κ' : Place} (hc : ∀ k, k < E.sz ty → rd w' (κ'.add k) = rd w (κ.add k))
    (hb : ∀ b q, g b = .at r (p ++ q) → SameBlk w w' b ∧ g' b = .at r' (p' ++ q)) : Rep E w' g' ty t o r' p' κ' := by
  unfold Ra.deep at hd
  simp only [Bool.or_eq_true, Bool.and_eq_true] at hd
  rcases hd with hf | ⟨h1, h2⟩
  · exact h.flat hE hl hf hc
  · exact h.relocD hE h1 h2 hc hb

section
variable {E : Env} {w : World} {g : Gh} {rt look : Nat → Option Rt} {hold : Nat → Place}

/-- A value cut, frozen. -/
theorem Rep.cutFz {ty e : Nat} {t : T} {r : Nat} {p : List Step} {κ : Place} (h : Rep E w g ty t .fz r p κ) (he : E.ty ty = .sl e)
    {A A' : Option Addr} {len cap lo hi cap' : Nat} (hv : rd w κ = some (.slice A len cap)) (h1 : lo ≤ hi) (h2 : hi ≤ len) (h3 : hi - lo ≤ cap')
    (h5 : (A = none ∧ A' = none) ∨ ∃ b x y, A = some ⟨b, x, none⟩ ∧ A' = some ⟨b, y, none⟩ ∧ y ≤ x + lo * E.sz e ∧ (cap' = 0 ∨ y = x + lo * E.sz e)) :
    Rep E w g ty (t.cut lo hi) .fz 0 [] (.reg [.slice A' (hi - lo) cap'] 0) := by
  cases h with
  | fz0 a1 a2 =>
    rw [hv] at a2; cases a2
    have : hi = 0 := by omega
    subst this
    simp only [T.cut, T.es, List.take_nil, List.drop_nil]
    exact .fz0 (A := A') (cap := cap') he (by simp [rd])
  | @fz _ e' es a cap₁ _ _ _ a1 a2 a3 a4 a5 a6 =>
    rw [he] at a1; cases a1
    rw [hv] at a2; cases a2
    have hes : (T.sl es).cut lo hi = .sl ((es.take hi).drop lo) := rfl
    rw [hes]
    have hlen' : ((es.take hi).drop lo).length = hi - lo := by simp; omega
    rcases h5 with ⟨hA, _⟩ | ⟨b, x, y, hA, rfl, hy, hy'⟩
    · cases hA
    · cases hA
      refine .fz (a := ⟨b, y, none⟩) he (by rw [hlen']; rfl) rfl (by rw [hlen']; exact h3) a5 ?_
      intro i t hi'
      obtain ⟨b1, b2⟩ := cut_get hi'
      have hc0 : cap' ≠ 0 := by omega
      have hy'' : y = x + lo * E.sz e := by rcases hy' with h | h; exact absurd h hc0; exact h
      have := (a6 (lo + i) t b1).frozen rfl (fun _ h => h) 0 []
      rw [Nat.add_mul] at this
      simpa [hy'', Nat.add_assoc] using this
  | own0 _ h => simp [O.own] at h
  | own _ h => simp [O.own] at h
  | _ => simp_all

/-- A root's place, frozen. -/
theorem Rep.freeze {ty : Nat} {t : T} {o : O} {r : Nat} {p : List Step} {κ : Place} (h : Rep E w g ty t o r p κ) (ho : o.live = true) {g' : Gh} (hf : ∀ b, g b = .frz → g' b = .frz)
    (hr : ∀ b q, g b = .at r q → g' b = .frz) : Rep E w g' ty t .fz 0 [] κ :=
  h.move (o' := .fz) (by simpa [O.le] using ho) ⟨hf, fun b q hq => by
    have : (O.fz.get q).isFz = true := by
      have : ∀ q, O.get .fz q = .fz := by intro q; induction q with
        | nil => rfl
        | cons s q ih => cases s <;> exact ih
      rw [this]; rfl
    rw [if_pos this]; exact hr b _ hq⟩

mutual
theorem sn_frz (hE : TyWf E) (hl : ∀ r R, look r = some R → rt r = some R) (hr : ∀ r R, rt r = some R → RtOk E w g hold r R) {g' : Gh} (hf : ∀ b, g b = .frz → g' b = .frz) :
    ∀ {av : AV} {ty : Nat} {t : T} {v : Value}, sn E look ty av = some t → AvOk E w g rt hold av v → (∀ r ∈ av.refs, ∀ b q, g b = .at r q → g' b = .frz) →
    Rep E w g' ty t .fz 0 [] (.reg v.cells.toList 0) ∧ Shaped E ty v
  | .sref ty' r p, ty, t, v, h, hv, hg => by
    simp only [sn] at h
    cases hlr : look r with
    | none => simp [hlr] at h
    | some R =>
      simp only [hlr] at h
      cases hc : Nat.beq ty' ty && (R.o.get p).live with
      | false => simp [hc] at h
      | true =>
        simp [hc] at h; subst h
        simp only [Bool.and_eq_true] at hc
        have := Nat.eq_of_beq_eq_true hc.1; subst this
        cases hv with
        | sref h1 h2 h3 h4 =>
          rw [hl _ _ hlr] at h1; cases h1
          have hrep := (sub_rep' (hr _ _ (hl _ _ hlr)) h3).freeze hc.2 hf (hg r (by simp [AV.refs]))
          refine ⟨hrep.place hE fun k hk => ?_, shaped_one hE (by simp [h2]) rfl⟩
          rw [hE.one _ (by simp [h2])] at hk
          obtain rfl : k = 0 := by omega
          rw [Place.add_zero, Place.add_zero, h4]; rfl
  | .sub ty' r p lo hi, ty, t, v, h, hv, hg => by
    simp only [sn] at h
    cases hlr : look r with
    | none => simp [hlr] at h
    | some R =>
      simp only [hlr] at h
      cases hc : Nat.beq ty' ty && (R.o.get p).live with
      | false => simp [hc] at h
      | true =>
        simp [hc] at h; subst h
        simp only [Bool.and_eq_true] at hc
        have := Nat.eq_of_beq_eq_true hc.1; subst this
        cases hv with
        | sub h1 h2 h3 h4 h5 h6 h7 h8 h9 =>
          rw [hl _ _ hlr] at h1; cases h1
          have hrep := (sub_rep' (hr _ _ (hl _ _ hlr)) h3).freeze hc.2 hf (hg r (by simp [AV.refs]))
          exact ⟨hrep.cutFz h2 h4 h5 h6 h7 h9, shaped_one hE (by simp [h2]) rfl⟩
  | .val ty' t', ty, t, v, h, hv, _ => by
    obtain ⟨h1, h2⟩ := vt_ok hE (show sn E noRoot ty (.val ty' t') = some t by simpa [sn] using h) hv
    exact ⟨h1.frozen rfl hf _ _, h2⟩
  | .cst c, ty, t, v, h, hv, _ => by
    obtain ⟨h1, h2⟩ := vt_ok hE (show sn E noRoot ty (.cst c) = some t by simpa [sn] using h) hv
    exact ⟨h1.frozen rfl hf _ _, h2⟩
  | .nil ty', ty, t, v, h, hv, _ => by
    obtain ⟨h1, h2⟩ := vt_ok hE (show sn E noRoot ty (.nil ty') = some t by simpa [sn] using h) hv
    exact ⟨h1.frozen rfl hf _ _, h2⟩
  | .fnc f, ty, t, v, h, hv, _ => by
    obtain ⟨h1, h2⟩ := vt_ok hE (show sn E noRoot ty (.fnc f) = some t by simpa [sn] using h) hv
    exact ⟨h1.frozen rfl hf _ _, h2⟩
  | .agg ty' l, ty, t, v, h, hv, hg => by
    simp only [sn] at h
    split at h
    · rename_i fs he
      cases hb : Nat.beq ty' ty with
      | false => simp [hb] at h
      | true =>
        simp [hb] at h
        obtain ⟨ts, hts, rfl⟩ := h
        have := Nat.eq_of_beq_eq_true hb; subst this
        cases hv with
        | agg h1 h2 h3 h4 h5 =>
          rename_i vs
          rw [he] at h1; cases h1
          have hl' := snL_frz hE hl hr hf hts (by simpa [AV.refs] using hg)
          refine ⟨.st he hl'.1 fun j f t hf' ht => ?_, Shaped.agg hE he h3 h5⟩
          have hjl : j < fs.length := (List.getElem?_eq_some_iff.1 hf').1
          obtain ⟨v, hv⟩ : ∃ v, vs[j]? = some v := ⟨vs[j]'(by omega), List.getElem?_eq_getElem _⟩
          obtain ⟨a, ha⟩ : ∃ a, l[j]? = some a := ⟨l[j]'(by omega), List.getElem?_eq_getElem _⟩
          have hr := (hl'.2 j f t a v hf' ht ha (h4 j a v ha hv)).1
          have hr' : Rep E w g' f t .fz 0 ([] ++ [.fld j]) (.reg v.cells.toList 0) := hr.frozen rfl (fun _ h => h) _ _
          refine hr'.place hE fun k hk => ?_
          have := flatMap_get h3 h5 j f v hf' hv k hk
          simpa [Place.add, rd, Value.cells] using this
    · cases h
  | .undef, ty, t, v, h, hv, _ => by simp [sn] at h
  | .gd b a, ty, t, v, h, hv, _ => by simp [sn] at h
  | .pref _ _ _, ty, t, v, h, hv, _ => by simp [sn] at h
  | .fptr _ _, ty, t, v, h, hv, _ => by simp [sn] at h
  | .pv ty' a, ty, t, v, h, hv, hg => by
    simp only [sn] at h
    split at h
    · rename_i e he
      cases hb : Nat.beq e ty' with
      | false => simp [hb] at h
      | true =>
        simp only [hb, cond_true] at h
        have := Nat.eq_of_beq_eq_true hb; subst this
        cases hv with
        | pv h1 h2 h3 h4 =>
          obtain ⟨r1, _⟩ := sn_frz hE hl hr hf h h1 (by simpa [AV.refs] using hg)
          refine ⟨.cp he rfl rfl (hf _ h3) (r1.place hE fun k hk => ?_), shaped_one hE (by simp [he]) rfl⟩
          simp only [Place.add, rd, Nat.zero_add]
          rw [h4 k hk]; simp
    · cases h
  | .tup _, ty, t, v, h, hv, _ => by simp [sn] at h
theorem snL_frz (hE : TyWf E) (hl : ∀ r R, look r = some R → rt r = some R) (hr : ∀ r R, rt r = some R → RtOk E w g hold r R) {g' : Gh} (hf : ∀ b, g b = .frz → g' b = .frz) :
    ∀ {l : List AV} {fs : List Nat} {ts : List T}, snL E look fs l = some ts → (∀ r ∈ AV.refsL l, ∀ b q, g b = .at r q → g' b = .frz) → ts.length = fs.length ∧
    ∀ (j f : Nat) (t : T) (a : AV) (v : Value), fs[j]? = some f → ts[j]? = some t → l[j]? = some a → AvOk E w g rt hold a v → Rep E w g' f t .fz 0 [] (.reg v.cells.toList 0) ∧ Shaped E f v
  | [], fs, ts, h, _ => by
    cases fs with
    | nil => simp [snL] at h; subst h; exact ⟨rfl, fun j f t a v hf => by simp at hf⟩
    | cons f fs => simp [snL] at h
  | a :: l, fs, ts, h, hg => by
    cases fs with
    | nil => simp [snL] at h
    | cons f fs =>
      simp only [snL] at h
      split at h
      · rename_i t ts' h1 h2
        cases h
        obtain ⟨i1, i2⟩ := snL_frz hE hl hr hf h2 (fun r hr => hg r (by simp [AV.refsL, hr]))
        refine ⟨by simp [i1], fun j f' t' a' v hf' ht ha hv => ?_⟩
        cases j with
        | zero => simp at hf' ht ha; subst hf'; subst ht; subst ha; exact sn_frz hE hl hr hf h1 hv (fun r hr => hg r (by simp [AV.refsL, hr]))
        | succ j => exact i2 j f' t' a' v (by simpa using hf') (by simpa using ht) (by simpa using ha) hv
      · cases h
end
end
end Go.Proofs.YtfelodpbejdhlaaDoor.Ra
/- What lies behind a place is turned; what a function promises. -/
namespace Go.Proofs.YtfelodpbejdhlaaDoor.Ra
open Go Go.RowKit

theorem Rep.swap {E : Env} {w : World} {g : Gh} (hE : TyWf E) {r : Nat} {ty : Nat} {p : List Step} {κ : Place} {q : List Step} {ty₁ : Nat} {κ₁ : Place}
    (hs : Sub E w g r ty p κ q ty₁ κ₁) : ∀ {t t₁ : T} {o o₁ o' : O} {w' : World} {g' : Gh},
    Rep E w g ty t o r p κ → o.way q = true → OPut E ty o q o₁ o' → Rep E w' g' ty₁ t₁ o₁ r (p ++ q) κ₁ →
    (∀ b, (g b = .frz ∨ ∃ q', g b = .at r (p ++ q') ∧ ¬ q <+: q') → SameBlk w w' b ∧ g' b = g b) →
    (∀ k, k < E.sz ty → rd w' (κ.add k) = rd w (κ.add k)) → Rep E w' g' ty (t.put q t₁) o' r p κ := by
  induction hs with
  | nil =>
    intro t t₁ o o₁ o' w' g' h hw hp hn hb hi
    cases hp
    simpa [T.put] using hn
  | @fld ty fs j f p κ q ty' κ' h1 h2 hsub ih =>
    intro t t₁ o o₁ o' w' g' h hw hp hn hb hi
    obtain ⟨fs', hp0, hp1, hp2⟩ := hp
    rw [h1] at hp0; cases hp0
    rw [getD_of h2] at hp2
    have hj : j < fs.length := (List.getElem?_eq_some_iff.1 h2).1
    cases h with
    | st a1 a2 a3 =>
      rw [h1] at a1; cases a1
      rename_i ts
      have hcell : ∀ {k f' : Nat}, fs[k]? = some f' → ∀ m, m < E.sz f' → rd w' ((κ.add (off E fs k)).add m) = rd w ((κ.add (off E fs k)).add m) := by
        intro k f' hf m hm
        rw [Place.add_add]
        exact hi _ (by rw [hE.sum _ _ h1]; have := off_le (E := E) hf; omega)
      refine .st h1 (by simp [T.fs, a2]) fun k f' t' hf' ht' => ?_
      by_cases hk : k = j
      · subst hk
        rw [h2] at hf'; cases hf'
        simp only [T.fs] at ht'
        rw [List.getElem?_set_self (by omega)] at ht'; cases ht'
        refine ih (a3 k _ _ h2 (fld_of (by omega))) (by cases o <;> simp_all [O.way]) hp2 (by simpa using hn) ?_ (hcell h2)
        intro b hb'
        exact hb b (hb'.imp id fun ⟨q', hq', hn'⟩ => ⟨.fld k :: q', by rw [hq']; simp, pre_cons hn'⟩)
      · simp only [T.fs] at ht'
        rw [List.getElem?_set_ne (Ne.symm hk)] at ht'
        rw [hp1 k (List.getElem?_eq_some_iff.1 hf').1 hk]
        refine (a3 k f' t' hf' ht').frame hE (hcell hf') ?_
        intro b hl
        refine hb b (hl.imp id fun ⟨q', hl⟩ => ⟨.fld k :: q', by rw [hl]; simp, fun hpre => ?_⟩)
        have := ((List.cons_prefix_cons).1 hpre).1
        simp only [Step.fld.injEq] at this; exact hk this.symm
    | dead => simp [O.way] at hw
    | _ => simp_all
  | @idx ty e a len cap i p κ q ty' κ' h1 h2 h3 h4 h5 hsub ih =>
    intro t t₁ o o₁ o' w' g' h hw hp hn hb hi
    obtain ⟨e', hp0, hp1, hp2, hp3⟩ := hp
    rw [h1] at hp0; cases hp0
    simp only [O.way, Bool.and_eq_true] at hw
    cases h with
    | own a1 a2 a3 a4 a5 a6 a7 a8 =>
      rw [h1] at a1; cases a1
      rw [h2] at a3; cases a3
      rename_i es
      have hA := hb a.block (.inr ⟨[], by simpa using h5, by simp⟩)
      refine .own (a := a) (cap := cap) h1 hp1 ?_ a4 (by simpa [T.es] using a5) (by rw [hA.2]; exact h5) (hA.1.2 _ a7) fun k t' ht' => ?_
      · have := hi 0 (by rw [hE.one _ (by simp [h1])]; omega)
        rw [Place.add_zero] at this; rw [this, h2]; simp [T.es]
      · rw [hp2]
        simp only [T.es] at ht'
        by_cases hk : k = i
        · subst hk
          rw [List.getElem?_set_self (by omega)] at ht'; cases ht'
          refine ih (a8 k _ (nth_of h3)) hw.2 hp3 (by simpa using hn) ?_ fun m _ => hA.1.1 _
          intro b hb'
          exact hb b (hb'.imp id fun ⟨q', hq', hn'⟩ => ⟨.idx k :: q', by rw [hq']; simp, pre_cons hn'⟩)
        · rw [List.getElem?_set_ne (Ne.symm hk)] at ht'
          refine (a8 k t' ht').frame hE (fun m _ => hA.1.1 _) ?_
          intro b hl
          refine hb b (hl.imp id fun ⟨q', hl⟩ => ⟨.idx k :: q', by rw [hl]; simp, fun hpre => ?_⟩)
          have := ((List.cons_prefix_cons).1 hpre).1
          simp only [Step.idx.injEq] at this; exact hk this.symm
    | fz a1 a2 a3 a4 a5 a6 => rw [h2] at a2; cases a2; rw [h5] at a5; cases a5
    | fz0 a1 a2 => rw [h2] at a2; cases a2; omega
    | own0 a1 a2 a3 => rw [h2] at a3; cases a3
    | dead => simp [O.own] at hw
    | _ => simp_all

/- ---- what a function is handed and what it gives back ---- -/
def VRes (vs : List Value) (v : Value) : Prop := match vs with
  | [x] => v = x
  | _ => v = .tuple vs.toArray
def BoxOk (E : Env) (w : World) (g : Gh) (ty r : Nat) (t : T) (o : O) (v : Value) : Prop :=
  ∃ b x, v = .pointer (some ⟨b, x, none⟩) ∧ g b = .hd r ∧ BlkOk w b (x + E.sz ty) ∧ Rep E w g ty t o r [] (.mem b x)
def MuOk (E : Env) (w : World) (g : Gh) (i ty : Nat) (m : Mode) (t : T) (v : Value) : Prop :=
  match m with
  | .ro => True
  | .mu o => (∃ e A k c, E.ty ty = .sl e ∧ v = .slice A k c) ∧ Rep E w g ty t o (parRoot i) [] (.reg [v] 0)
  | .bx o => BoxOk E w g (boxed E ty) (parRoot i) t o v
def ArgOk (E : Env) (w : World) (g : Gh) (i ty : Nat) (m : Mode) (t : T) (v : Value) : Prop :=
  match m with
  | .ro => Rep E w g ty t .fz 0 [] (.reg v.cells.toList 0) ∧ Shaped E ty v
  | m => MuOk E w g i ty m t v
def ArgsOk (E : Env) (w : World) (g : Gh) : Nat → List (Nat × Mode) → List T → List Value → Prop
  | _, [], [], [] => True
  | i, (ty, m) :: ps, t :: ts, v :: vs => ArgOk E w g i ty m t v ∧ ArgsOk E w g (i + 1) ps ts vs
  | _, _, _, _ => False
def MusOk (E : Env) (w : World) (g : Gh) : Nat → List (Nat × Mode) → List T → List Value → Prop
  | _, [], [], [] => True
  | i, (_, .ro) :: ps, ts, _ :: vs => MusOk E w g (i + 1) ps ts vs
  | i, (ty, .mu o) :: ps, t :: ts, v :: vs => MuOk E w g i ty (.mu o) t v ∧ MusOk E w g (i + 1) ps ts vs
  | i, (ty, .bx o) :: ps, t :: ts, v :: vs => MuOk E w g i ty (.bx o) t v ∧ MusOk E w g (i + 1) ps ts vs
  | _, _, _, _ => False
def ResOk (E : Env) (w : World) (g : Gh) (j ty : Nat) (k : Ret) (t : T) (v : Value) : Prop :=
  match k with
  | .vl o => Rep E w g ty t o (resRoot j) [] (.reg v.cells.toList 0) ∧ Shaped E ty v
  | .bx o => BoxOk E w g (boxed E ty) (resRoot j) t o v
def RessOk (E : Env) (w : World) (g : Gh) : Nat → List (Nat × Ret) → List T → List Value → Prop
  | _, [], [], [] => True
  | j, (ty, k) :: rs, t :: ts, v :: vs => ResOk E w g j ty k t v ∧ RessOk E w g (j + 1) rs ts vs
  | _, _, _, _ => False

/-- What a call comes to. -/
def FnPost (E : Env) (fi : Fi) (w : World) (g : Gh) (vs : List Value) (res : List T) (e : Ending) (w' : World) : Prop :=
  ∃ v g' rvs rts mts, res = rts ++ mts ∧ e = .returned v ∧ VRes rvs v ∧ Stp w g w' g' ∧ (∀ b, g' b ≠ .free → b < w'.heap.size) ∧
    RessOk E w' g' 0 fi.rets rts rvs ∧ MusOk E w' g' 0 fi.params mts vs
def FnOk (P : Program) (E : Env) (f : Nat) (fi : Fi) (C : List T → R) : Prop :=
  ∀ ts res, C ts = some res → ∀ (vs : List Value) (w : World) (g : Gh), (∀ b, g b ≠ .free → b < w.heap.size) → Kn E w g → ArgsOk E w g 0 fi.params ts vs →
    Calls P f vs.toArray w (FnPost E fi w g vs res)

theorem MusOk.regh {E : Env} {w : World} {g g' : Gh} (hf : ∀ b, g b = .frz → g' b = .frz) (ha : ∀ b i q, i < 100000 → g b = .at (parRoot i) q → g' b = .at (parRoot i) q)
    (hh : ∀ b i, i < 100000 → g b = .hd (parRoot i) → g' b = .hd (parRoot i)) : ∀ {ps : List (Nat × Mode)} {i : Nat} {ts : List T} {vs : List Value}, i + ps.length ≤ 100000 → MusOk E w g i ps ts vs → MusOk E w g' i ps ts vs := by
  intro ps
  induction ps with
  | nil => intro i ts vs _ h; cases ts <;> cases vs <;> exact h
  | cons x ps ih =>
    intro i ts vs hn h
    obtain ⟨ty, m⟩ := x
    simp only [List.length_cons] at hn
    cases vs with
    | nil => cases m <;> cases ts <;> simp [MusOk] at h
    | cons v vs =>
      cases m with
      | ro =>
        have h' : MusOk E w g (i + 1) ps ts vs := by cases ts <;> exact h
        have := ih (i := i + 1) (by omega) h'
        cases ts <;> exact this
      | mu o =>
        cases ts with
        | nil => simp [MusOk] at h
        | cons t ts =>
          simp only [MusOk] at h ⊢
          exact ⟨⟨h.1.1, h.1.2.rekey hf fun b q hb => ha b i _ (by omega) hb⟩, ih (by omega) h.2⟩
      | bx o =>
        cases ts with
        | nil => simp [MusOk] at h
        | cons t ts =>
          simp only [MusOk] at h ⊢
          obtain ⟨⟨b, x, h1, h2, h3, h4⟩, h5⟩ := h
          exact ⟨⟨b, x, h1, hh b i (by omega) h2, h3, h4.rekey hf fun b q hb => ha b i _ (by omega) hb⟩, ih (by omega) h5⟩

open Classical in
/-- What comes back may be told as frozen. -/
theorem FnOk.weak {P : Program} {E : Env} {f : Nat} {fi : Fi} {C : List T → R} (h : FnOk P E f fi C) {ty : Nat} {o : O} (hr : fi.rets = [(ty, .vl o)]) (hl : o.live = true) (hn : fi.params.length < 1000) :
    FnOk P E f { fi with rets := [(ty, .vl .fz)] } C := by
  intro ts res hres vs w g hbnd hkn hargs
  refine (h ts res hres vs w g hbnd hkn hargs).mono fun e w' => ?_
  rintro ⟨v, g', rvs, rts, mts, e1, e2, e3, hst, hb, hress, hmus⟩
  rw [hr] at hress
  let g'' : Gh := fun b => if ∃ q, g' b = .at (resRoot 0) q then .frz else g' b
  have kn : ∀ b, (¬ ∃ q, g' b = .at (resRoot 0) q) → g'' b = g' b := fun b hb => if_neg hb
  have k1 : ∀ b, g' b = .frz → g'' b = .frz := fun b hb => by rw [kn b (by rintro ⟨q, hq⟩; rw [hb] at hq; cases hq), hb]
  have k2 : ∀ b q, g' b = .at (resRoot 0) q → g'' b = .frz := fun b q hb => if_pos ⟨q, hb⟩
  have k3 : ∀ b i q, i < 100000 → g' b = .at (parRoot i) q → g'' b = .at (parRoot i) q := fun b i q hi hb => by
    rw [kn b (by rintro ⟨q', hq⟩; rw [hb] at hq; simp only [Own.at.injEq] at hq; have := hq.1; unfold parRoot resRoot at this; omega), hb]
  have k4 : ∀ b i, i < 100000 → g' b = .hd (parRoot i) → g'' b = .hd (parRoot i) := fun b i _ hb => by
    rw [kn b (by rintro ⟨q', hq⟩; rw [hb] at hq; cases hq), hb]
  refine ⟨v, g'', rvs, rts, mts, e1, e2, e3, ⟨hst.os, hst.tape, hst.output, hst.size, fun b hb hg => ?_⟩, fun b hb' => hb b fun hf => hb' ?_, ?_, hmus.regh k1 k3 k4 (by show 0 + fi.params.length ≤ 100000; omega)⟩
  · obtain ⟨q1, q2⟩ := hst.keep b hb hg
    refine ⟨q1, ?_⟩
    rw [kn b (by rintro ⟨q', hq⟩; rw [q2] at hq; rcases hg with hg | hg <;> rw [hg] at hq <;> cases hq), q2]
  · rw [kn b (by rintro ⟨q', hq⟩; rw [hf] at hq; cases hq), hf]
  · match rts, rvs, hress with
    | [t], [v0], hress =>
      simp only [RessOk, ResOk, and_true] at hress ⊢
      exact ⟨(hress.1.freeze hl k1 k2).frozen rfl (fun _ h => h) _ _, hress.2⟩
    | [], [], hress => exact hress.elim
    | [], _ :: _, hress => exact hress.elim
    | [_], [], hress => exact hress.elim
    | [_], _ :: _ :: _, hress => exact hress.2.elim
    | _ :: _ :: _, [], hress => exact hress.elim
    | _ :: _ :: _, [_], hress => exact hress.2.elim
    | _ :: _ :: _, _ :: _ :: _, hress => exact hress.2.elim
def CallsOk (P : Program) (E : Env) (C : CallsE) : Prop := ∀ f fi, E.fn f = some fi → FnOk P E f fi (C f)

/-- What an operation that is a call comes to. -/
def ActsC (P : Program) (E : Env) (n : Nat) (st : St) (a : Act) (w : World) (g : Gh) (hold : Nat → Place) (C : CallsE) (o : Oper) (e : Eff) : Prop :=
  e.g = true ∧ ∃ f ts, e.req = some (f, ts) ∧ (e.pre = true → ∀ res, C f ts = some res → ∃ vs : List Value, (execOp a.eval o).run P w = .ok (.enter f vs.toArray) w ∧
    Calls P f vs.toArray w fun en w' => ∃ v g' hold', en = .returned v ∧ Stp w g w' g' ∧ Sld hold hold' ∧ Inv E n (applyU o.dst (e.ret res) st) (a.put o.dst v) w' g' hold')
end Go.Proofs.YtfelodpbejdhlaaDoor.Ra
/- A call: what is lent, and what comes back. -/
namespace Go.Proofs.YtfelodpbejdhlaaDoor.Ra
open Go Go.RowKit

open Classical in
noncomputable def lent : Nat → List Arg → Nat → List Step → Option Own
  | _, [], _, _ => none
  | i, .ro :: l, r, q => lent (i + 1) l r q
  | i, .mu r' p o :: l, r, q => if r' = r then (if p <+: q then some (if (o.get (q.drop p.length)).isFz then .frz else .at (parRoot i) (q.drop p.length)) else none) else lent (i + 1) l r q
  | i, .bx r' o :: l, r, q => if r' = r then some (if (o.get q).isFz then .frz else .at (parRoot i) q) else lent (i + 1) l r q
def lentH : Nat → List Arg → Nat → Option Nat
  | _, [], _ => none
  | i, .ro :: l, r => lentH (i + 1) l r
  | i, .mu _ _ _ :: l, r => lentH (i + 1) l r
  | i, .bx r' _ :: l, r => if r' = r then some i else lentH (i + 1) l r
/-- How the one that is called is told of the blocks. -/
noncomputable def gcall (args : List Arg) (bor : List Nat) (g : Gh) : Gh := fun b => match g b with
  | .frz => .frz
  | .at r q => if r ∈ bor then .frz else (lent 0 args r q).getD .free
  | .hd r => match lentH 0 args r with | some i => .hd (parRoot i) | none => .free
  | .free => .free

theorem mem_muRoots {args : List Arg} {r : Nat} : r ∈ muRoots args ↔ ∃ k : Nat, (∃ p o, args[k]? = some (.mu r p o)) ∨ ∃ o, args[k]? = some (.bx r o) := by
  unfold muRoots
  rw [List.mem_filterMap]
  constructor
  · rintro ⟨x, hx, h⟩
    obtain ⟨k, hk⟩ := List.getElem?_of_mem hx
    cases x with
    | ro => simp at h
    | mu r' p o => simp at h; subst h; exact ⟨k, .inl ⟨p, o, hk⟩⟩
    | bx r' o => simp at h; subst h; exact ⟨k, .inr ⟨o, hk⟩⟩
  · rintro ⟨k, ⟨p, o, h⟩ | ⟨o, h⟩⟩
    · exact ⟨_, List.mem_of_getElem? h, rfl⟩
    · exact ⟨_, List.mem_of_getElem? h, rfl⟩
theorem distinct_cons {x : Nat} {l : List Nat} (h : distinct (x :: l) = true) : x ∉ l ∧ distinct l = true := by
  simp only [distinct, Bool.and_eq_true, Bool.not_eq_true'] at h
  refine ⟨fun hx => ?_, h.2⟩
  rw [mem_iff.2 hx] at h; simp at h
theorem muRoots_cons (x : Arg) (l : List Arg) : muRoots (x :: l) = (match x with | .ro => muRoots l | .mu r _ _ => r :: muRoots l | .bx r _ => r :: muRoots l) := by
  cases x <;> simp [muRoots]
theorem lent_none {args : List Arg} {r : Nat} (h : r ∉ muRoots args) : ∀ (i : Nat) (q : List Step), lent i args r q = none := by
  induction args with
  | nil => intro i q; rfl
  | cons x l ih =>
    intro i q
    rw [muRoots_cons] at h
    cases x with
    | ro => exact ih h _ _
    | mu r' p o => simp only [List.mem_cons, not_or] at h; simp only [lent, if_neg (Ne.symm h.1)]; exact ih h.2 _ _
    | bx r' o => simp only [List.mem_cons, not_or] at h; simp only [lent, if_neg (Ne.symm h.1)]; exact ih h.2 _ _
theorem lentH_none {args : List Arg} {r : Nat} (h : r ∉ muRoots args) : ∀ (i : Nat), lentH i args r = none := by
  induction args with
  | nil => intro i; rfl
  | cons x l ih =>
    intro i
    rw [muRoots_cons] at h
    cases x with
    | ro => exact ih h _
    | mu r' p o => simp only [List.mem_cons, not_or] at h; exact ih h.2 _
    | bx r' o => simp only [List.mem_cons, not_or] at h; simp only [lentH, if_neg (Ne.symm h.1)]; exact ih h.2 _

/-- An argument that is lent. -/
theorem lent_mu {args : List Arg} : ∀ {k i r : Nat} {p : List Step} {o : O}, distinct (muRoots args) = true → args[k]? = some (.mu r p o) →
    (∀ q, lent i args r (p ++ q) = some (if (o.get q).isFz then .frz else .at (parRoot (i + k)) q)) ∧ (∀ q, ¬ p <+: q → lent i args r q = none) ∧ lentH i args r = none := by
  induction args with
  | nil => intro k i r p o _ h; simp at h
  | cons x l ih =>
    intro k i r p o hd h
    rw [muRoots_cons] at hd
    cases k with
    | zero =>
      simp at h; subst h
      obtain ⟨h1, _⟩ := distinct_cons hd
      refine ⟨fun q => ?_, fun q hq => ?_, lentH_none h1 _⟩
      · simp only [lent, if_true, if_pos (List.prefix_append p q), List.drop_left, Nat.add_zero]
      · simp only [lent, if_true, if_neg hq]
    | succ k =>
      simp only [List.getElem?_cons_succ] at h
      have hr : r ∈ muRoots l := mem_muRoots.2 ⟨k, .inl ⟨p, o, h⟩⟩
      cases x with
      | ro =>
        obtain ⟨i1, i2, i3⟩ := ih (i := i + 1) hd h
        exact ⟨fun q => by simp only [lent]; rw [i1, show i + 1 + k = i + (k + 1) by omega], fun q hq => i2 q hq, i3⟩
      | mu r' p' o' =>
        obtain ⟨h1, h2⟩ := distinct_cons hd
        have hne : r' ≠ r := fun h => h1 (h ▸ hr)
        obtain ⟨i1, i2, i3⟩ := ih (i := i + 1) h2 h
        exact ⟨fun q => by simp only [lent, if_neg hne]; rw [i1, show i + 1 + k = i + (k + 1) by omega], fun q hq => by simp only [lent, if_neg hne]; exact i2 q hq, i3⟩
      | bx r' o' =>
        obtain ⟨h1, h2⟩ := distinct_cons hd
        have hne : r' ≠ r := fun h => h1 (h ▸ hr)
        obtain ⟨i1, i2, i3⟩ := ih (i := i + 1) h2 h
        exact ⟨fun q => by simp only [lent, if_neg hne]; rw [i1, show i + 1 + k = i + (k + 1) by omega], fun q hq => by simp only [lent, if_neg hne]; exact i2 q hq, by simp only [lentH, if_neg hne]; exact i3⟩
theorem lent_bx {args : List Arg} : ∀ {k i r : Nat} {o : O}, distinct (muRoots args) = true → args[k]? = some (.bx r o) →
    (∀ q, lent i args r q = some (if (o.get q).isFz then .frz else .at (parRoot (i + k)) q)) ∧ lentH i args r = some (i + k) := by
  induction args with
  | nil => intro k i r o _ h; simp at h
  | cons x l ih =>
    intro k i r o hd h
    rw [muRoots_cons] at hd
    cases k with
    | zero =>
      simp at h; subst h
      exact ⟨fun q => by simp only [lent, if_true, Nat.add_zero], by simp [lentH]⟩
    | succ k =>
      simp only [List.getElem?_cons_succ] at h
      have hr : r ∈ muRoots l := mem_muRoots.2 ⟨k, .inr ⟨o, h⟩⟩
      cases x with
      | ro =>
        obtain ⟨i1, i3⟩ := ih (i := i + 1) hd h
        exact ⟨fun q => by simp only [lent]; rw [i1, show i + 1 + k = i + (k + 1) by omega], by simp only [lentH]; rw [i3, show i + 1 + k = i + (k + 1) by omega]⟩
      | mu r' p' o' =>
        obtain ⟨h1, h2⟩ := distinct_cons hd
        have hne : r' ≠ r := fun h => h1 (h ▸ hr)
        obtain ⟨i1, i3⟩ := ih (i := i + 1) h2 h
        exact ⟨fun q => by simp only [lent, if_neg hne]; rw [i1, show i + 1 + k = i + (k + 1) by omega], by simp only [lentH]; rw [i3, show i + 1 + k = i + (k + 1) by omega]⟩
      | bx r' o' =>
        obtain ⟨h1, h2⟩ := distinct_cons hd
        have hne : r' ≠ r := fun h => h1 (h ▸ hr)
        obtain ⟨i1, i3⟩ := ih (i := i + 1) h2 h
        exact ⟨fun q => by simp only [lent, if_neg hne]; rw [i1, show i + 1 + k = i + (k + 1) by omega], by simp only [lentH, if_neg hne]; rw [i3, show i + 1 + k = i + (k + 1) by omega]⟩

section
variable {E : Env} {w : World} {g : Gh} {rt look : Nat → Option Rt} {hold : Nat → Place}

/-- What the arguments are: one by one. -/
def ArgsAt (E : Env) (look : Nat → Option Rt) (ps : List (Nat × Mode)) (as : List AV) (ts : List T) (args : List Arg) : Prop :=
    ts.length = ps.length ∧ as.length = ps.length ∧ args.length = ps.length ∧
    (∀ (k r : Nat) (p : List Step) (o : O), args[k]? = some (.mu r p o) → ∃ ty R, ps[k]? = some (ty, .mu o) ∧ as[k]? = some (.sref ty r p) ∧ look r = some R ∧ ts[k]? = some (R.t.get p) ∧
      (R.o.get p).own = true ∧ O.le o (R.o.get p) = true ∧ (noIdx p = true ∨ O.eq (R.o.get p) o = true) ∧ R.o.way p = true) ∧
    (∀ (k r : Nat) (o : O), args[k]? = some (.bx r o) → ∃ ty e R, ps[k]? = some (ty, .bx o) ∧ E.ty ty = .ptr e ∧ as[k]? = some (.pref e r []) ∧ look r = some R ∧ ts[k]? = some R.t ∧ R.box = true ∧ O.le o R.o = true) ∧
    (∀ (k : Nat), args[k]? = some .ro → ∃ ty a t, ps[k]? = some (ty, .ro) ∧ as[k]? = some a ∧ ts[k]? = some t ∧ sn E look ty a = some t ∧ ∀ r ∈ a.refs, r ∈ roRefs args as)
theorem argsE_at : ∀ {ps : List (Nat × Mode)} {as : List AV} {ts : List T} {args : List Arg}, argsE E look ps as = some (ts, args) → ArgsAt E look ps as ts args
  | [], as, ts, args, h => by
    cases as with
    | nil =>
      simp only [argsE, Option.some.injEq, Prod.mk.injEq] at h
      obtain ⟨rfl, rfl⟩ := h
      exact ⟨rfl, rfl, rfl, fun k r p o h => by simp at h, fun k r o h => by simp at h, fun k h => by simp at h⟩
    | cons a as => simp [argsE] at h
  | (ty, m) :: ps, as, ts, args, h => by
    cases as with
    | nil => simp [argsE] at h
    | cons a as =>
      simp only [argsE] at h
      split at h
      · cases h
      rename_i ts' args' hrec
      obtain ⟨i1, i2, i3, i4, i5, i6⟩ := argsE_at hrec
      have shift : ∀ {x : Arg} {t0 : T}, args = x :: args' → ts = t0 :: ts' → (∀ r, r ∈ roRefs args' as → r ∈ roRefs (x :: args') (a :: as)) →
          (∀ (r : Nat) (p : List Step) (o : O), x = .mu r p o → ∃ R, m = .mu o ∧ a = .sref ty r p ∧ look r = some R ∧ t0 = R.t.get p ∧
            (R.o.get p).own = true ∧ O.le o (R.o.get p) = true ∧ (noIdx p = true ∨ O.eq (R.o.get p) o = true) ∧ R.o.way p = true) →
          (∀ (r : Nat) (o : O), x = .bx r o → ∃ e R, m = .bx o ∧ E.ty ty = .ptr e ∧ a = .pref e r [] ∧ look r = some R ∧ t0 = R.t ∧ R.box = true ∧ O.le o R.o = true) →
          (x = .ro → m = .ro ∧ sn E look ty a = some t0 ∧ ∀ r ∈ a.refs, r ∈ roRefs (x :: args') (a :: as)) → ArgsAt E look ((ty, m) :: ps) (a :: as) ts args := by
        intro x t0 hargs hts hro h1 h2 h3
        subst hargs; subst hts
        refine ⟨by simp [i1], by simp [i2], by simp [i3], fun k r p o hk => ?_, fun k r o hk => ?_, fun k hk => ?_⟩
        · cases k with
          | zero =>
            simp at hk
            obtain ⟨R, e1, e2, e3⟩ := h1 r p o hk
            exact ⟨ty, R, by simp [e1], by simp [e2], e3.1, by simp [e3.2.1], e3.2.2⟩
          | succ k => simpa using i4 k r p o (by simpa using hk)
        · cases k with
          | zero =>
            simp at hk
            obtain ⟨e, R, e1, e2, e3, e4, e5, e6⟩ := h2 r o hk
            exact ⟨ty, e, R, by simp [e1], e2, by simp [e3], e4, by simp [e5], e6⟩
          | succ k => simpa using i5 k r o (by simpa using hk)
        · cases k with
          | zero =>
            simp at hk
            obtain ⟨e1, e2, e3⟩ := h3 hk
            exact ⟨ty, a, t0, by simp [e1], by simp, by simp, e2, e3⟩
          | succ k =>
            obtain ⟨ty', a', t, e1, e2, e3, e4, e5⟩ := i6 k (by simpa using hk)
            exact ⟨ty', a', t, by simpa using e1, by simpa using e2, by simpa using e3, e4, fun r hr => hro r (e5 r hr)⟩
      cases m with
      | ro =>
        simp only at h
        split at h
        · rename_i t ht
          simp only [Option.some.injEq, Prod.mk.injEq] at h
          obtain ⟨rfl, rfl⟩ := h
          exact shift rfl rfl (fun r hr => by simp [roRefs, hr]) (fun _ _ _ hx => by cases hx) (fun _ _ hx => by cases hx) (fun _ => ⟨rfl, ht, fun r hr => by simp [roRefs, hr]⟩)
        · cases h
      | mu o =>
        simp only at h
        split at h
        · rename_i ty' r p
          split at h
          · rename_i R hR
            generalize hc : (Nat.beq ty ty' && ((R.o.get p).own && (O.le o (R.o.get p) && ((noIdx p || O.eq (R.o.get p) o) && R.o.way p)))) = c at h
            cases c with
            | false => simp at h
            | true =>
              simp only [cond_true, Option.some.injEq, Prod.mk.injEq] at h
              obtain ⟨rfl, rfl⟩ := h
              simp only [Bool.and_eq_true, Bool.or_eq_true] at hc
              have := Nat.eq_of_beq_eq_true hc.1; subst this
              exact shift rfl rfl (fun r hr => by simpa [roRefs] using hr) (fun r' p' o' hx => by cases hx; exact ⟨R, rfl, rfl, hR, rfl, hc.2.1, hc.2.2.1, hc.2.2.2.1, hc.2.2.2.2⟩) (fun _ _ hx => by cases hx) (fun hx => by cases hx)
          · cases h
        · cases h
      | bx o =>
        simp only at h
        split at h
        · rename_i ty' r
          split at h
          · rename_i R hR
            generalize hc : ((match E.ty ty with | .ptr e => Nat.beq e ty' | _ => false) && R.box && O.le o R.o) = c at h
            cases c with
            | false => simp at h
            | true =>
              simp only [cond_true, Option.some.injEq, Prod.mk.injEq] at h
              obtain ⟨rfl, rfl⟩ := h
              simp only [Bool.and_eq_true] at hc
              obtain ⟨⟨c1, c2⟩, c3⟩ := hc
              have hp : E.ty ty = .ptr ty' := by
                split at c1
                · rename_i e he; rw [he]; rw [Nat.eq_of_beq_eq_true c1]
                · cases c1
              exact shift rfl rfl (fun r hr => by simpa [roRefs] using hr) (fun _ _ _ hx => by cases hx) (fun r' o' hx => by cases hx; exact ⟨ty', R, rfl, hp, rfl, hR, rfl, c2, c3⟩) (fun hx => by cases hx)
          · cases h
        · cases h
end
end Go.Proofs.YtfelodpbejdhlaaDoor.Ra
/- A call: handing over, and the blocks told anew behind it. -/
namespace Go.Proofs.YtfelodpbejdhlaaDoor.Ra
open Go Go.RowKit

theorem parRoot_inj {i j : Nat} (h : parRoot i = parRoot j) : i = j := by unfold parRoot at h; omega

section
variable {E : Env} {w : World} {g : Gh} {rt look : Nat → Option Rt} {hold : Nat → Place}

theorem gcall_frz {args : List Arg} {bor : List Nat} {b : Nat} (h : g b = .frz) : gcall args bor g b = .frz := by simp [gcall, h]
theorem gcall_bor {args : List Arg} {bor : List Nat} {b r : Nat} {q : List Step} (h : g b = .at r q) (hr : r ∈ bor) : gcall args bor g b = .frz := by simp [gcall, h, hr]
theorem gcall_at {args : List Arg} {bor : List Nat} {b r : Nat} {q : List Step} (h : g b = .at r q) (hr : r ∉ bor) : gcall args bor g b = (lent 0 args r q).getD .free := by simp [gcall, h, hr]
theorem gcall_hd {args : List Arg} {bor : List Nat} {b r : Nat} (h : g b = .hd r) : gcall args bor g b = match lentH 0 args r with | some i => .hd (parRoot i) | none => .free := by unfold gcall; simp only [h] <;> (cases lentH 0 args r <;> rfl)
theorem gcall_nf {args : List Arg} {bor : List Nat} {b : Nat} (h : gcall args bor g b ≠ .free) : g b ≠ .free := by intro hf; exact h (by simp [gcall, hf])

theorem args_ok (hE : TyWf E) (hl : ∀ r R, look r = some R → rt r = some R) (hr : ∀ r R, rt r = some R → RtOk E w g hold r R) {ps : List (Nat × Mode)} {as : List AV} {ts : List T} {args : List Arg}
    (hA : ArgsAt E look ps as ts args) (hd : distinct (muRoots args) = true) (hap : ∀ r ∈ muRoots args, r ∉ roRefs args as) {vs : List Value} (hlen : vs.length = as.length)
    (hv : ∀ (k : Nat) (a : AV) (v : Value), as[k]? = some a → vs[k]? = some v → AvOk E w g rt hold a v) (hfin : ∀ x ∈ ps, fineM x = true) :
    ArgsOk E w (gcall args (roRefs args as) g) 0 ps ts vs := by
  obtain ⟨l1, l2, l3, hmu, hbx, hro⟩ := hA
  have one : ∀ (k ty : Nat) (m : Mode) (t : T) (v : Value), ps[k]? = some (ty, m) → ts[k]? = some t → vs[k]? = some v → ArgOk E w (gcall args (roRefs args as) g) k ty m t v := by
    intro k ty m t v hp ht hvk
    have hkl := (List.getElem?_eq_some_iff.1 hp).1
    obtain ⟨x, hx⟩ : ∃ x, args[k]? = some x := ⟨args[k]'(by omega), List.getElem?_eq_getElem _⟩
    cases x with
    | ro =>
      obtain ⟨ty', a, t', e1, e2, e3, e4, e5⟩ := hro k hx
      rw [hp] at e1; cases e1
      rw [ht] at e3; cases e3
      exact sn_frz hE hl hr (fun b hb => gcall_frz hb) e4 (hv k a v e2 hvk) fun r hr b q hb => gcall_bor hb (e5 r hr)
    | mu r p o =>
      obtain ⟨ty', R, e1, e2, e3, e4, e5, e6, e7, e8⟩ := hmu k r p o hx
      rw [hp] at e1; cases e1
      rw [ht] at e4; cases e4
      have hnb := hap r (mem_muRoots.2 ⟨k, .inl ⟨p, o, hx⟩⟩)
      have hav := hv k _ v e2 hvk
      cases hav with
      | @sref _ e _ _ A n c R' κ a1 a2 a3 a4 =>
        rw [hl r R e3] at a1; cases a1
        refine ⟨⟨e, A, n, c, a2, rfl⟩, ?_⟩
        have hrep := sub_rep' (hr r R (hl r R e3)) a3
        obtain ⟨f1, f2, f3⟩ := lent_mu (i := 0) hd hx
        have := hrep.move (o' := o) (r' := parRoot k) (p' := []) e6 (g' := gcall args (roRefs args as) g) ⟨fun b hb => gcall_frz hb, fun b q hb => by
          rw [gcall_at hb hnb, f1 q]; simp⟩
        refine this.place hE fun k' hk' => ?_
        rw [hE.one _ (by simp [a2])] at hk'
        obtain rfl : k' = 0 := by omega
        rw [Place.add_zero, Place.add_zero, a4]; rfl
    | bx r o =>
      obtain ⟨ty', e, R, e1, e2, e3, e4, e5, e6, e7⟩ := hbx k r o hx
      rw [hp] at e1; cases e1
      rw [ht] at e5; cases e5
      have hnb := hap r (mem_muRoots.2 ⟨k, .inr ⟨o, hx⟩⟩)
      have hav := hv k _ v e3 hvk
      have ok := hr r R (hl r R e4)
      obtain ⟨b, x0, b1, b2, b3⟩ := ok.box e6
      obtain ⟨f1, f2⟩ := lent_bx (i := 0) hd hx
      cases hav with
      | @pref _ _ _ B x1 R' a1 a2 =>
        rw [hl r R e4] at a1; cases a1
        have hbt : boxed E ty = e := by simp [boxed, e2]
        have key : ∀ {κ}, Sub E w g r R.ty [] (hold r) [] e κ → R.ty = e ∧ hold r = κ := by intro κ h; cases h; exact ⟨rfl, rfl⟩
        obtain ⟨c1, c2⟩ := key a2
        rw [b1] at c2; cases c2
        refine ⟨_, _, rfl, by rw [gcall_hd b2, f2]; simp, by rw [hbt, ← c1]; exact b3, ?_⟩
        have hrep := ok.rep
        rw [c1, b1] at hrep
        rw [hbt]
        exact hrep.move (o' := o) (r' := parRoot k) (p' := []) e7 ⟨fun b hb => gcall_frz hb, fun b q hb => by
          rw [List.nil_append] at hb
          rw [gcall_at hb hnb, f1 q]; simp⟩
  have gen : ∀ (ps' : List (Nat × Mode)) (ts' : List T) (vs' : List Value) (i : Nat), ts'.length = ps'.length → vs'.length = ps'.length →
      (∀ (k ty : Nat) (m : Mode) (t : T) (v : Value), ps'[k]? = some (ty, m) → ts'[k]? = some t → vs'[k]? = some v → ArgOk E w (gcall args (roRefs args as) g) (i + k) ty m t v) →
      ArgsOk E w (gcall args (roRefs args as) g) i ps' ts' vs' := by
    intro ps'
    induction ps' with
    | nil => intro ts' vs' i h1 h2 _; cases ts' with
      | nil => cases vs' with
        | nil => trivial
        | cons => simp at h2
      | cons => simp at h1
    | cons x ps' ih =>
      intro ts' vs' i h1 h2 h3
      cases ts' with
      | nil => simp at h1
      | cons t ts' =>
        cases vs' with
        | nil => simp at h2
        | cons v vs' =>
          obtain ⟨ty, m⟩ := x
          refine ⟨by simpa using h3 0 ty m t v rfl rfl rfl, ih ts' vs' (i + 1) (by simpa using h1) (by simpa using h2) fun k ty m t v a b c => ?_⟩
          have := h3 (k + 1) ty m t v (by simpa using a) (by simpa using b) (by simpa using c)
          rwa [show i + (k + 1) = i + 1 + k by omega] at this
  exact gen ps ts vs 0 l1 (by omega) (fun k ty m t v a b c => by simpa using one k ty m t v a b c)
end

/-- From the called one's telling of a block back to the caller's. -/
def backO (args : List Arg) (d : Nat) : Own → Own
  | .at R q => if 200000 ≤ R then .at (retRoot d (R - 200000)) q else if 100000 ≤ R then (match args[R - 100000]? with
      | some (.mu r p _) => .at r (p ++ q)
      | some (.bx r _) => .at r q
      | _ => .free) else .free
  | .hd R => if 200000 ≤ R then .hd (retRoot d (R - 200000)) else if 100000 ≤ R then (match args[R - 100000]? with
      | some (.bx r _) => .hd r
      | _ => .free) else .free
  | x => x
open Classical in
noncomputable def gret (args : List Arg) (bor : List Nat) (d : Nat) (w : World) (g g' : Gh) : Gh := fun b =>
  if b < w.heap.size ∧ gcall args bor g b = .free then g b
  else if b < w.heap.size ∧ gcall args bor g b = .frz then (if ∃ r q, g b = .at r q ∧ r ∈ bor then g b else .frz)
  else backO args d (g' b)

section
variable {E : Env} {w w' : World} {g g' : Gh} {args : List Arg} {bor : List Nat} {d : Nat}

theorem gret_free {b : Nat} (hb : b < w.heap.size) (h : gcall args bor g b = .free) : gret args bor d w g g' b = g b := by unfold gret; rw [if_pos ⟨hb, h⟩]
theorem gret_frz {b : Nat} (hb : b < w.heap.size) (h : g b = .frz) : gret args bor d w g g' b = .frz := by
  have h1 := gcall_frz (args := args) (bor := bor) h
  unfold gret
  rw [if_neg (by rw [h1]; simp), if_pos ⟨hb, h1⟩, if_neg (by rintro ⟨r, q, hq, _⟩; rw [h] at hq; cases hq)]
theorem gret_bor {b r : Nat} {q : List Step} (hb : b < w.heap.size) (h : g b = .at r q) (hr : r ∈ bor) : gret args bor d w g g' b = g b := by
  have h1 := gcall_bor (args := args) h hr
  unfold gret
  rw [if_neg (by rw [h1]; simp), if_pos ⟨hb, h1⟩, if_pos ⟨r, q, h, hr⟩]
/-- A block that the called one has of its own. -/
theorem gret_own (hst : Stp w (gcall args bor g) w' g') {b : Nat} (hn : g' b ≠ .free) (hf : g' b ≠ .frz) : gret args bor d w g g' b = backO args d (g' b) := by
  unfold gret
  rw [if_neg, if_neg]
  · rintro ⟨h1, h2⟩
    have := (hst.keep b h1 (.inr h2)).2
    rw [h2] at this; exact hf this
  · rintro ⟨h1, h2⟩
    have := (hst.keep b h1 (.inl h2)).2
    rw [h2] at this; exact hn this
theorem gret_frz' (hst : Stp w (gcall args bor g) w' g') (hbor : bor = []) {b : Nat} (hf : g' b = .frz) : gret args bor d w g g' b = .frz := by
  subst hbor
  unfold gret
  by_cases h1 : b < w.heap.size ∧ gcall args [] g b = .free
  · have := (hst.keep b h1.1 (.inl h1.2)).2
    rw [h1.2, hf] at this; cases this
  · rw [if_neg h1]
    by_cases h2 : b < w.heap.size ∧ gcall args [] g b = .frz
    · rw [if_pos h2, if_neg (by rintro ⟨_, _, _, h⟩; cases h)]
    · rw [if_neg h2, hf]; rfl
theorem gret_nf {b : Nat} (hbnd : ∀ b, g b ≠ .free → b < w.heap.size) (hbnd' : ∀ b, g' b ≠ .free → b < w'.heap.size) (hst : Stp w (gcall args bor g) w' g') (h : gret args bor d w g g' b ≠ .free) : b < w'.heap.size := by
  have hs := hst.size
  unfold gret at h
  by_cases h1 : b < w.heap.size ∧ gcall args bor g b = .free
  · omega
  · rw [if_neg h1] at h
    by_cases h2 : b < w.heap.size ∧ gcall args bor g b = .frz
    · omega
    · rw [if_neg h2] at h
      refine hbnd' b fun hf => h ?_
      rw [hf]; rfl

/-- What comes back, told by the caller. -/
theorem back_rep (hE : TyWf E) (hst : Stp w (gcall args bor g) w' g') {ty R R' : Nat} {t : T} {o : O} {p' : List Step} {κ : Place} (h : Rep E w' g' ty t o R [] κ) (hl : o.live = true)
    (hdeep : deep E ty o = true ∨ bor = []) (hmap : ∀ q, backO args d (.at R q) = .at R' (p' ++ q)) : Rep E w' (gret args bor d w g g') ty t o R' p' κ := by
  have hat : ∀ b q, g' b = .at R ([] ++ q) → gret args bor d w g g' b = .at R' (p' ++ q) := by
    intro b q hb
    rw [List.nil_append] at hb
    rw [gret_own hst (by rw [hb]; simp) (by rw [hb]; simp), hb, hmap]
  rcases hdeep with hd | hd
  · exact h.deep hE hd hl (fun _ _ => rfl) fun b q hb => ⟨SameBlk.refl _ _, hat b q hb⟩
  · exact h.rekey (fun b hb => gret_frz' hst hd hb) hat
theorem back_box (hE : TyWf E) (hst : Stp w (gcall args bor g) w' g') {ty R R' : Nat} {t : T} {o : O} {v : Value} (h : BoxOk E w' g' ty R t o v) (hl : o.live = true)
    (hdeep : deep E ty o = true ∨ bor = []) (hmap : ∀ q, backO args d (.at R q) = .at R' q) (hhd : backO args d (.hd R) = .hd R') : BoxOk E w' (gret args bor d w g g') ty R' t o v := by
  obtain ⟨b, x, h1, h2, h3, h4⟩ := h
  exact ⟨b, x, h1, by rw [gret_own hst (by rw [h2]; simp) (by rw [h2]; simp), h2, hhd], h3, back_rep hE hst h4 hl hdeep (fun q => by rw [hmap]; simp)⟩
end
end Go.Proofs.YtfelodpbejdhlaaDoor.Ra
/- A call: the caller's state behind it. -/
namespace Go.Proofs.YtfelodpbejdhlaaDoor.Ra
open Go Go.RowKit

mutual
theorem eq_of_oeq : ∀ (a b : O), O.eq a b = true → a = b
  | .fz, .fz, _ => rfl
  | .dp, .dp, _ => rfl
  | .dead, .dead, _ => rfl
  | .sl a, .sl b, h => by rw [eq_of_oeq a b (by simpa [O.eq] using h)]
  | .st as, .st bs, h => by rw [eqs_of_oeqs as bs (by simpa [O.eq] using h)]
  | .fz, .dp, h | .fz, .dead, h | .fz, .sl _, h | .fz, .st _, h | .dp, .fz, h | .dp, .dead, h | .dp, .sl _, h | .dp, .st _, h
  | .dead, .fz, h | .dead, .dp, h | .dead, .sl _, h | .dead, .st _, h | .sl _, .fz, h | .sl _, .dp, h | .sl _, .dead, h | .sl _, .st _, h
  | .st _, .fz, h | .st _, .dp, h | .st _, .dead, h | .st _, .sl _, h => by simp [O.eq] at h
theorem eqs_of_oeqs : ∀ (a b : List O), O.eqs a b = true → a = b
  | [], [], _ => rfl
  | a :: as, b :: bs, h => by
    simp only [O.eqs, Bool.and_eq_true] at h
    rw [eq_of_oeq a b h.1, eqs_of_oeqs as bs h.2]
  | [], _ :: _, h => by simp [O.eqs] at h
  | _ :: _, [], h => by simp [O.eqs] at h
end

def Al : List (Nat × Mode) → List Arg → Prop
  | [], [] => True
  | (_, .ro) :: ps, .ro :: as => Al ps as
  | (_, .mu o) :: ps, .mu _ _ o' :: as => o = o' ∧ Al ps as
  | (_, .bx o) :: ps, .bx _ o' :: as => o = o' ∧ Al ps as
  | _, _ => False

section
variable {E : Env} {w : World} {g : Gh} {rt look : Nat → Option Rt} {hold : Nat → Place}

theorem al_of : ∀ {ps : List (Nat × Mode)} {args : List Arg}, ps.length = args.length →
    (∀ (k r : Nat) (p : List Step) (o : O), args[k]? = some (.mu r p o) → ∃ ty, ps[k]? = some (ty, .mu o)) → (∀ (k r : Nat) (o : O), args[k]? = some (.bx r o) → ∃ ty, ps[k]? = some (ty, .bx o)) →
    (∀ (k : Nat), args[k]? = some .ro → ∃ ty, ps[k]? = some (ty, .ro)) → Al ps args
  | [], args, h, _, _, _ => by cases args with
    | nil => trivial
    | cons => simp at h
  | (ty, m) :: ps, args, h, h1, h2, h3 => by
    cases args with
    | nil => simp at h
    | cons x args =>
      have ih := al_of (ps := ps) (args := args) (by simpa using h) (fun k r p o hk => by simpa using h1 (k + 1) r p o (by simpa using hk)) (fun k r o hk => by simpa using h2 (k + 1) r o (by simpa using hk))
        (fun k hk => by simpa using h3 (k + 1) (by simpa using hk))
      cases x with
      | ro => obtain ⟨ty', e⟩ := h3 0 rfl; simp at e; obtain ⟨_, rfl⟩ := e; exact ih
      | mu r p o => obtain ⟨ty', e⟩ := h1 0 r p o rfl; simp at e; obtain ⟨_, rfl⟩ := e; exact ⟨rfl, ih⟩
      | bx r o => obtain ⟨ty', e⟩ := h2 0 r o rfl; simp at e; obtain ⟨_, rfl⟩ := e; exact ⟨rfl, ih⟩

def muNew (E : Env) (p : List Step) (o : O) (t : T) (R : Rt) : Rt := { R with t := R.t.put p t, o := bif noIdx p then O.set E R.ty R.o p o else R.o }
def bxNew (o : O) (t : T) (R : Rt) : Rt := { R with t := t, o := o }

theorem backE_at {w' : World} {g' : Gh} : ∀ {ps : List (Nat × Mode)} {args : List Arg} {vs : List Value} {mts : List T} {i : Nat}, Al ps args → MusOk E w' g' i ps mts vs → distinct (muRoots args) = true →
    (∀ (k r : Nat) (p : List Step) (o : O), args[k]? = some (.mu r p o) → ∃ ty t' v, ps[k]? = some (ty, .mu o) ∧ vs[k]? = some v ∧ MuOk E w' g' (i + k) ty (.mu o) t' v ∧
      assoc (backE E look args mts) r = some ((look r).map (muNew E p o t'))) ∧
    (∀ (k r : Nat) (o : O), args[k]? = some (.bx r o) → ∃ ty t' v, ps[k]? = some (ty, .bx o) ∧ vs[k]? = some v ∧ MuOk E w' g' (i + k) ty (.bx o) t' v ∧
      assoc (backE E look args mts) r = some ((look r).map (bxNew o t'))) ∧
    (∀ r, r ∉ muRoots args → assoc (backE E look args mts) r = none)
  | [], args, vs, mts, i, hal, hm, hd => by
    cases args with
    | nil => exact ⟨fun k r p o h => by simp at h, fun k r o h => by simp at h, fun r _ => by cases mts <;> rfl⟩
    | cons x args => cases x <;> simp [Al] at hal
  | (ty, m) :: ps, args, vs, mts, i, hal, hm, hd => by
    cases args with
    | nil => cases m <;> simp [Al] at hal
    | cons x args =>
      cases vs with
      | nil => cases m <;> cases mts <;> simp [MusOk] at hm
      | cons v vs =>
        rw [muRoots_cons] at hd
        cases m with
        | ro =>
          cases x with
          | ro =>
            simp only [Al] at hal
            simp only [MusOk] at hm
            obtain ⟨i1, i2, i3⟩ := backE_at hal hm hd
            refine ⟨fun k r p o hk => ?_, fun k r o hk => ?_, fun r hr => ?_⟩
            · cases k with
              | zero => simp at hk
              | succ k =>
                obtain ⟨ty', t', v', a1, a2, a3, a4⟩ := i1 k r p o (by simpa using hk)
                exact ⟨ty', t', v', by simpa using a1, by simpa using a2, by rw [show i + (k + 1) = i + 1 + k by omega]; exact a3, by simpa [backE] using a4⟩
            · cases k with
              | zero => simp at hk
              | succ k =>
                obtain ⟨ty', t', v', a1, a2, a3, a4⟩ := i2 k r o (by simpa using hk)
                exact ⟨ty', t', v', by simpa using a1, by simpa using a2, by rw [show i + (k + 1) = i + 1 + k by omega]; exact a3, by simpa [backE] using a4⟩
            · rw [muRoots_cons] at hr
              simpa [backE] using i3 r hr
          | _ => simp [Al] at hal
        | mu o0 =>
          cases x with
          | mu r0 p0 o1 =>
            simp only [Al] at hal
            obtain ⟨rfl, hal⟩ := hal
            cases mts with
            | nil => simp [MusOk] at hm
            | cons t mts =>
              simp only [MusOk] at hm
              obtain ⟨hd1, hd2⟩ := distinct_cons hd
              obtain ⟨i1, i2, i3⟩ := backE_at hal hm.2 hd2
              have hcons : ∀ r, r ≠ r0 → assoc (backE E look (.mu r0 p0 o0 :: args) (t :: mts)) r = assoc (backE E look args mts) r := by
                intro r hr; simp only [backE, assoc, nbeq, Ne.symm hr, decide_false, cond_false, List.tail_cons]
              refine ⟨fun k r p o hk => ?_, fun k r o hk => ?_, fun r hr => ?_⟩
              · cases k with
                | zero =>
                  simp at hk; obtain ⟨rfl, rfl, rfl⟩ := hk
                  exact ⟨ty, t, v, rfl, rfl, hm.1, by simp only [backE, assoc, nbeq, decide_true, cond_true]; rfl⟩
                | succ k =>
                  simp only [List.getElem?_cons_succ] at hk
                  obtain ⟨ty', t', v', a1, a2, a3, a4⟩ := i1 k r p o hk
                  refine ⟨ty', t', v', by simpa using a1, by simpa using a2, by rw [show i + (k + 1) = i + 1 + k by omega]; exact a3, ?_⟩
                  rw [hcons r (fun e => hd1 (e ▸ mem_muRoots.2 ⟨k, .inl ⟨p, o, hk⟩⟩)), a4]
              · cases k with
                | zero => simp at hk
                | succ k =>
                  simp only [List.getElem?_cons_succ] at hk
                  obtain ⟨ty', t', v', a1, a2, a3, a4⟩ := i2 k r o hk
                  refine ⟨ty', t', v', by simpa using a1, by simpa using a2, by rw [show i + (k + 1) = i + 1 + k by omega]; exact a3, ?_⟩
                  rw [hcons r (fun e => hd1 (e ▸ mem_muRoots.2 ⟨k, .inr ⟨o, hk⟩⟩)), a4]
              · rw [muRoots_cons] at hr
                simp only [List.mem_cons, not_or] at hr
                rw [hcons r hr.1]; exact i3 r hr.2
          | _ => simp [Al] at hal
        | bx o0 =>
          cases x with
          | bx r0 o1 =>
            simp only [Al] at hal
            obtain ⟨rfl, hal⟩ := hal
            cases mts with
            | nil => simp [MusOk] at hm
            | cons t mts =>
              simp only [MusOk] at hm
              obtain ⟨hd1, hd2⟩ := distinct_cons hd
              obtain ⟨i1, i2, i3⟩ := backE_at hal hm.2 hd2
              have hcons : ∀ r, r ≠ r0 → assoc (backE E look (.bx r0 o0 :: args) (t :: mts)) r = assoc (backE E look args mts) r := by
                intro r hr; simp only [backE, assoc, nbeq, Ne.symm hr, decide_false, cond_false, List.tail_cons]
              refine ⟨fun k r p o hk => ?_, fun k r o hk => ?_, fun r hr => ?_⟩
              · cases k with
                | zero => simp at hk
                | succ k =>
                  simp only [List.getElem?_cons_succ] at hk
                  obtain ⟨ty', t', v', a1, a2, a3, a4⟩ := i1 k r p o hk
                  refine ⟨ty', t', v', by simpa using a1, by simpa using a2, by rw [show i + (k + 1) = i + 1 + k by omega]; exact a3, ?_⟩
                  rw [hcons r (fun e => hd1 (e ▸ mem_muRoots.2 ⟨k, .inl ⟨p, o, hk⟩⟩)), a4]
              · cases k with
                | zero =>
                  simp at hk; obtain ⟨rfl, rfl⟩ := hk
                  exact ⟨ty, t, v, rfl, rfl, hm.1, by simp only [backE, assoc, nbeq, decide_true, cond_true]; rfl⟩
                | succ k =>
                  simp only [List.getElem?_cons_succ] at hk
                  obtain ⟨ty', t', v', a1, a2, a3, a4⟩ := i2 k r o hk
                  refine ⟨ty', t', v', by simpa using a1, by simpa using a2, by rw [show i + (k + 1) = i + 1 + k by omega]; exact a3, ?_⟩
                  rw [hcons r (fun e => hd1 (e ▸ mem_muRoots.2 ⟨k, .inr ⟨o, hk⟩⟩)), a4]
              · rw [muRoots_cons] at hr
                simp only [List.mem_cons, not_or] at hr
                rw [hcons r hr.1]; exact i3 r hr.2
          | _ => simp [Al] at hal

theorem retRoot_inj {d j k : Nat} (h : retRoot d j = retRoot d k) : j = k := by unfold retRoot at h; omega
/-- The roots of the results. -/
theorem resWr_at {d : Nat} {w' : World} {g' : Gh} : ∀ {rs : List (Nat × Ret)} {ts rest : List T} {vs : List Value} {j : Nat}, RessOk E w' g' j rs ts vs →
    ts.length = rs.length ∧ vs.length = rs.length ∧
    (∀ (k ty : Nat) (kd : Ret), rs[k]? = some (ty, kd) → ∃ t v, ts[k]? = some t ∧ vs[k]? = some v ∧ ResOk E w' g' (j + k) ty kd t v ∧
      assoc (resWr E d j rs (ts ++ rest)) (retRoot d (j + k)) = some (resRt E d (j + k) ty t kd).2 ∧ assoc (resKs d j rs) (retRoot d (j + k)) = some 0 ∧
      (resAvs E d j rs (ts ++ rest))[k]? = some (resAv E d (j + k) ty t kd)) ∧
    (∀ r, (∀ k, k < rs.length → r ≠ retRoot d (j + k)) → assoc (resWr E d j rs (ts ++ rest)) r = none) ∧ (resAvs E d j rs (ts ++ rest)).length = rs.length ∧
    (∀ k, k < rs.length → retRoot d (j + k) ∈ (resKs d j rs).map (·.1))
  | [], ts, rest, vs, j, h => by
    cases ts with
    | nil =>
      cases vs with
      | nil => exact ⟨rfl, rfl, fun k ty kd h => by simp at h, fun r _ => by simp [resWr, assoc], by simp [resAvs], fun k hk => by simp at hk⟩
      | cons => simp [RessOk] at h
    | cons => simp [RessOk] at h
  | (ty, kd) :: rs, ts, rest, vs, j, h => by
    cases ts with
    | nil => simp [RessOk] at h
    | cons t ts =>
      cases vs with
      | nil => simp [RessOk] at h
      | cons v vs =>
        simp only [RessOk] at h
        obtain ⟨i1, i2, i3, i4, i5, i6⟩ := resWr_at (d := d) (rest := rest) h.2
        have hk0 : ∀ {t}, (resRt E d j ty t kd).1 = retRoot d j := by intro t; cases kd <;> rfl
        have hcons : ∀ r, r ≠ retRoot d j → assoc (resWr E d j ((ty, kd) :: rs) (t :: ts ++ rest)) r = assoc (resWr E d (j + 1) rs (ts ++ rest)) r := by
          intro r hr
          simp only [resWr, List.cons_append, List.headD_cons, List.tail_cons]
          rw [show resRt E d j ty t kd = (retRoot d j, (resRt E d j ty t kd).2) from Prod.ext hk0 rfl]
          simp only [assoc, nbeq, Ne.symm hr, decide_false, cond_false]
        refine ⟨by simp [i1], by simp [i2], fun k ty' kd' hk => ?_, fun r hr => ?_, by simp [resAvs, i5], fun k hk => ?_⟩
        · cases k with
          | zero =>
            simp at hk; obtain ⟨rfl, rfl⟩ := hk
            refine ⟨t, v, rfl, rfl, h.1, ?_, by simp [resKs, assoc, nbeq], by simp [resAvs]⟩
            simp only [resWr, List.cons_append, List.headD_cons, List.tail_cons, Nat.add_zero]
            rw [show resRt E d j ty t kd = (retRoot d j, (resRt E d j ty t kd).2) from Prod.ext hk0 rfl]
            simp only [assoc, nbeq, decide_true, cond_true]
          | succ k =>
            obtain ⟨t', v', a1, a2, a3, a4, a5, a6⟩ := i3 k ty' kd' (by simpa using hk)
            have he : j + 1 + k = j + (k + 1) := by omega
            rw [he] at a3 a4 a5 a6
            have hne : retRoot d (j + (k + 1)) ≠ retRoot d j := fun e => by have := retRoot_inj e; omega
            refine ⟨t', v', by simpa using a1, by simpa using a2, a3, by rw [hcons _ hne]; exact a4, ?_, by simpa [resAvs] using a6⟩
            simp only [resKs, assoc, nbeq, Ne.symm hne, decide_false, cond_false]; exact a5
        · rw [hcons r (by simpa using hr 0 (by simp))]
          exact i4 r fun k hk => by have := hr (k + 1) (by simpa using hk); rwa [show j + (k + 1) = j + 1 + k by omega] at this
        · cases k with
          | zero => simp [resKs]
          | succ k =>
            have := i6 k (by simpa using hk)
            rw [show j + (k + 1) = j + 1 + k by omega]
            simp only [resKs, List.map_cons, List.mem_cons]; exact .inr this
theorem assoc_append {α : Type} (r : Nat) : ∀ (l m : List (Nat × α)), assoc (l ++ m) r = (match assoc l r with | some x => some x | none => assoc m r)
  | [], m => rfl
  | (k, v) :: l, m => by
    simp only [List.cons_append, assoc]
    cases Nat.beq k r with
    | true => rfl
    | false => simp only [cond_false]; exact assoc_append r l m
end
end Go.Proofs.YtfelodpbejdhlaaDoor.Ra
/- A call: all is kept. -/
namespace Go.Proofs.YtfelodpbejdhlaaDoor.Ra
open Go Go.RowKit

def placeOf (k : Ret) (v : Value) : Place := match k with
  | .vl _ => .reg v.cells.toList 0
  | .bx _ => match v with
    | .pointer (some a) => .mem a.block a.off
    | _ => .reg [] 0
def holdC (hold : Nat → Place) (d : Nat) (rs : List (Nat × Ret)) (rvs : List Value) : Nat → Place := fun r =>
  if r % 1000 = d then (match rs[r / 1000]?, rvs[r / 1000]? with
    | some (_, k), some v => placeOf k v
    | _, _ => hold r) else hold r
theorem holdC_ret {hold : Nat → Place} {d k ty : Nat} {rs : List (Nat × Ret)} {rvs : List Value} {kd : Ret} {v : Value} (hd : d < 1000) (h1 : rs[k]? = some (ty, kd)) (h2 : rvs[k]? = some v) :
    holdC hold d rs rvs (retRoot d k) = placeOf kd v := by
  have e1 : retRoot d k % 1000 = d := by unfold retRoot; omega
  have e2 : retRoot d k / 1000 = k := by unfold retRoot; omega
  simp only [holdC, e1, e2, if_true, h1, h2]
theorem holdC_other {hold : Nat → Place} {d r : Nat} {rs : List (Nat × Ret)} {rvs : List Value} (h : ∀ k, k < rs.length → r ≠ retRoot d k) : holdC hold d rs rvs r = hold r := by
  unfold holdC
  by_cases hr : r % 1000 = d
  · rw [if_pos hr]
    rcases Nat.lt_or_ge (r / 1000) rs.length with hlt | hge
    · exact absurd (show r = retRoot d (r / 1000) by unfold retRoot; omega) (h _ hlt)
    · rw [List.getElem?_eq_none hge]
  · rw [if_neg hr]

theorem isBx_lentH {args : List Arg} {r : Nat} (h : isBx args r = true) : ∀ (i : Nat), (lentH i args r).isSome = true := by
  induction args with
  | nil => simp [isBx] at h
  | cons x l ih =>
    intro i
    cases x with
    | ro => exact ih (by simpa [isBx] using h) _
    | mu r' p o => exact ih (by simpa [isBx] using h) _
    | bx r' o =>
      simp only [isBx, Bool.or_eq_true] at h
      simp only [lentH]
      by_cases hr : r' = r
      · rw [if_pos hr]; rfl
      · rw [if_neg hr]
        rcases h with h | h
        · exact absurd (Nat.eq_of_beq_eq_true h) hr
        · exact ih h _
theorem lentH_isBx {args : List Arg} {r : Nat} : ∀ {i : Nat}, (lentH i args r).isSome = true → isBx args r = true := by
  induction args with
  | nil => intro i h; simp [lentH] at h
  | cons x l ih =>
    intro i h
    cases x with
    | ro => simp only [lentH] at h; exact ih h
    | mu r' p o => simp only [lentH] at h; exact ih h
    | bx r' o =>
      simp only [isBx, Bool.or_eq_true]
      by_cases hr : r' = r
      · subst hr; left; simp
      · simp only [lentH, if_neg hr] at h; exact .inr (ih h)
theorem apartL_ok {l m : List Nat} (h : apartL l m = true) : ∀ r ∈ l, r ∉ m := by
  intro r hr hm
  have := List.all_eq_true.1 h r hr
  rw [mem_iff.2 hm] at this; simp at this

section
variable {P : Program} {E : Env} {n : Nat} {st : St} {a : Act} {w : World} {g : Gh} {hold : Nat → Place} {look : Nat → Option Rt}

theorem after_ok (hP : PrOk P E) (h : Inv E n st a w g hold) (hl : ∀ r R, look r = some R → st.rt r = some R) {dst : Option Nat} (hdst : ∀ x, dst = some x → x < n) {ps : List (Nat × Mode)} {rs : List (Nat × Ret)}
    {as : List AV} {ts : List T} {args : List Arg} (hA : ArgsAt E look ps as ts args) {d : Nat} (hd9 : d < 1000) (hrl : rs.length < 90) (hpl : ps.length < 1000)
    (c1 : distinct (muRoots args) = true) (c2 : apartL (muRoots args) ((resKs d 0 rs).map (·.1)) = true) (c3 : apartL (muRoots args) (roRefs args as) = true)
    (c4 : ((rs.all (deepR E) && ps.all (deepM E)) || (roRefs args as).isEmpty) = true) (c5 : rs.all (fineR E) = true) (c6 : ps.all fineM = true)
    {vs : List Value} (hlen : vs.length = as.length) (hv : ∀ (k : Nat) (av : AV) (v : Value), as[k]? = some av → vs[k]? = some v → AvOk E w g st.rt hold av v)
    {w' : World} {g' : Gh} (hst : Stp w (gcall args (roRefs args as) g) w' g') (hbnd' : ∀ b, g' b ≠ .free → b < w'.heap.size) {v : Value} {rvs : List Value} {rts mts : List T}
    (hres : RessOk E w' g' 0 rs rts rvs) (hmus : MusOk E w' g' 0 ps mts vs) (hvr : VRes rvs v) :
    ∃ g'' hold', Stp w g w' g'' ∧ Sld hold hold' ∧ Inv E n (applyU dst ⟨match rs with
          | [(ty, k)] => resAv E d 0 ty ((rts ++ mts).headD (.int 0)) k
          | _ => .tup (resAvs E d 0 rs (rts ++ mts)),
         backE E look args ((rts ++ mts).drop rs.length) ++ resWr E d 0 rs (rts ++ mts), backKs look args ++ resKs d 0 rs⟩ st) (a.put dst v) w' g'' hold' := by
  have hE := hP.wf
  let bor := roRefs args as
  let G := gret args bor d w g g'
  let hold' := holdC hold d rs rvs
  obtain ⟨l1, l2, l3, hmu, hbx, hro⟩ := hA
  have hap2 := apartL_ok c2
  have hap3 := apartL_ok c3
  obtain ⟨r1, r2, r3, r4, r5, r6⟩ := resWr_at (E := E) (d := d) (rest := mts) hres
  simp only [Nat.zero_add] at r3 r4 r6
  have hdrop : (rts ++ mts).drop rs.length = mts := by rw [← r1]; simp
  rw [hdrop]
  have hal : Al ps args := al_of l3.symm (fun k r p o hk => by obtain ⟨ty, _, e, _⟩ := hmu k r p o hk; exact ⟨ty, e⟩) (fun k r o hk => by obtain ⟨ty, _, _, e, _⟩ := hbx k r o hk; exact ⟨ty, e⟩)
    (fun k hk => by obtain ⟨ty, _, _, e, _⟩ := hro k hk; exact ⟨ty, e⟩)
  obtain ⟨b1, b2, b3⟩ := backE_at (E := E) (look := look) hal hmus c1
  simp only [Nat.zero_add] at b1 b2
  -- deep or nothing borrowed
  have hdR : ∀ ty kd, (ty, kd) ∈ rs → deepR E (ty, kd) = true ∨ bor = [] := by
    intro ty kd hm
    simp only [Bool.or_eq_true, Bool.and_eq_true] at c4
    rcases c4 with c | c
    · exact .inl (List.all_eq_true.1 c.1 _ hm)
    · exact .inr (List.isEmpty_iff.1 c)
  have hdM : ∀ ty m, (ty, m) ∈ ps → deepM E (ty, m) = true ∨ bor = [] := by
    intro ty m hm
    simp only [Bool.or_eq_true, Bool.and_eq_true] at c4
    rcases c4 with c | c
    · exact .inl (List.all_eq_true.1 c.2 _ hm)
    · exact .inr (List.isEmpty_iff.1 c)
  -- the blocks
  have hfrz : ∀ b, g b = .frz → SameBlk w w' b ∧ G b = .frz := by
    intro b hb
    have hlt := h.bnd b (by rw [hb]; simp)
    exact ⟨.of_heap (hst.keep b hlt (.inr (gcall_frz hb))).1, gret_frz hlt hb⟩
  have hunl : ∀ b, b < w.heap.size → gcall args bor g b = .free → w'.heap[b]? = w.heap[b]? ∧ G b = g b := fun b hlt hf => ⟨(hst.keep b hlt (.inl hf)).1, gret_free hlt hf⟩
  have hbor : ∀ b r q, g b = .at r q → r ∈ bor → SameBlk w w' b ∧ G b = g b := by
    intro b r q hb hr
    have hlt := h.bnd b (by rw [hb]; simp)
    exact ⟨.of_heap (hst.keep b hlt (.inr (gcall_bor hb hr))).1, gret_bor hlt hb hr⟩
  have hatf : ∀ b r q, g b = .at r q → lent 0 args r q = none → SameBlk w w' b ∧ G b = g b := by
    intro b r q hb hr
    have hlt := h.bnd b (by rw [hb]; simp)
    by_cases hrb : r ∈ bor
    · exact hbor b r q hb hrb
    · obtain ⟨k1, k2⟩ := hunl b hlt (by rw [gcall_at hb hrb, hr]; rfl)
      exact ⟨.of_heap k1, k2⟩
  have hhdf : ∀ b r, g b = .hd r → lentH 0 args r = none → SameBlk w w' b ∧ G b = g b := by
    intro b r hb hr
    obtain ⟨k1, k2⟩ := hunl b (h.bnd b (by rw [hb]; simp)) (by rw [gcall_hd hb, hr])
    exact ⟨.of_heap k1, k2⟩
  have hstp : Stp w g w' G := by
    refine ⟨hst.os, hst.tape, hst.output, hst.size, fun b hb hf => ?_⟩
    rcases hf with hf | hf
    · have : gcall args bor g b = .free := by simp [gcall, hf]
      obtain ⟨k1, k2⟩ := hunl b hb this
      exact ⟨k1, k2⟩
    · exact ⟨(hst.keep b hb (.inr (gcall_frz hf))).1, by rw [hf]; exact (hfrz b hf).2⟩
  have hsld : Sld hold hold' := fun r hr => holdC_other fun k hk e => by unfold retRoot at e; omega
  -- how results and lent things are told
  have e2r : ∀ k, 200000 ≤ resRoot k ∧ resRoot k - 200000 = k := fun k => by unfold resRoot; omega
  have e1r : ∀ k, k < 1000 → ¬ 200000 ≤ parRoot k ∧ 100000 ≤ parRoot k ∧ parRoot k - 100000 = k := fun k hk => by unfold parRoot; omega
  have bR : ∀ k q, backO args d (.at (resRoot k) q) = .at (retRoot d k) q := by intro k q; simp only [backO]; rw [if_pos (e2r k).1, (e2r k).2]
  have bRh : ∀ k, backO args d (.hd (resRoot k)) = .hd (retRoot d k) := by intro k; simp only [backO]; rw [if_pos (e2r k).1, (e2r k).2]
  have bM : ∀ (k r : Nat) (p : List Step) (o : O), args[k]? = some (Arg.mu r p o) → ∀ q, backO args d (.at (parRoot k) q) = .at r (p ++ q) := by
    intro k r p o hk q
    have hkl := (List.getElem?_eq_some_iff.1 hk).1
    obtain ⟨x1, x2, x3⟩ := e1r k (by omega)
    simp only [backO]; rw [if_neg x1, if_pos x2, x3, hk]
  have bB : ∀ (k r : Nat) (o : O), args[k]? = some (Arg.bx r o) → (∀ q, backO args d (.at (parRoot k) q) = .at r q) ∧ backO args d (.hd (parRoot k)) = .hd r := by
    intro k r o hk
    have hkl := (List.getElem?_eq_some_iff.1 hk).1
    obtain ⟨x1, x2, x3⟩ := e1r k (by omega)
    refine ⟨fun q => ?_, ?_⟩ <;> (simp only [backO]; rw [if_neg x1, if_pos x2, x3, hk])
  -- the roots behind
  let rt' : Nat → Option Rt := fun r => match assoc (backE E look args mts ++ resWr E d 0 rs (rts ++ mts)) r with | some x => x | none => st.rt r
  have rt_ret : ∀ k ty kd t, rs[k]? = some (ty, kd) → assoc (resWr E d 0 rs (rts ++ mts)) (retRoot d k) = some (resRt E d k ty t kd).2 → rt' (retRoot d k) = (resRt E d k ty t kd).2 := by
    intro k ty kd t hk hw
    have hkl := (List.getElem?_eq_some_iff.1 hk).1
    have hnm : retRoot d k ∉ muRoots args := fun hm => hap2 _ hm (r6 k hkl)
    simp only [rt']; rw [assoc_append, b3 _ hnm]; simp only; rw [hw]
  have rt_old : ∀ r, r ∉ muRoots args → (∀ k, k < rs.length → r ≠ retRoot d k) → rt' r = st.rt r := by
    intro r h1 h2
    simp only [rt']; rw [assoc_append, b3 r h1]; simp only; rw [r4 r h2]
  have rt_mu : ∀ r x, assoc (backE E look args mts) r = some x → rt' r = x := by
    intro r x hx; simp only [rt']; rw [assoc_append, hx]
  have ret_or : ∀ r, (∃ k, k < rs.length ∧ r = retRoot d k) ∨ ∀ k, k < rs.length → r ≠ retRoot d k := by
    intro r
    by_cases hex : ∃ k, k < rs.length ∧ r = retRoot d k
    · exact .inl hex
    · exact .inr fun k hk e => hex ⟨k, hk, e⟩
  have hkeep : ∀ r, r ∉ muRoots args → (∀ k, k < rs.length → r ≠ retRoot d k) → Keeps w g hold w' G hold' r := by
    intro r h1 h2
    refine ⟨holdC_other h2, fun b hb => ?_⟩
    rcases hb with hb | ⟨q, hb⟩
    · exact hhdf b r hb (lentH_none h1 0)
    · exact hatf b r q hb (lent_none h1 0 q)
  -- a root that was lent
  have mu_root : ∀ r, r ∈ muRoots args → (∀ k, k < rs.length → r ≠ retRoot d k) := fun r hr k hk e => hap2 r hr (by rw [e]; exact r6 k hk)
  have hmuR : ∀ (k r : Nat) (p : List Step) (o : O), args[k]? = some (Arg.mu r p o) → ∃ R R', look r = some R ∧ rt' r = some R' ∧ R'.ty = R.ty ∧ R'.box = R.box ∧ RtOk E w' G hold' r R' ∧ ∀ m, rd w' ((hold r).add m) = rd w ((hold r).add m) := by
    intro k r p o hk
    obtain ⟨ty, R, e1, e2, e3, e4, e5, e6, e7, e8⟩ := hmu k r p o hk
    obtain ⟨ty', t', v', f1, f2, f3, f4⟩ := b1 k r p o hk
    rw [e1] at f1; cases f1
    rw [e3, Option.map_some] at f4
    have hmr : r ∈ muRoots args := mem_muRoots.2 ⟨k, .inl ⟨p, o, hk⟩⟩
    have ok := h.rts r R (hl r R e3)
    have hhold : hold' r = hold r := holdC_other (mu_root r hmr)
    obtain ⟨g1, g2, g3⟩ := lent_mu (i := 0) c1 hk
    have hhd : ∀ b, g b = .hd r → SameBlk w w' b ∧ G b = g b := fun b hb => hhdf b r hb g3
    obtain ⟨⟨e, A, kk, cc, s1, s2⟩, hrep⟩ := f3
    have hrd : ∀ m, rd w' ((hold r).add m) = rd w ((hold r).add m) := by
      intro m
      cases hb : R.box with
      | true => obtain ⟨b, x, q1, q2, _⟩ := ok.box hb; rw [q1]; exact (hhd b q2).1.1 _
      | false => obtain ⟨xs, q1⟩ := ok.reg hb; rw [q1]; rfl
    refine ⟨R, muNew E p o t' R, e3, rt_mu r _ f4, rfl, rfl, ⟨?_, fun hb => ?_, fun hb => ?_⟩, hrd⟩
    · rw [hhold]
      have hav := hv k _ v' e2 f2
      cases hav with
      | @sref _ e' _ _ A' n' c' R0 κ a1 a2 a3 a4 =>
        rw [hl r R e3] at a1; cases a1
        have hm' : o.live = true ∧ o.own = true := by
          have := List.all_eq_true.1 c6 _ (List.mem_of_getElem? e1)
          simpa [fineM, Bool.and_eq_true] using this
        have hnew := back_rep (d := d) hE hst hrep hm'.1 ((hdM ty (.mu o) (List.mem_of_getElem? e1)).imp (fun x => by simpa [deepM] using x) id) (bM k r p o hk)
        have hκ : ∀ m, m < E.sz ty → rd w' (κ.add m) = rd w (κ.add m) := by
          intro m hm
          rcases a3.where hE with ⟨_, dd, hdd, _⟩ | ⟨b, x, q1, i, q2, hm1, hg1, hq1⟩
          · rw [hdd, Place.add_add]; exact hrd _
          · rw [hm1]
            refine (hatf b r q1 (by simpa using hg1) (g2 q1 ?_)).1.1 _
            rintro ⟨z, hz⟩
            have := congrArg List.length hq1
            rw [← hz] at this; simp at this
        have hnewκ : Rep E w' G ty t' o r p κ := hnew.place hE fun m hm => by
          have hm0 : m = 0 := by rw [hE.one _ (by simp [a2])] at hm; omega
          rw [hκ m hm]; subst hm0
          rw [Place.add_zero, Place.add_zero, a4]; rfl
        have hput : OPut E R.ty R.o p o (bif noIdx p then O.set E R.ty R.o p o else R.o) := by
          cases hn : noIdx p with
          | true => exact OPut_set a3 hn
          | false =>
            rcases e7 with e7 | e7
            · rw [hn] at e7; cases e7
            · have := eq_of_oeq _ _ e7
              rw [cond_false, ← this]; exact OPut.self a3 R.o e8
        refine Rep.swap hE a3 ok.rep e8 hput (by simpa using hnewκ) (fun b hb => ?_) fun m _ => hrd m
        rcases hb with hb | ⟨q', hb, hnp⟩
        · obtain ⟨k1, k2⟩ := hfrz b hb; exact ⟨k1, by rw [k2, hb]⟩
        · exact hatf b r q' (by simpa using hb) (g2 q' hnp)
    · obtain ⟨b, x, q1, q2, q3⟩ := ok.box hb
      obtain ⟨k1, k2⟩ := hhd b q2
      exact ⟨b, x, by rw [hhold, q1], by rw [k2, q2], k1.2 _ q3⟩
    · obtain ⟨xs, q1⟩ := ok.reg hb
      exact ⟨xs, by rw [hhold, q1]⟩
  have hbxR : ∀ (k r : Nat) (o : O), args[k]? = some (Arg.bx r o) → ∃ R R', look r = some R ∧ rt' r = some R' ∧ R'.ty = R.ty ∧ R'.box = R.box ∧ R.box = true ∧ RtOk E w' G hold' r R' := by
    intro k r o hk
    obtain ⟨ty, e, R, e1, e2, e3, e4, e5, e6, e7⟩ := hbx k r o hk
    obtain ⟨ty', t', v', f1, f2, f3, f4⟩ := b2 k r o hk
    rw [e1] at f1; cases f1
    rw [e4, Option.map_some] at f4
    have hmr : r ∈ muRoots args := mem_muRoots.2 ⟨k, .inr ⟨o, hk⟩⟩
    have ok := h.rts r R (hl r R e4)
    have hhold : hold' r = hold r := holdC_other (mu_root r hmr)
    have hm' : o.live = true := by
      have := List.all_eq_true.1 c6 _ (List.mem_of_getElem? e1)
      simpa [fineM] using this
    have hbt : boxed E ty = e := by simp [boxed, e2]
    have hav := hv k _ v' e3 f2
    obtain ⟨m1, m2⟩ := bB k r o hk
    have hnew := back_box (d := d) (R' := r) hE hst f3 hm' ((hdM ty (.bx o) (List.mem_of_getElem? e1)).imp (fun x => by simpa [deepM] using x) id) m1 m2
    have hkey : ∀ {κ}, Sub E w g r R.ty [] (hold r) [] e κ → R.ty = e ∧ hold r = κ := by intro κ h; cases h; exact ⟨rfl, rfl⟩
    cases hav with
    | @pref _ _ _ B x1 R0 a1 a2 =>
      rw [hl r R e4] at a1; cases a1
      obtain ⟨q1, q2⟩ := hkey a2
      obtain ⟨bb, xx, n1, n2, n3, n4⟩ := hnew
      cases n1
      refine ⟨R, bxNew o t' R, e4, rt_mu r _ f4, rfl, rfl, e6, ?_, fun _ => ⟨B, x1, by rw [hhold, q2], n2, by simp only [bxNew, q1, ← hbt]; exact n3⟩, fun hb => by simp [bxNew, e6] at hb⟩
      rw [hhold, q2]
      simp only [bxNew, q1, ← hbt]; exact n4
  have hks_mu : ∀ r R, r ∈ muRoots args → look r = some R → assoc (backKs look args ++ resKs d 0 rs) r = some (if R.box then (if isBx args r then 2 else 3) else 1) := by
    intro r R hr hR
    rw [assoc_append]
    simp only [backKs]
    rw [assoc_map_fn, if_pos hr]
    simp only [hR]
    cases R.box <;> cases isBx args r <;> rfl
  have hks_ret : ∀ k, k < rs.length → assoc (backKs look args ++ resKs d 0 rs) (retRoot d k) = some 0 := by
    intro k hk
    rcases hrs : rs[k] with ⟨ty, kd⟩
    have hnm : retRoot d k ∉ muRoots args := fun hm => hap2 _ hm (r6 k hk)
    obtain ⟨_, _, _, _, _, _, q, _⟩ := r3 k ty kd (by rw [List.getElem?_eq_getElem hk, hrs])
    rw [assoc_append]
    simp only [backKs]
    rw [assoc_map_fn, if_neg hnm]; exact q
  -- results
  have hresR : ∀ k ty kd, rs[k]? = some (ty, kd) → ∃ t v', rvs[k]? = some v' ∧ (resAvs E d 0 rs (rts ++ mts))[k]? = some (resAv E d k ty t kd) ∧
      (∀ R', rt' (retRoot d k) = some R' → RtOk E w' G hold' (retRoot d k) R') ∧ AvOk E w' G rt' hold' (resAv E d k ty t kd) v' := by
    intro k ty kd hk
    obtain ⟨t, v', x1, x2, x3, x4, x5, x6⟩ := r3 k ty kd hk
    have hfine := List.all_eq_true.1 c5 _ (List.mem_of_getElem? hk)
    have hrt := rt_ret k ty kd t hk x4
    have hho : hold' (retRoot d k) = placeOf kd v' := holdC_ret hd9 hk x2
    refine ⟨t, v', x2, x6, ?_⟩
    cases kd with
    | vl o =>
      simp only [fineR, Bool.and_eq_true] at hfine
      obtain ⟨y1, y2⟩ := x3
      have hrep := back_rep (d := d) (R' := retRoot d k) (p' := []) hE hst y1 hfine.1 ((hdR ty (.vl o) (List.mem_of_getElem? hk)).imp (fun x => by simpa [deepR] using x) id) (fun q => by rw [bR]; simp)
      have hrt2 : rt' (retRoot d k) = bif E.flat ty || o.isFz then none else some ⟨ty, t, o, false⟩ := by rw [hrt]; rfl
      have hok : ∀ R', rt' (retRoot d k) = some R' → RtOk E w' G hold' (retRoot d k) R' := by
        intro R' hR'
        rw [hrt2] at hR'
        cases hz : (E.flat ty || o.isFz) with
        | true => rw [hz] at hR'; cases hR'
        | false =>
          rw [hz] at hR'; cases hR'
          exact ⟨by rw [hho]; exact hrep, fun hb => (by cases hb), fun _ => ⟨_, hho⟩⟩
      refine ⟨hok, ?_⟩
      simp only [resAv]
      cases hz : (E.flat ty || o.isFz) with
      | true =>
        rw [view]
        simp only [hz, cond_true]
        simp only [Bool.or_eq_true] at hz
        refine .val ?_ y2
        rcases hz with hz | hz
        · exact hrep.flat hE hfine.1 hz fun _ _ => rfl
        · have : o = .fz := by cases o <;> simp_all [O.isFz]
          exact hrep.frozen this (fun _ h => h) _ _
      | false =>
        have hR : rt' (retRoot d k) = some ⟨ty, t, o, false⟩ := by rw [hrt2, hz]; rfl
        exact view_ok hP hR 9 hrep hfine.1 (by rw [hho]; exact .nil) ⟨y2, fun m hm => by simp [Place.add, rd]⟩ hfine.2
    | bx o =>
      simp only [fineR] at hfine
      have hb := back_box (d := d) (R' := retRoot d k) hE hst x3 hfine ((hdR ty (.bx o) (List.mem_of_getElem? hk)).imp (fun x => by simpa [deepR] using x) id) (fun q => bR k q) (bRh k)
      obtain ⟨B, x, n1, n2, n3, n4⟩ := hb
      subst n1
      have hR : rt' (retRoot d k) = some ⟨boxed E ty, t, o, true⟩ := by rw [hrt]; rfl
      refine ⟨fun R' hR' => ?_, ?_⟩
      · rw [hR] at hR'; cases hR'
        exact ⟨by rw [hho]; exact n4, fun _ => ⟨B, x, hho, n2, n3⟩, fun hb => by cases hb⟩
      · exact .pref hR (by rw [hho]; exact .nil)
  refine ⟨G, hold', hstp, hsld, h.apply hE hdst hfrz (Surv.of hE h.rts fun r R hR => ?_) (fun r R' hR' => ?_) (fun b hb => gret_nf h.bnd hbnd' hst hb) fun _ => ?_⟩
  · rcases ret_or r with ⟨k, hk, rfl⟩ | hnr
    · exact .dead (hks_ret k hk)
    · by_cases hm : r ∈ muRoots args
      · obtain ⟨k, ⟨p, o, hk⟩ | ⟨o, hk⟩⟩ := mem_muRoots.1 hm
        · obtain ⟨R0, R', q1, q2, q3, q4, q5, q6⟩ := hmuR k r p o hk
          rw [hl r R0 q1] at hR; cases hR
          have hks := hks_mu r R hm q1
          have hbx0 : isBx args r = false := by
            cases hbb : isBx args r with
            | false => rfl
            | true => exact absurd (isBx_lentH hbb 0) (by rw [(lent_mu (i := 0) c1 hk).2.2]; simp)
          cases hb : R.box with
          | true => exact .lent hb q2 q3 (holdC_other hnr) q6 (by rw [hks, hb, hbx0]; rfl)
          | false => exact .val hb q2 q3 (holdC_other hnr) (by rw [hks, hb]; rfl)
        · obtain ⟨R0, R', q1, q2, q3, q4, q5, q6⟩ := hbxR k r o hk
          rw [hl r R0 q1] at hR; cases hR
          have hks := hks_mu r R hm q1
          have hbx1 : isBx args r = true := lentH_isBx (i := 0) (by rw [(lent_bx (i := 0) c1 hk).2]; simp)
          exact .box q5 q2 q3 (holdC_other hnr) (by rw [hks, q5, hbx1]; rfl)
      · exact .keep (by show rt' r = some R; rw [rt_old r hm hnr]; exact hR) (hkeep r hm hnr)
  · have hR' : rt' r = some R' := hR'
    rcases ret_or r with ⟨k, hk, rfl⟩ | hnr
    · rcases hrs : rs[k] with ⟨ty, kd⟩
      obtain ⟨t, v', _, _, q, _⟩ := hresR k ty kd (by rw [List.getElem?_eq_getElem hk, hrs])
      exact q R' hR'
    · by_cases hm : r ∈ muRoots args
      · obtain ⟨k, ⟨p, o, hk⟩ | ⟨o, hk⟩⟩ := mem_muRoots.1 hm
        · obtain ⟨R0, R1, q1, q2, q3, q4, q5, _⟩ := hmuR k r p o hk
          rw [hR'] at q2; cases q2; exact q5
        · obtain ⟨R0, R1, q1, q2, q3, q4, q5, q6⟩ := hbxR k r o hk
          rw [hR'] at q2; cases q2; exact q6
      · rw [rt_old r hm hnr] at hR'
        exact (h.rts r R' hR').keep hE (hkeep r hm hnr) hfrz
  · show AvOk E w' G rt' hold' _ v
    have tupc : rs.length ≠ 1 → AvOk E w' G rt' hold' (.tup (resAvs E d 0 rs (rts ++ mts))) v := by
      intro hne
      have hvv : v = .tuple rvs.toArray := by
        unfold VRes at hvr
        split at hvr
        · rename_i x; exfalso; apply hne; rw [← r2]; rfl
        · exact hvr
      rw [hvv]
      refine .tup (by rw [r5, r2]) fun j av v' hj hj' => ?_
      have hjl := (List.getElem?_eq_some_iff.1 hj').1
      have hjr : j < rs.length := by omega
      rcases hrs : rs[j] with ⟨ty, kd⟩
      obtain ⟨t, v2, q1, q2, _, q3⟩ := hresR j ty kd (by rw [List.getElem?_eq_getElem hjr, hrs])
      rw [hj] at q2; cases q2
      rw [hj'] at q1; cases q1
      exact q3
    split
    · rename_i ty kd
      obtain ⟨t, v2, q1, q2, _, q3⟩ := hresR 0 ty kd rfl
      have hv2 : v = v2 := by
        cases rvs with
        | nil => simp at r2
        | cons x l => cases l with
          | nil => simp at q1; rw [← q1]; exact hvr
          | cons => simp at r2
      have hh : (rts ++ mts).headD (.int 0) = t ∨ resAv E d 0 ty ((rts ++ mts).headD (.int 0)) kd = resAv E d 0 ty t kd := by
        right
        simp only [resAvs, List.getElem?_cons_zero, Option.some.injEq] at q2
        exact q2
      rw [hv2]
      rcases hh with hh | hh <;> rw [hh] <;> exact q3
    · rename_i hne
      refine tupc fun hlen => ?_
      match hrs : rs, hlen with
      | [(ty, k)], _ => exact hne ty k rfl
end
end Go.Proofs.YtfelodpbejdhlaaDoor.Ra
/- Straight code, walked by hand: a slice without its spare places. -/
namespace Go.Proofs.YtfelodpbejdhlaaDoor.Ra
open Go Go.RowKit

section
variable {P : Program} {a : Act} {w w' : World} {ops : Array Oper} {Q : Exit → Act → World → Prop} {K : Act → World → Prop}

theorem wpOp_val {i : Nat} {o : Oper} {v : Value} (hi : ops[i]? = some o) (hg : o.guard = none) (hr : (execOp a.eval o).run P w = .ok (.value v) w') (h : K (a.put o.dst v) w') :
    wpOp P ops Q i K a w := by
  unfold wpOp
  rw [hi]
  have hw : Region.wanted o (yielded ops a.tmps) = true := by simp [Region.wanted, hg]
  simp only [hw, if_true]
  left
  unfold Oper.wp
  rw [hr]; exact h
theorem wpOp_enter {i : Nat} {o : Oper} {f : Nat} {vs : Array Value} (hi : ops[i]? = some o) (hg : o.guard = none) (hr : (execOp a.eval o).run P w = .ok (.enter f vs) w)
    (h : Calls P f vs w fun e w' => ∃ v, e = .returned v ∧ K (a.put o.dst v) w') : wpOp P ops Q i K a w := by
  unfold wpOp
  rw [hi]
  have hw : Region.wanted o (yielded ops a.tmps) = true := by simp [Region.wanted, hg]
  simp only [hw, if_true]
  left
  unfold Oper.wp
  rw [hr, Oper.upon_enter]
  refine h.mono fun e w' => ?_
  rintro ⟨v, rfl, h⟩
  exact h

theorem ev_self {d : Nat} {v : Value} {n : Nat} (hs : a.tmps.size = n) (hd : d < n) : (a.put (some d) v).eval (.tmp d) = v := by
  simp [Act.put, Act.eval, Array.getD_eq_getD_getElem?, hs, hd]
theorem ev_ne {d t : Nat} {v : Value} (h : t ≠ d) : (a.put (some d) v).eval (.tmp t) = a.eval (.tmp t) := by
  simp only [Act.put, Act.eval, Array.getD_eq_getD_getElem?]
  rw [Array.getElem?_setIfInBounds_ne (Ne.symm h)]
theorem sz_put {d : Nat} {v : Value} {n : Nat} (hs : a.tmps.size = n) : (a.put (some d) v).tmps.size = n := by simp [Act.put, hs]

structure OpIs (o : Oper) (d : Nat) (x : Op) : Prop where
  dst : o.dst = some d
  guard : o.guard = none
  op : o.op = x

/-- The code of a function that gives a slice back without its spare places. -/
def ClipBody (fn : Func) (ty : Nat) (c : Code) : Prop :=
  fn.results = #[.tmp 2] ∧ fn.ntmps = 9 ∧ ∃ (i0 i1 : Nat) (a0 b0 b1 b2 b3 b4 b5 b6 : Oper) (z : Value),
    c = .seq (.region i0 #[a0] false) (.seq (.region i1 #[b0, b1, b2, b3, b4, b5, b6] false) .ret) ∧
    OpIs a0 2 (.assign (.const z)) ∧ OpIs b0 3 (.move (.tmp 0)) ∧ OpIs b1 4 (.move (.tmp 0)) ∧ OpIs b2 5 (.call { callee := .builtin .len, args := #[.tmp 4], argTypes := #[ty] }) ∧
    OpIs b3 6 (.move (.tmp 0)) ∧ OpIs b4 7 (.call { callee := .builtin .len, args := #[.tmp 6], argTypes := #[ty] }) ∧
    OpIs b5 8 (.slice ty (.tmp 3) none (some (.tmp 5)) (some (.tmp 7))) ∧ OpIs b6 2 (.assign (.tmp 8))

/-- The code of a function that hands two slices of a struct to two others, with a number that goes through. -/
def InlBody (E : Env) (fn : Func) (ty j1 s1 f1 j2 s2 f2 : Nat) (c : Code) : Prop :=
  fn.results = #[.tmp 4] ∧ fn.ntmps = 14 ∧ (∃ fs e1 e2, E.ty ty = .st fs ∧ fs[j1]? = some s1 ∧ fs[j2]? = some s2 ∧ E.ty s1 = .sl e1 ∧ E.ty s2 = .sl e2) ∧
  ∃ (i0 i1 i2 i3 : Nat) (a0 a1 b0 b1 b2 b3 b4 c0 c1 c2 c3 c4 d0 d1 : Oper) (z : Value) (t1 t2 : Array TypeId),
    c = .seq (.region i0 #[a0, a1] false) (.seq (.region i1 #[b0, b1, b2, b3, b4] false) (.seq (.region i2 #[c0, c1, c2, c3, c4] false) (.seq (.region i3 #[d0, d1] false) .ret))) ∧
    OpIs a0 2 (.box ty (.tmp 0)) ∧ OpIs a1 4 (.assign (.const z)) ∧
    OpIs b0 5 (.fieldAddr ty (.tmp 2) j1) ∧ OpIs b1 6 (.load s1 (.tmp 5)) ∧ OpIs b2 7 (.move (.tmp 1)) ∧
    OpIs b3 8 (.call { callee := .value (.func f1), args := #[.tmp 6, .tmp 7], argTypes := t1 }) ∧ OpIs b4 1 (.assign (.tmp 8)) ∧
    OpIs c0 9 (.fieldAddr ty (.tmp 2) j2) ∧ OpIs c1 10 (.load s2 (.tmp 9)) ∧ OpIs c2 11 (.move (.tmp 1)) ∧
    OpIs c3 12 (.call { callee := .value (.func f2), args := #[.tmp 10, .tmp 11], argTypes := t2 }) ∧ OpIs c4 1 (.assign (.tmp 12)) ∧
    OpIs d0 13 (.move (.tmp 1)) ∧ OpIs d1 4 (.assign (.tmp 13))

theorem clip_calls {E : Env} (hP : PrOk P E) {f ty e : Nat} {fn : Func} {c : Code} (hf : P.funcs[f]? = some fn) (hb : fn.body = some c) (hc : ClipBody fn ty c) (hty : E.ty ty = .sl e)
    {A : Option Addr} {n cap : Nat} (hcap : n ≤ cap) : Calls P f #[.slice A n cap] w fun en w' => en = .returned (.slice A n n) ∧ w' = w := by
  obtain ⟨hres, hnt, i0, i1, a0, b0, b1, b2, b3, b4, b5, b6, z, rfl, h0, g0, g1, g2, g3, g4, g5, g6⟩ := hc
  refine calls_of_wp hf hb (wp_seq (wp_region ?_))
  rw [hnt]
  have hu := (hP.sl ty e hty).1
  obtain ⟨_, _, _, hsz, _⟩ := info_ok (w := w) hP (hP.sl ty e hty).2
  generalize ha : ({ tmps := #[Value.slice A n cap] ++ Array.replicate (9 - #[Value.slice A n cap].size) undef, defers := [] } : Act) = a
  have s0 : a.tmps.size = 9 := by rw [← ha]; simp
  have e0 : a.eval (.tmp 0) = .slice A n cap := by rw [← ha]; rfl
  have d0 : a.defers = [] := by rw [← ha]
  clear ha
  simp only [show List.range (#[a0] : Array Oper).size = [0] from rfl, wpOps_cons]
  refine wpOp_val (o := a0) (w' := w) (v := z) rfl h0.guard (by simp [execOp, h0.op, Act.eval]) ?_
  rw [h0.dst]
  have s1 := sz_put (d := 2) (v := z) s0
  have e1 : (a.put (some 2) z).eval (.tmp 0) = _ := (ev_ne (by decide)).trans e0
  have d1 : (a.put (some 2) z).defers = [] := d0
  generalize a.put (some 2) z = a1 at *
  show Exit.then _ _ _ _ _
  simp only [Exit.then]
  refine wp_seq (wp_region ?_)
  simp only [show List.range (#[b0, b1, b2, b3, b4, b5, b6] : Array Oper).size = [0, 1, 2, 3, 4, 5, 6] from rfl, wpOps_cons]
  refine wpOp_val (o := b0) (w' := w) (v := .slice A n cap) rfl g0.guard (by simp [execOp, g0.op, e1]) ?_
  rw [g0.dst]
  have s2 := sz_put (d := 3) (v := .slice A n cap) s1
  have e2 : (a1.put (some 3) (.slice A n cap)).eval (.tmp 0) = _ := (ev_ne (by decide)).trans e1
  have f2 : (a1.put (some 3) (.slice A n cap)).eval (.tmp 3) = _ := ev_self s1 (by decide)
  have d2 : (a1.put (some 3) (.slice A n cap)).defers = [] := d1
  generalize a1.put (some 3) (.slice A n cap) = a2 at *
  rw [wpOps_cons]
  refine wpOp_val (o := b1) (w' := w) (v := .slice A n cap) rfl g1.guard (by simp [execOp, g1.op, e2]) ?_
  rw [g1.dst]
  have s3 := sz_put (d := 4) (v := .slice A n cap) s2
  have e3 : (a2.put (some 4) (.slice A n cap)).eval (.tmp 0) = _ := (ev_ne (by decide)).trans e2
  have f3 : (a2.put (some 4) (.slice A n cap)).eval (.tmp 3) = _ := (ev_ne (by decide)).trans f2
  have k3 : (a2.put (some 4) (.slice A n cap)).eval (.tmp 4) = _ := ev_self s2 (by decide)
  have d3 : (a2.put (some 4) (.slice A n cap)).defers = [] := d2
  generalize a2.put (some 4) (.slice A n cap) = a3 at *
  rw [wpOps_cons]
  refine wpOp_val (o := b2) (w' := w) (v := .int .i64 n) rfl g2.guard (by simp [execOp, g2.op, k3, resolve, invoke, builtin, Builtin.len_, underlying, hu, goInt]) ?_
  rw [g2.dst]
  have s4 := sz_put (d := 5) (v := .int .i64 n) s3
  have e4 : (a3.put (some 5) (.int .i64 n)).eval (.tmp 0) = _ := (ev_ne (by decide)).trans e3
  have f4 : (a3.put (some 5) (.int .i64 n)).eval (.tmp 3) = _ := (ev_ne (by decide)).trans f3
  have k4 : (a3.put (some 5) (.int .i64 n)).eval (.tmp 5) = _ := ev_self s3 (by decide)
  have d4 : (a3.put (some 5) (.int .i64 n)).defers = [] := d3
  generalize a3.put (some 5) (.int .i64 n) = a4 at *
  rw [wpOps_cons]
  refine wpOp_val (o := b3) (w' := w) (v := .slice A n cap) rfl g3.guard (by simp [execOp, g3.op, e4]) ?_
  rw [g3.dst]
  have s5 := sz_put (d := 6) (v := .slice A n cap) s4
  have f5 : (a4.put (some 6) (.slice A n cap)).eval (.tmp 3) = _ := (ev_ne (by decide)).trans f4
  have k5 : (a4.put (some 6) (.slice A n cap)).eval (.tmp 5) = _ := (ev_ne (by decide)).trans k4
  have m5 : (a4.put (some 6) (.slice A n cap)).eval (.tmp 6) = _ := ev_self s4 (by decide)
  have d5 : (a4.put (some 6) (.slice A n cap)).defers = [] := d4
  generalize a4.put (some 6) (.slice A n cap) = a5 at *
  rw [wpOps_cons]
  refine wpOp_val (o := b4) (w' := w) (v := .int .i64 n) rfl g4.guard (by simp [execOp, g4.op, m5, resolve, invoke, builtin, Builtin.len_, underlying, hu, goInt]) ?_
  rw [g4.dst]
  have s6 := sz_put (d := 7) (v := .int .i64 n) s5
  have f6 : (a5.put (some 7) (.int .i64 n)).eval (.tmp 3) = _ := (ev_ne (by decide)).trans f5
  have k6 : (a5.put (some 7) (.int .i64 n)).eval (.tmp 5) = _ := (ev_ne (by decide)).trans k5
  have m6 : (a5.put (some 7) (.int .i64 n)).eval (.tmp 7) = _ := ev_self s5 (by decide)
  have d6 : (a5.put (some 7) (.int .i64 n)).defers = [] := d5
  generalize a5.put (some 7) (.int .i64 n) = a6 at *
  rw [wpOps_cons]
  refine wpOp_val (o := b5) (w' := w) (v := .slice A n n) rfl g5.guard ?_ ?_
  · have hbd := run_bounds (P := P) (w := w) (s := true) (len := n) (cap := cap) (lo := none) (hi := some (.int .i64 n)) (mx := some (.int .i64 n)) (l := 0) (h := n) (m := n) rfl ⟨_, rfl⟩ ⟨_, rfl⟩ (by omega) (by omega) (by omega) (by omega) (.inr (by simp))
    have hA : (A.map fun x => x.add 0) = A := by cases A <;> simp [Addr.add]
    simp [execOp, g5.op, f6, k6, m6, Instr.sliceAt, Instr.slice, underlying, hu, hbd, hsz, hA]
  rw [g5.dst]
  have k7 : (a6.put (some 8) (.slice A n n)).eval (.tmp 8) = _ := ev_self s6 (by decide)
  have s7 := sz_put (d := 8) (v := .slice A n n) s6
  have d7 : (a6.put (some 8) (.slice A n n)).defers = [] := d6
  generalize a6.put (some 8) (.slice A n n) = a7 at *
  rw [wpOps_cons]
  refine wpOp_val (o := b6) (w' := w) (v := .slice A n n) rfl g6.guard (by simp [execOp, g6.op, k7]) ?_
  rw [g6.dst]
  have k8 : (a7.put (some 2) (.slice A n n)).eval (.tmp 2) = _ := ev_self s7 (by decide)
  have d8 : (a7.put (some 2) (.slice A n n)).defers = [] := d7
  generalize a7.put (some 2) (.slice A n n) = a8 at *
  show Exit.then _ _ _ _ _
  simp only [Exit.then]
  refine wp_ret ?_
  refine ⟨d8, .slice A n n, ?_, rfl, rfl⟩
  have k9 : a8.tmps[2]?.getD undef = .slice A n n := by rw [← Array.getD_eq_getD_getElem?]; exact k8
  simp [results, hres, k9]
end
end Go.Proofs.YtfelodpbejdhlaaDoor.Ra
/- Calls, as operations. -/
namespace Go.Proofs.YtfelodpbejdhlaaDoor.Ra
open Go Go.RowKit

/-- The program's functions against the evaluator's. -/
def FnsOk (P : Program) (E : Env) : Prop := ∀ f fi, E.fn f = some fi → ∃ fn, P.funcs[f]? = some fn ∧ fn.body = some fi.body ∧ fn.name ≠ "runtime.NumGoroutine" ∧ fn.ntmps = fi.ntmps ∧ fn.results.toList = fi.results ∧
  (fi.clip = true → ∃ ty m, fi.params = [(ty, m)] ∧ ClipBody fn ty fi.body) ∧
  (∀ f1 j1 f2 j2, fi.inl = [(f1, j1), (f2, j2)] → ∃ ty s1 s2 ps, fi.params = (ty, .ro) :: ps ∧ InlBody E fn ty j1 s1 f1 j2 s2 f2 fi.body)

section
variable {P : Program} {E : Env} {n : Nat} {st : St} {a : Act} {w : World} {g : Gh} {hold : Nat → Place} {look : Nat → Option Rt} {o : Oper} {b : Bool}

theorem call_ok (hP : PrOk P E) (hF : FnsOk P E) (h : Inv E n st a w g hold) (hl : ∀ r R, look r = some R → st.rt r = some R) (hd : ∀ x, o.dst = some x → x < n) {f d : Nat} {fi0 fi : Fi} (hf : E.fn f = some fi0)
    {C : CallsE} (hC : FnOk P E f fi (C f)) {xs : Array Operand} {tys : Array TypeId} (hop : o.op = .call { callee := .value (.func f), args := xs, argTypes := tys }) {as : List AV} {e : Eff} (hlen : as.length = xs.size)
    (hv : b = true → ∀ (k : Nat) (av : AV) (x : Operand), as[k]? = some av → xs[k]? = some x → AvOk E w g st.rt hold av (a.eval x))
    (he : callE E look d b f fi.rets fi.params as = some e) : ActsC P E n st a w g hold C o e := by
  unfold callE at he
  split at he
  · cases he
  rename_i ts args hargs
  have hA := argsE_at hargs
  generalize hz : (distinct (muRoots args) && apartL (muRoots args) ((resKs d 0 fi.rets).map (·.1)) && apartL (muRoots args) (roRefs args as) && ((fi.rets.all (deepR E) && fi.params.all (deepM E)) || (roRefs args as).isEmpty) && (fi.rets.all (fineR E) && (fi.params.all fineM && (decide (d < 1000) && (decide (fi.rets.length < 90) && decide (fi.params.length < 1000)))))) = z at he
  cases z with
  | false => simp at he
  | true =>
    simp only [cond_true, Option.some.injEq] at he
    subst he
    rw [Bool.and_eq_true, Bool.and_eq_true, Bool.and_eq_true, Bool.and_eq_true, Bool.and_eq_true, Bool.and_eq_true, Bool.and_eq_true, Bool.and_eq_true, decide_eq_true_eq, decide_eq_true_eq, decide_eq_true_eq] at hz
    obtain ⟨⟨⟨⟨c1, c2⟩, c3⟩, c4⟩, c5, c6, c7, c8, c9⟩ := hz
    refine ⟨rfl, f, ts, rfl, fun hb res hres => ?_⟩
    have hv := hv hb
    obtain ⟨fn, hfn, hbody, hname, _, _⟩ := hF f fi0 hf
    let vs : List Value := xs.toList.map a.eval
    have hvs : ∀ (k : Nat) (av : AV) (v : Value), as[k]? = some av → vs[k]? = some v → AvOk E w g st.rt hold av v := by
      intro k av v h1 h2
      simp only [vs, List.getElem?_map, Option.map_eq_some_iff] at h2
      obtain ⟨x, hx, rfl⟩ := h2
      exact hv k av x h1 (by simpa using hx)
    have hvl : vs.length = as.length := by simp [vs, hlen]
    refine ⟨vs, ?_, ?_⟩
    · simp [execOp, hop, resolve, Act.eval, Deferred.ofValue, invoke, callFunc, hfn, hname, hbody, vs]
      apply Array.ext'; simp
    · have hargsOk := args_ok hP.wf hl h.rts hA c1 (apartL_ok c3) hvl hvs (fun x hx => List.all_eq_true.1 c6 x hx)
      refine (hC ts res hres vs w (gcall args (roRefs args as) g) (fun b hb => h.bnd b (gcall_nf hb)) (h.kn.step fun b hb => ⟨SameBlk.refl _ _, gcall_frz hb⟩) hargsOk).mono fun en w' => ?_
      rintro ⟨v, g', rvs, rts, mts, rfl, rfl, hvr, hst, hbnd', hress, hmus⟩
      obtain ⟨g'', hold', k1, k2, k3⟩ := after_ok hP h hl hd hA c7 c8 c9 c1 c2 c3 c4 c5 c6 hvl hvs hst hbnd' hress hmus hvr
      exact ⟨v, g'', hold', rfl, k1, k2, k3⟩

/-- What is not turned stays: a call that leaves the world alone. -/
theorem clip_ok (hP : PrOk P E) (hF : FnsOk P E) (h : Inv E n st a w g hold) (hl : ∀ r R, look r = some R → st.rt r = some R) (hd : ∀ x, o.dst = some x → x < n) {f : Nat} {fi : Fi} (hf : E.fn f = some fi)
    {C : CallsE} (hcl : fi.clip = true) {xs : Array Operand} {tys : Array TypeId} (hop : o.op = .call { callee := .value (.func f), args := xs, argTypes := tys }) {as : List AV} {e : Eff} (hlen : as.length = xs.size)
    (hv : b = true → ∀ (k : Nat) (av : AV) (x : Operand), as[k]? = some av → xs[k]? = some x → AvOk E w g st.rt hold av (a.eval x))
    (he : clipE E look b f fi.params as = some e) : ActsC P E n st a w g hold C o e := by
  obtain ⟨fn, hfn, hbody, hname, _, _, hcb, _⟩ := hF f fi hf
  obtain ⟨ty, m, hps, hcb⟩ := hcb hcl
  rw [hps] at he
  unfold clipE at he
  split at he
  rotate_left
  · cases he
  rename_i ty' m' av heq
  cases heq
  split at he
  rotate_left
  · cases he
  rename_i et t hsl hsn
  split at he
  rotate_left
  · cases he
  rename_i av' hav'
  simp only [Option.some.injEq] at he
  subst he
  have hty : E.ty ty = .sl et := by unfold isSl at hsl; split at hsl <;> simp_all
  refine ⟨rfl, _, _, rfl, fun hb res hres => ?_⟩
  have hx1 : xs.size = 1 := by rw [← hlen]; rfl
  obtain ⟨x, hx⟩ : ∃ x, xs = #[x] := Array.size_eq_one_iff.1 hx1
  subst hx
  have hav := hv hb 0 av x rfl rfl
  have fin : ∀ {A : Option Addr} {k cap : Nat}, a.eval x = .slice A k cap → k ≤ cap → AvOk E w g st.rt hold av' (.slice A k k) →
      ∃ vs : List Value, (execOp a.eval o).run P w = .ok (.enter f vs.toArray) w ∧ Calls P f vs.toArray w fun en w' => ∃ v g' hold', en = .returned v ∧ Stp w g w' g' ∧ Sld hold hold' ∧
        Inv E n (applyU o.dst ⟨av', [], []⟩ st) (a.put o.dst v) w' g' hold' := by
    intro A k cap hev hcap hnew
    refine ⟨[a.eval x], ?_, ?_⟩
    · simp [execOp, hop, resolve, Act.eval, Deferred.ofValue, invoke, callFunc, hfn, hname, hbody]
    · rw [hev]
      refine (clip_calls hP hfn hbody hcb hty hcap).mono fun en w' => ?_
      rintro ⟨rfl, rfl⟩
      exact ⟨_, g, hold, rfl, Stp.refl _ _, fun _ _ => rfl, h.apply hP.wf hd (fun b hb => ⟨SameBlk.refl _ _, hb⟩) (Surv.of hP.wf h.rts fun r R hR => .self hR) h.rts h.bnd fun _ => hnew⟩
  have bymap : (∀ ty' r p lo hi, av ≠ .sub ty' r p lo hi) → ∃ A cap, a.eval x = .slice A t.es.length cap ∧ t.es.length ≤ cap := by
    intro hns
    refine len_slice hP h hl hty (x := av) ?_ hav
    cases av with
    | sub ty' r p lo hi => exact absurd rfl (hns ty' r p lo hi)
    | _ => simp only [lenE, hty]; rw [hsn]; rfl
  cases av with
  | val ty1 t1 =>
    simp only [clipAv, Option.some.injEq] at hav'; subst hav'
    simp only [sn] at hsn
    cases hbq : Nat.beq ty1 ty with
    | false => simp [hbq] at hsn
    | true =>
      simp only [hbq, cond_true, Option.some.injEq] at hsn; subst hsn
      have := Nat.eq_of_beq_eq_true hbq; subst this
      obtain ⟨A, cap, hev, hcap⟩ := bymap (fun _ _ _ _ _ h => by cases h)
      refine fin hev hcap ?_
      rw [hev] at hav
      cases hav with
      | val a1 a2 =>
        refine .val ?_ (shaped_one hP.wf (by simp [hty]) rfl)
        cases a1 with
        | fz b1 b2 b3 b4 b5 b6 =>
          simp [rd, Value.cells] at b2
          obtain ⟨rfl, _, _⟩ := b2
          exact .fz b1 (by simp [rd, Value.cells, T.es]) b3 (Nat.le_refl _) b5 b6
        | fz0 b1 b2 => exact .fz0 b1 (by simp [rd, Value.cells, T.es]; exact ⟨rfl, rfl⟩)
        | own0 b1 b2 => simp [O.own] at b2
        | own b1 b2 => simp [O.own] at b2
        | _ => simp_all
  | nil ty1 =>
    simp only [clipAv, Option.some.injEq] at hav'; subst hav'
    generalize hev : a.eval x = vx at hav
    cases hav with
    | nil he => exact fin hev (Nat.le_refl _) (.nil he)
  | sref ty1 r p =>
    simp only [clipAv] at hav'
    split at hav'
    · rename_i R hR
      cases ho : (R.o.get p).own with
      | false => simp [ho] at hav'
      | true =>
        simp only [ho, cond_true, Option.some.injEq] at hav'; subst hav'
        obtain ⟨A, cap, hev, hcap⟩ := bymap (fun _ _ _ _ _ h => by cases h)
        refine fin hev hcap ?_
        rw [hev] at hav
        have hR' := hl r R hR
        cases hav with
        | sref a1 a2 a3 a4 =>
          refine .sub a1 a2 a3 a4 (Nat.zero_le _) (Nat.le_refl _) (Nat.le_refl _) (by omega) ?_
          have hrep := sub_rep (h.rts r R hR') (by rw [hR'] at a1; cases a1; exact a3)
          generalize R.t.get p = tt at hrep
          generalize R.o.get p = oo at hrep ho
          cases hrep with
          | own b1 b2 b3 b4 b5 b6 b7 b8 =>
            rename_i es aa cc
            rw [a4] at b3; simp only [Option.some.injEq, Value.slice.injEq] at b3
            obtain ⟨rfl, _, _⟩ := b3
            obtain ⟨bb, oo', ss⟩ := aa
            cases b4
            exact .inr ⟨bb, oo', oo', rfl, rfl, by omega, .inr (by omega)⟩
          | own0 b1 b2 b3 => rw [a4] at b3; simp only [Option.some.injEq, Value.slice.injEq] at b3; exact .inl ⟨b3.1, b3.1⟩
          | fz => simp [O.own] at ho
          | fz0 => simp [O.own] at ho
          | dead => simp [O.own] at ho
          | _ => simp_all
    · cases hav'
  | sub ty1 r p lo hi =>
    simp only [clipAv, Option.some.injEq] at hav'; subst hav'
    generalize hev : a.eval x = vx at hav
    cases hav with
    | sub a1 a2 a3 a4 a5 a6 a7 a8 a9 =>
      refine fin hev a7 (.sub a1 a2 a3 a4 a5 a6 (Nat.le_refl _) (by omega) ?_)
      rcases a9 with c | ⟨bb, xx, yy, c1, c2, c3, c4⟩
      · exact .inl c
      · refine .inr ⟨bb, xx, yy, c1, c2, c3, ?_⟩
        rcases c4 with c4 | c4
        · exact .inl (by omega)
        · exact .inr c4
  | _ => simp [clipAv] at hav'

theorem argsE_ro : ∀ {ps : List Nat} {as : List AV} {ts : List T} {args : List Arg}, argsE E look (ps.map fun p => (p, Mode.ro)) as = some (ts, args) →
    ts.length = ps.length ∧ as.length = ps.length ∧ args = List.replicate ps.length .ro ∧ ∀ (k p : Nat) (t : T) (av : AV), ps[k]? = some p → ts[k]? = some t → as[k]? = some av → sn E look p av = some t
  | [], as, ts, args, h => by
    cases as with
    | nil =>
      simp only [List.map_nil, argsE, Option.some.injEq, Prod.mk.injEq] at h
      obtain ⟨rfl, rfl⟩ := h
      exact ⟨rfl, rfl, rfl, fun k p t av h => by simp at h⟩
    | cons a as => simp [argsE] at h
  | p :: ps, as, ts, args, h => by
    cases as with
    | nil => simp [argsE] at h
    | cons a as =>
      simp only [List.map_cons, argsE] at h
      split at h
      · cases h
      rename_i ts' args' hrec
      split at h
      · rename_i t ht
        simp only [Option.some.injEq, Prod.mk.injEq] at h
        obtain ⟨rfl, rfl⟩ := h
        obtain ⟨i1, i2, i3, i4⟩ := argsE_ro hrec
        refine ⟨by simp [i1], by simp [i2], by rw [i3]; rfl, fun k p' t' av h1 h2 h3 => ?_⟩
        cases k with
        | zero => simp at h1 h2 h3; subst h1; subst h2; subst h3; exact ht
        | succ k => exact i4 k p' t' av (by simpa using h1) (by simpa using h2) (by simpa using h3)
      · cases h

/-- A function value of a closure. -/
theorem fn_val (hE : TyWf E) {rt : Nat → Option Rt} {ty : Nat} {t : T} {v : Value} {ps rs : List Nat} (ht : E.ty ty = .fn ps rs) (h : AvOk E w g rt hold (.val ty t) v) :
    ∃ (cts : List Nat) (cvs : List Value), v = .func (.func t.fid) #[] cvs.toArray ∧ fnFits E t.fid cts ps rs = true ∧ t.caps.length = cts.length ∧ cvs.length = cts.length ∧
      ∀ (i ct : Nat) (c : T) (cv : Value), cts[i]? = some ct → t.caps[i]? = some c → cvs[i]? = some cv → Rep E w g ct c .fz 0 [] (.reg cv.cells.toList 0) ∧ Shaped E ct cv := by
  cases h with
  | val h1 h2 =>
    have hs := h2.2; rw [ht] at hs; simp only at hs
    rw [hs] at h1
    cases h1 with
    | fn vs cts e1 e2 e3 e4 e5 e6 e7 =>
      rw [ht] at e1; cases e1
      simp [rd] at e5
      exact ⟨cts, vs, e5, e2, e3, e4, fun i ct c cv a1 a2 a3 => ⟨e6 i ct c cv a1 a2 a3, e7 i ct cv a1 a3⟩⟩
    | _ => simp_all

theorem callV_ok (hP : PrOk P E) (hF : FnsOk P E) (h : Inv E n st a w g hold) (hl : ∀ r R, look r = some R → st.rt r = some R) (hd : ∀ x, o.dst = some x → x < n) {d fty : Nat} {x : Operand} {t : T}
    {C : CallsE} (hC : CallsOk P E C) {xs : Array Operand} {tys : Array TypeId} (hop : o.op = .call { callee := .value x, args := xs, argTypes := tys }) {as : List AV} {e : Eff} (hlen : as.length = xs.size)
    (hx : b = true → AvOk E w g st.rt hold (.val fty t) (a.eval x))
    (hv : b = true → ∀ (k : Nat) (av : AV) (x : Operand), as[k]? = some av → xs[k]? = some x → AvOk E w g st.rt hold av (a.eval x))
    (he : callV E look d b fty (.val fty t) as = some e) : ActsC P E n st a w g hold C o e := by
  unfold callV at he
  split at he
  rotate_left
  · cases he
  rename_i ty' t' ps rs heq hty
  cases heq
  cases hfl : (Nat.beq fty fty && rs.all E.flat) with
  | false => rw [hfl] at he; simp at he
  | true =>
    simp only [hfl, cond_true] at he
    simp only [Bool.and_eq_true] at hfl
    split at he
    · cases he
    rename_i ts args hargs
    cases hd9 : decide (d < 1000) with
    | false => simp [hd9] at he
    | true =>
      simp only [hd9, cond_true, Option.some.injEq] at he
      subst he
      obtain ⟨l1, l2, l3, hro⟩ := argsE_ro hargs
      refine ⟨rfl, _, _, rfl, fun hb res hres => ?_⟩
      have hv := hv hb
      obtain ⟨cts, cvs, e1, e2, e3, e4, e5⟩ := fn_val hP.wf hty (hx hb)
      unfold fnFits at e2
      split at e2
      · cases e2
      rename_i fi hfi
      simp only [Bool.and_eq_true, decide_eq_true_eq] at e2
      obtain ⟨⟨q1, q2⟩, q3, q4⟩ := e2
      obtain ⟨fn, hfn, hbody, hname, _, _⟩ := hF _ fi hfi
      let vs1 : List Value := xs.toList.map a.eval
      let vs : List Value := vs1 ++ cvs
      let gc : Gh := fun b => match g b with | .free => .free | _ => .frz
      have gc_free : ∀ b, gc b = .free ∨ gc b = .frz := by intro b; simp only [gc]; split <;> simp
      have gc_frz : ∀ b, g b ≠ .free → gc b = .frz := by intro b hb; cases hg : g b <;> simp_all [gc]
      have gc_nf : ∀ b, gc b ≠ .free → g b ≠ .free := by intro b hb hf; exact hb (by simp only [gc, hf])
      have hvl1 : vs1.length = ps.length := by simp [vs1, ← hlen, l2]
      have hpar : ∀ (k ty : Nat) (m : Mode) (t' : T) (v : Value), fi.params[k]? = some (ty, m) → (ts ++ t.caps)[k]? = some t' → vs[k]? = some v → ArgOk E w gc (0 + k) ty m t' v := by
        intro k ty m t' v h1 h2 h3
        have hm : m = .ro := by
          have := List.all_eq_true.1 q1 _ (List.mem_of_getElem? h1)
          cases m <;> simp_all
        subst hm
        have hty' : (ps ++ cts)[k]? = some ty := by rw [← q2, List.getElem?_map, h1]; rfl
        rcases Nat.lt_or_ge k ps.length with hk | hk
        · rw [List.getElem?_append_left hk] at hty'
          rw [List.getElem?_append_left (by omega)] at h2
          simp only [vs] at h3
          rw [List.getElem?_append_left (by omega)] at h3
          obtain ⟨av, hav⟩ : ∃ av, as[k]? = some av := ⟨as[k]'(by omega), List.getElem?_eq_getElem _⟩
          simp only [vs1, List.getElem?_map, Option.map_eq_some_iff] at h3
          obtain ⟨xo, hxo, rfl⟩ := h3
          exact sn_frz hP.wf hl h.rts (fun b hb => gc_frz b (by rw [hb]; simp)) (hro k ty t' av hty' h2 hav) (hv k av xo hav (by simpa using hxo)) (fun r _ b q hq => gc_frz b (by rw [hq]; simp))
        · rw [List.getElem?_append_right hk] at hty'
          rw [List.getElem?_append_right (by omega), l1] at h2
          simp only [vs] at h3
          rw [List.getElem?_append_right (by omega), hvl1] at h3
          obtain ⟨z1, z2⟩ := e5 _ _ _ _ hty' h2 h3
          exact ⟨z1.frozen rfl (fun b hb => gc_frz b (by rw [hb]; simp)) _ _, z2⟩
      have hplen : fi.params.length = ps.length + cts.length := by have := congrArg List.length q2; simpa using this
      have gen : ∀ (ps' : List (Nat × Mode)) (ts' : List T) (vs' : List Value) (i : Nat), ts'.length = ps'.length → vs'.length = ps'.length →
          (∀ (k ty : Nat) (m : Mode) (t : T) (v : Value), ps'[k]? = some (ty, m) → ts'[k]? = some t → vs'[k]? = some v → ArgOk E w gc (i + k) ty m t v) → ArgsOk E w gc i ps' ts' vs' := by
        intro ps'
        induction ps' with
        | nil => intro ts' vs' i h1 h2 _; cases ts' with
          | nil => cases vs' with
            | nil => trivial
            | cons => simp at h2
          | cons => simp at h1
        | cons x ps' ih =>
          intro ts' vs' i h1 h2 h3
          cases ts' with
          | nil => simp at h1
          | cons t ts' =>
            cases vs' with
            | nil => simp at h2
            | cons v vs' =>
              obtain ⟨ty, m⟩ := x
              refine ⟨by simpa using h3 0 ty m t v rfl rfl rfl, ih ts' vs' (i + 1) (by simpa using h1) (by simpa using h2) fun k ty m t v a b c => ?_⟩
              have := h3 (k + 1) ty m t v (by simpa using a) (by simpa using b) (by simpa using c)
              rwa [show i + (k + 1) = i + 1 + k by omega] at this
      have hargsOk := gen fi.params (ts ++ t.caps) vs 0 (by rw [hplen]; simp [l1, e3]) (by rw [hplen]; simp only [vs, List.length_append]; omega) hpar
      refine ⟨vs, ?_, ?_⟩
      · simp [execOp, hop, resolve, e1, Deferred.ofValue, invoke, callFunc, hfn, hname, hbody, vs, vs1]
      refine (hC _ fi hfi _ res hres vs w gc (fun b hb => h.bnd b (gc_nf b hb)) (h.kn.step fun b hb => ⟨SameBlk.refl _ _, gc_frz b (by rw [hb]; simp)⟩) hargsOk).mono fun en w' => ?_
      rintro ⟨v, g', rvs, rts, mts, rfl, rfl, hvr, hst, hbnd', hress, _⟩
      have hheap : ∀ b, b < w.heap.size → w'.heap[b]? = w.heap[b]? := fun b hb => (hst.keep b hb (gc_free b)).1
      have hsame : ∀ b, b < w.heap.size → SameBlk w w' b := fun b hb => .of_heap (hheap b hb)
      have hstp : Stp w g w' g := ⟨hst.os, hst.tape, hst.output, hst.size, fun b hb _ => ⟨hheap b hb, rfl⟩⟩
      have hfrz : ∀ b, g b = .frz → SameBlk w w' b ∧ g b = .frz := fun b hb => ⟨hsame b (h.bnd b (by rw [hb]; simp)), hb⟩
      have hkeep : ∀ r, Keeps w g hold w' g hold r := fun r => ⟨rfl, fun b hb => ⟨hsame b (h.bnd b (by rcases hb with hb | ⟨q, hb⟩ <;> rw [hb] <;> simp)), rfl⟩⟩
      refine ⟨v, g, hold, rfl, hstp, fun _ _ => rfl, h.apply hP.wf hd hfrz (Surv.of hP.wf h.rts fun r R hR => .keep hR (hkeep r)) (fun r R hR => (h.rts r R hR).keep hP.wf (hkeep r) hfrz)
        (fun b hb => Nat.lt_of_lt_of_le (h.bnd b hb) hst.size) fun _ => ?_⟩
      show AvOk E w' g st.rt hold _ v
      split
      · rename_i ty
        obtain ⟨r1, r2, r3, _⟩ := resWr_at (E := E) (d := d) (rest := mts) hress
        have hrl : fi.rets.length = 1 := by have := congrArg List.length q3; simpa using this
        rcases hrs : fi.rets[0] with ⟨ty0, kd⟩
        have hr0 : fi.rets[0]? = some (ty0, kd) := by rw [List.getElem?_eq_getElem (by omega), hrs]
        obtain ⟨t0, v0, x1, x2, x3, _⟩ := r3 0 ty0 kd hr0
        have hty0 : ty0 = ty := by
          have : (fi.rets.map (·.1))[0]? = some ty0 := by rw [List.getElem?_map, hr0]; rfl
          rw [q3] at this; simpa using this.symm
        subst hty0
        have hkd := List.all_eq_true.1 q4 _ (List.mem_of_getElem? hr0)
        cases kd with
        | bx _ => simp at hkd
        | vl o =>
          simp only at hkd
          have hv0 : v = v0 := by
            cases rvs with
            | nil => simp at x2
            | cons y l => cases l with
              | nil => simp at x2; rw [← x2]; exact hvr
              | cons => simp at r2; omega
          have ht0 : (rts ++ mts).headD (.int 0) = t0 := by
            cases rts with
            | nil => simp at x1
            | cons y l => simp at x1; simp [x1]
          show AvOk E w' g st.rt hold (.val ty0 ((rts ++ mts).headD (.int 0))) v
          rw [ht0, hv0]
          have hfl0 : E.flat ty0 = true := by have := hfl.2; simpa using this
          exact .val (x3.1.flat hP.wf hkd hfl0 fun _ _ => rfl) x3.2
      · exact .undef
end
end Go.Proofs.YtfelodpbejdhlaaDoor.Ra
/- One operation, whichever. -/
namespace Go.Proofs.YtfelodpbejdhlaaDoor.Ra
open Go Go.RowKit

theorem bin_shape {E : Env} {op : BinOp} {rty xty : Nat} {b : Bool} {x y : AV} {e : Eff} (h : binOpE E op rty xty b x y = some e) : ∃ p av, one p av = some e := by
  unfold binOpE at h
  split at h
  · split at h
    · split at h
      · cases hb : boolTy E rty <;> rw [hb] at h <;> simp only [cond_true, cond_false] at h
        · cases h
        · exact ⟨_, _, h⟩
      · rename_i k _ _ _ _ _ _ _ _
        cases hb : Nat.beq rty xty <;> rw [hb] at h <;> simp only [cond_true, cond_false] at h
        · cases h
        · exact ⟨_, _, h⟩
      · cases h
    · split at h
      · cases hb : boolTy E rty <;> rw [hb] at h <;> simp only [cond_true, cond_false] at h
        · cases h
        · exact ⟨_, _, h⟩
      · cases hb : Nat.beq rty xty <;> rw [hb] at h <;> simp only [cond_true, cond_false] at h
        · cases h
        · exact ⟨_, _, h⟩
      · cases h
    · cases hb : boolTy E rty <;> rw [hb] at h <;> simp only [cond_true, cond_false] at h
      · cases h
      · split at h
        · exact ⟨_, _, h⟩
        · exact ⟨_, _, h⟩
        · cases h
    · cases h
  · cases h

section
variable {P : Program} {E : Env} {n : Nat} {st : St} {a : Act} {w : World} {g : Gh} {hold : Nat → Place} {look : Nat → Option Rt} {o : Oper}

theorem effOp_ok (hP : PrOk P E) (hF : FnsOk P E) (h : Inv E n st a w g hold) (hl : ∀ r R, look r = some R → st.rt r = some R) (hd : ∀ x, o.dst = some x → x < n) (hn : n ≤ 1000) {fi : Fi}
    {ρ : Operand → AV} (hρ : ∀ x, AvOk E w g st.rt hold (ρ x) (a.eval x)) {C : CallsE} (hC : CallsOk P E C) {e : Eff} (he : effOp fi E look ρ o = some e) :
    Acts P E n st a w g hold o e ∨ ActsC P E n st a w g hold C o e := by
  have hd9 : o.dst.getD 999 < 100000 := by
    cases hdd : o.dst with
    | none => simp
    | some x => exact Nat.lt_of_lt_of_le (hd x hdd) (by omega)
  have hs : ∀ x, (strip (ρ x)).1 = true → AvOk E w g st.rt hold (strip (ρ x)).2 (a.eval x) := fun x hx => strip_ok (hρ x) hx
  have hs2 : ∀ x y, ((strip (ρ x)).1 && (strip (ρ y)).1) = true → AvOk E w g st.rt hold (strip (ρ x)).2 (a.eval x) := fun x y hx => hs x (by simp only [Bool.and_eq_true] at hx; exact hx.1)
  have hs3 : ∀ x y, ((strip (ρ x)).1 && (strip (ρ y)).1) = true → AvOk E w g st.rt hold (strip (ρ y)).2 (a.eval y) := fun x y hx => hs y (by simp only [Bool.and_eq_true] at hx; exact hx.2)
  have Y : ∀ {e : Eff}, Ylds P E st a w g hold o e → Acts P E n st a w g hold o e ∨ ActsC P E n st a w g hold C o e := fun hy => .inl (hy.acts hP.wf h hd)
  unfold effOp at he
  simp only at he
  split at he
  · rename_i x hop; exact Y (move_ok hP.wf hop (hs x) he)
  · rename_i x hop; exact .inl (assign_ok hP h hl hd hop (hs x) hd9 he)
  · rename_i c x y hop; exact Y (pick_ok hP hop (hs c) (hs x) (hs y) he)
  · rename_i t hop
    cases hz : E.zok t with
    | false => rw [hz] at he; cases he
    | true => rw [hz, cond_true] at he; exact .inl (alloc_ok hP h hd hop hz hd9 he)
  · rename_i t x hop
    cases hz : okTy E t with
    | false => rw [hz] at he; cases he
    | true =>
      rw [hz, cond_true] at he
      cases hpin : mem (o.dst.getD 999) fi.pin with
      | true => rw [hpin, cond_true] at he; exact .inl (pin_ok hP h hd hop hz (hs x) he)
      | false => rw [hpin, cond_false] at he; exact .inl (box_ok hP h hl hd hop (hs x) hd9 he)
  · rename_i t ps hop; exact Y (build_ok hP hop hρ he)
  · rename_i t k ps hop; exact .inl (buildSlice_ok hP h hl hd hop hρ hd9 he)
  · rename_i t x hop
    cases hz : okTy E t with
    | false => rw [hz] at he; cases he
    | true => rw [hz, cond_true] at he; exact Y (load_ok hP h hop hl (hs x) hz he)
  · rename_i t x y hop
    cases hz : (okTy E t && o.dst.isNone) with
    | false => rw [hz] at he; cases he
    | true =>
      rw [hz, cond_true] at he
      simp only [Bool.and_eq_true, Option.isNone_iff_eq_none] at hz
      exact .inl (store_ok hP h hl hz.2 hop (hs2 x y) (hs3 x y) hz.1 he)
  · rename_i x hop; exact Y (nil_ok hop (hs x) he)
  · rename_i op t x y m hop
    obtain ⟨p, av, hone⟩ := bin_shape he
    refine Y (.mk hone fun hp => ?_)
    have hep : e.pre = true := by simp only [one, Option.some.injEq] at hone; subst hone; exact hp
    obtain ⟨av', v, _, h2, h3, h4⟩ := binOpE_ok hP x y he hep (hs2 x y) (hs3 x y)
    have : av' = av := by simp only [one, Option.some.injEq] at hone; subst hone; simp only [Upd.mk.injEq] at h2; exact h2.1.symm
    subst this
    exact ⟨v, by simp only [execOp, hop]; exact run_value _ _ h3, h4⟩
  · rename_i op t x hop; exact Y (un_ok hP hop (hs x) he)
  · rename_i s t x hop; exact Y (conv_ok hP h hl hop (hs x) he)
  · rename_i f fs cs hop; exact Y (func_ok hP hop hρ he)
  · rename_i t l c hop; exact .inl (makeSlice_ok hP h hd hop (hs2 l c) (hs3 l c) hd9 he)
  · rename_i t x lo hi mx hop; exact Y (slice_ok hP h hl hρ hop (hs x) he)
  · rename_i t x j hop; exact Y (fieldAddr_ok hP h hop (hs x) he)
  · rename_i t x j hop; exact Y (field_ok hP hop (hs x) he)
  · rename_i t x i hop
    split at he
    · rename_i et bb j hsl hbn
      have hty : E.ty t = .sl et := by unfold isSl at hsl; split at hsl <;> simp_all
      cases hbb : ((strip (ρ x)).1 && ((strip (ρ i)).1 && bb)) with
      | false =>
        rw [hbb] at he
        exact Y (indexAddr_ok (b := false) (k := .i64) hP h hop hl (fun hb => by cases hb) hty (fun hb => by cases hb) he)
      | true =>
        rw [hbb] at he
        simp only [Bool.and_eq_true] at hbb
        obtain ⟨k, hk⟩ := bnd_ok hP.wf hbn hbb.2.2 (hs i hbb.2.1)
        exact Y (indexAddr_ok hP h hop hl (fun _ => hs x hbb.1) hty (fun _ => hk) he)
    · cases he
  · rename_i t x i hop; exact Y (index_ok hP hop (hs2 x i) (hs3 x i) he)
  · rename_i x j hop; exact Y (extract_ok hop (hs x) he)
  · rename_i c hop
    obtain ⟨callee, xs, tys⟩ := c
    simp only at he
    have lst : ∀ {x : Operand}, xs.toList = [x] → xs = #[x] := fun h => by apply Array.ext'; simpa using h
    have lst2 : ∀ {x y : Operand}, xs.toList = [x, y] → xs = #[x, y] := fun h => by apply Array.ext'; simpa using h
    have all : (xs.toList.all fun x => (strip (ρ x)).1) = true → ∀ (k : Nat) (av : AV) (x : Operand), (xs.toList.map fun x => (strip (ρ x)).2)[k]? = some av → xs[k]? = some x → AvOk E w g st.rt hold av (a.eval x) := by
      intro hall k av x h1 h2
      have h2' : xs.toList[k]? = some x := by simpa using h2
      rw [List.getElem?_map, h2'] at h1
      simp only [Option.map_some, Option.some.injEq] at h1; subst h1
      exact hs x (List.all_eq_true.1 hall x (List.mem_of_getElem? h2'))
    split at he
    · split at he
      · rename_i x t hx ht
        have e1 := lst hx
        have e2 : tys = #[t] := by apply Array.ext'; simpa using ht
        subst e1; subst e2
        exact Y (len_ok hP h hl hop (hs x) he)
      · cases he
    · split at he
      · rename_i x y t u hx ht
        have e1 := lst2 hx
        have e2 : tys = #[t, u] := by apply Array.ext'; simpa using ht
        subst e1; subst e2
        cases hb : Nat.beq t u with
        | false => rw [hb] at he; cases he
        | true =>
          rw [hb, cond_true] at he
          have := Nat.eq_of_beq_eq_true hb; subst this
          exact .inl (append_ok hP h hl hd hop (hs2 x y) (hs3 x y) hd9 he)
      · cases he
    · split at he
      · rename_i x y hx
        have e1 := lst2 hx
        subst e1
        exact Y (mx_ok (mx := true) hP hop (hs2 x y) (hs3 x y) he)
      · cases he
    · split at he
      · rename_i x y hx
        have e1 := lst2 hx
        subst e1
        exact Y (mx_ok (mx := false) hP hop (hs2 x y) (hs3 x y) he)
      · cases he
    · rename_i f
      split at he
      · rename_i g' hg
        cases hcl : g'.clip with
        | true => rw [hcl, cond_true] at he; exact .inr (clip_ok hP hF h hl hd hg hcl hop (by simp) all he)
        | false =>
          rw [hcl, cond_false] at he
          have hw : FnOk P E f { g' with rets := weakR fi (o.dst.getD 999) g'.params.length g'.rets } (C f) := by
            unfold weakR
            split
            · rename_i ty oo _ hrs
              cases hb : oo.live && decide (g'.params.length < 1000) with
              | false => rw [cond_false]; exact hC f g' hg
              | true =>
                rw [cond_true]
                simp only [Bool.and_eq_true, decide_eq_true_eq] at hb
                exact (hC f g' hg).weak hrs hb.1 hb.2
            · exact hC f g' hg
          exact .inr (call_ok (fi := { g' with rets := weakR fi (o.dst.getD 999) g'.params.length g'.rets }) hP hF h hl hd hg hw hop (by simp) all he)
      · cases he
    · rename_i x _
      split at he
      · rename_i ty t hst
        refine .inr (callV_ok hP hF h hl hd hC hop (by simp) (fun hb => ?_) (fun hb => all (by simp only [Bool.and_eq_true] at hb; exact hb.2)) he)
        simp only [Bool.and_eq_true] at hb
        rw [← hst]; exact hs x hb.1
      · cases he
    · cases he
  · cases he
end
end Go.Proofs.YtfelodpbejdhlaaDoor.Ra
/- One operation of a region, with its guard. -/
namespace Go.Proofs.YtfelodpbejdhlaaDoor.Ra
open Go Go.RowKit

theorem condL_true {α : Type} (l : List α) : condL true l = l := by cases l <;> rfl
theorem condL_false {α : Type} (l : List α) : condL false l = [] := by cases l <;> rfl

section
variable {P : Program} {E : Env} {n : Nat} {st : St} {a : Act} {w : World} {g : Gh} {hold : Nat → Place} {look : Nat → Option Rt} {o : Oper}

/-- An update of which the value alone is told otherwise. -/
theorem Inv.regd {w' : World} {g' : Gh} {hold' : Nat → Place} {dst : Option Nat} {u : Upd} {v : Value} (hd : ∀ x, dst = some x → x < n) (hsz : a.tmps.size = n) (h : Inv E n (applyU dst u st) (a.put dst v) w' g' hold') :
    Inv E n (applyU dst ⟨.gd true u.av, u.wr, u.ks⟩ st) (a.put dst v) w' g' hold' := by
  refine ⟨h.size, h.defers, fun t => ?_, h.rts, h.bnd, h.kn⟩
  have := h.tms t
  cases dst with
  | none => exact this
  | some d =>
    simp only [applyU] at this ⊢
    cases hb : Nat.beq t d with
    | false => rw [hb] at this; exact this
    | true => rw [hb] at this; exact .gd (fun _ => this) (fun hf => by cases hf)
theorem Inv.skip {dst : Option Nat} {av : AV} (hE : TyWf E) (hd : ∀ x, dst = some x → x < n) (h : Inv E n st a w g hold) : Inv E n (applyU dst ⟨.gd false av, [], []⟩ st) (a.put dst Go.undef) w g hold :=
  h.apply hE hd (fun b hb => ⟨SameBlk.refl _ _, hb⟩) (Surv.of hE h.rts fun r R hR => .self hR) h.rts h.bnd fun _ => .gd (fun hf => by cases hf) (fun _ => rfl)
theorem assoc_none {α : Type} : ∀ {l : List (Nat × α)} {r : Nat}, r ∉ l.map (·.1) → assoc l r = none
  | [], _, _ => rfl
  | (k, v) :: l, r, h => by
    simp only [List.map_cons, List.mem_cons, not_or] at h
    simp only [assoc, nbeq, Ne.symm h.1, decide_false, cond_false]
    exact assoc_none h.2
theorem assoc_memk {α : Type} : ∀ {l : List (Nat × α)} {r : Nat}, r ∈ l.map (·.1) → ∃ x, (r, x) ∈ l ∧ assoc l r = some x
  | [], _, h => by cases h
  | (k, v) :: l, r, h => by
    simp only [assoc, nbeq]
    by_cases hk : k = r
    · subst hk; exact ⟨v, by simp, by simp⟩
    · simp only [List.map_cons, List.mem_cons] at h
      obtain ⟨x, h1, h2⟩ := assoc_memk (h.resolve_left (Ne.symm hk))
      exact ⟨x, by simp [h1], by simp only [hk, decide_false, cond_false]; exact h2⟩
theorem Inv.skipQ {dst : Option Nat} {av : AV} {u : Upd} (hE : TyWf E) (hd : ∀ x, dst = some x → x < n) (h : Inv E n st a w g hold) (hq : quiet u = true) : Inv E n (applyU dst ⟨.gd false av, u.wr, u.ks⟩ st) (a.put dst Go.undef) w g hold := by
  unfold quiet at hq
  simp only [Bool.and_eq_true, List.all_eq_true] at hq
  obtain ⟨q1, q2⟩ := hq
  have hin : ∀ r, r ∈ u.wr.map (·.1) → assoc u.wr r = some none ∧ r ∈ u.ks.map (·.1) := by
    intro r hr
    obtain ⟨x, h1, h2⟩ := assoc_memk hr
    have := q1 _ h1
    rw [Option.isNone_iff_eq_none, mem_iff] at this
    simp only at this
    exact ⟨by rw [h2, this.1], this.2⟩
  have hks : ∀ r, r ∈ u.ks.map (·.1) → assoc u.ks r = some 0 := by
    intro r hr
    obtain ⟨x, h1, h2⟩ := assoc_memk hr
    have := Nat.eq_of_beq_eq_true (q2 _ h1)
    simp only at this
    rw [h2, this]
  have hrt : ∀ r R, (applyU dst ⟨.gd false av, u.wr, u.ks⟩ st).rt r = some R → st.rt r = some R ∧ r ∉ u.wr.map (·.1) := by
    intro r R hr
    simp only [applyU] at hr
    by_cases hm : r ∈ u.wr.map (·.1)
    · rw [(hin r hm).1] at hr; cases hr
    · rw [assoc_none hm] at hr; exact ⟨hr, hm⟩
  refine h.apply hE hd (fun b hb => ⟨SameBlk.refl _ _, hb⟩) (Surv.of hE h.rts fun r R hR => ?_) (fun r R hr => h.rts r R (hrt r R hr).1) h.bnd fun _ => .gd (fun hf => by cases hf) (fun _ => rfl)
  by_cases hm : r ∈ u.ks.map (·.1)
  · exact .dead (hks r hm)
  · have hw : r ∉ u.wr.map (·.1) := fun hr => hm (hin r hr).2
    have : (applyU dst ⟨.gd false av, u.wr, u.ks⟩ st).rt r = some R := by simp only [applyU, assoc_none hw]; exact hR
    exact .self this

/-- What an operation leaves. -/
def After (E : Env) (n : Nat) (w : World) (g : Gh) (hold : Nat → Place) (st : St) (a' : Act) (w' : World) : Prop :=
  ∃ g' hold', Stp w g w' g' ∧ Sld hold hold' ∧ Inv E n st a' w' g' hold'

theorem wp_of {C : CallsE} {e : Eff} {res : List T} {K : Act → World → Prop} {Q : Exit → Act → World → Prop} (hacts : Acts P E n st a w g hold o e ∨ ActsC P E n st a w g hold C o e) (hp : e.pre = true)
    (hres : match e.req with | none => res = [] | some (f, ts) => C f ts = some res) (hK : ∀ a' w', After E n w g hold (applyU o.dst (e.ret res) st) a' w' → (∃ v, a' = a.put o.dst v) → K a' w') : o.wp P a w K Q := by
  unfold Oper.wp
  rcases hacts with ⟨_, h2, h3⟩ | ⟨_, f, ts, h2, h3⟩
  · rw [h2] at hres; simp only at hres; subst hres
    obtain ⟨nx, w', v, g', hold', hrun, hnx, k1, k2, k3⟩ := h3 hp
    rw [hrun]
    rcases hnx with rfl | ⟨rfl, rfl⟩
    · exact hK _ _ ⟨g', hold', k1, k2, k3⟩ ⟨_, rfl⟩
    · exact hK _ _ ⟨g', hold', k1, k2, k3⟩ ⟨_, rfl⟩
  · rw [h2] at hres; simp only at hres
    obtain ⟨vs, hrun, hc⟩ := h3 hp res hres
    rw [hrun, Oper.upon_enter]
    refine hc.mono fun en w' => ?_
    rintro ⟨v, g', hold', rfl, k1, k2, k3⟩
    exact hK _ _ ⟨g', hold', k1, k2, k3⟩ ⟨_, rfl⟩

theorem acts_g {C : CallsE} {e : Eff} (h : Acts P E n st a w g hold o e ∨ ActsC P E n st a w g hold C o e) : e.g = true := by
  rcases h with h | h
  · exact h.1
  · exact h.1

theorem wpOp_ok (hP : PrOk P E) (hF : FnsOk P E) (h : Inv E n st a w g hold) {fi : Fi} (hnt : fi.ntmps = n) (hn : n ≤ 1000) {C : CallsE} (hC : CallsOk P E C) {ops : Array Oper} {i : Nat} (hi : ops[i]? = some o)
    {look : Nat → Option Rt} {ρ : Operand → AV} (hl : ∀ r R, look r = some R → st.rt r = some R) (hρ : ∀ x, AvOk E w g st.rt hold (ρ x) (a.eval x)) {e : Eff} (he : effG fi E ops.toList look ρ o = some e) (hp : e.pre = true) {res : List T}
    (hres : match e.req with | none => res = [] | some (f, ts) => (bif e.g then C f ts else some []) = some res) {K : Act → World → Prop} {Q : Exit → Act → World → Prop}
    (hK : ∀ a' w', After E n w g hold (applyU o.dst (e.ret res) st) a' w' → K a' w') : wpOp P ops Q i K a w := by
  unfold effG at he
  split at he
  · cases he
  rename_i e0 he0
  have key : (∀ x, o.dst = some x → x < fi.ntmps) ∧ guarded E ops.toList ρ o e0 = some e := by
    cases hod : o.dst with
    | none =>
      simp only [hod, cond_true] at he
      exact ⟨fun x hx => (by cases hx), he⟩
    | some d =>
      simp only [hod] at he
      cases hdd : decide (d < fi.ntmps) with
      | false => rw [hdd] at he; cases he
      | true =>
        rw [hdd, cond_true] at he
        exact ⟨fun x hx => by cases hx; exact of_decide_eq_true hdd, he⟩
  obtain ⟨hd0, he⟩ := key
  have hd : ∀ x, o.dst = some x → x < n := by intro x hx; rw [← hnt]; exact hd0 x hx
  have hacts := effOp_ok hP hF h hl hd hn hρ hC he0
  unfold wpOp
  rw [hi]
  simp only
  unfold guarded at he
  cases hg : o.guard with
  | none =>
    rw [hg] at he; simp only [Option.some.injEq] at he; subst he
    have hw : Region.wanted o (yielded ops a.tmps) = true := by simp [Region.wanted, hg]
    rw [if_pos hw]
    refine .inl (wp_of hacts hp ?_ fun a' w' ha _ => hK a' w' ha)
    rw [acts_g hacts] at hres; exact hres
  | some jw =>
    obtain ⟨j, want⟩ := jw
    rw [hg] at he; simp only at he
    split at he
    · cases he
    rename_i t ht
    have hav := hρ (.tmp t)
    generalize hst : strip (ρ (.tmp t)) = sv at he
    split at he
    rotate_left
    · cases he
    rename_i b ty v
    cases hbt : boolTy E ty with
    | false => rw [hbt] at he; cases he
    | true =>
      rw [hbt, cond_true] at he
      simp only [Option.some.injEq] at he
      have ht' : (ops[j]?).bind (·.dst) = some t := by simpa using ht
      have hwant : Region.wanted o (yielded ops a.tmps) = (b && (v.b == want)) := by
        simp only [Region.wanted, hg, yielded, ht', Option.bind_some]
        have hev : a.eval (.tmp t) = a.tmps.getD t Go.undef := rfl
        cases hb : b with
        | true =>
          have h1 := strip_ok hav (by rw [hst, hb])
          rw [hst] at h1
          have hval := vt_bool hP.wf (boolTy_ok hbt) (show vt E ty (.val ty v) = some v by simp [vt, sn]) h1
          rw [hev] at hval
          have hsome : a.tmps[t]? = some (.bool v.b) := by
            rw [Array.getD_eq_getD_getElem?] at hval
            cases hx : a.tmps[t]? with
            | none => rw [hx] at hval; simp [Go.undef] at hval
            | some y => rw [hx] at hval; simpa using hval
          rw [hsome]
          cases v.b <;> cases want <;> rfl
        | false =>
          have hund : a.eval (.tmp t) = Go.undef := by
            cases hnv : ρ (.tmp t) with
            | gd b' a' =>
              rw [hnv] at hst hav
              simp only [strip, Prod.mk.injEq] at hst
              cases hav with
              | gd _ h2 => exact h2 (by rw [hst.1, hb])
            | _ => rw [hnv] at hst; simp only [strip, Prod.mk.injEq] at hst; rw [hb] at hst; simp at hst
          rw [hev, Array.getD_eq_getD_getElem?] at hund
          cases hx : a.tmps[t]? with
          | none => rfl
          | some y => rw [hx] at hund; simp only [Option.getD_some] at hund; rw [hund]; rfl
      subst he
      rw [hwant]
      cases hgg : (b && (v.b == want)) with
      | true =>
        rw [hgg] at hp hres
        simp only [Bool.not_true, Bool.false_or, cond_true] at hp hres
        rw [if_pos rfl]
        refine .inl (wp_of hacts hp hres fun a' w' ha hav' => hK a' w' ?_)
        obtain ⟨vv, rfl⟩ := hav'
        obtain ⟨g', hold', k1, k2, k3⟩ := ha
        refine ⟨g', hold', k1, k2, ?_⟩
        have := k3.regd hd h.size
        cases hq : quiet (e0.ret res) with
        | true => simpa only [hgg, hq, cond_true] using this
        | false => simpa only [hgg, hq, cond_false, condL_true] using this
      | false =>
        rw [if_neg (by simp)]
        refine hK _ _ ⟨g, hold, Stp.refl _ _, fun _ _ => rfl, ?_⟩
        cases hq : quiet (e0.ret res) with
        | true =>
          have := h.skipQ (av := (e0.ret res).av) hP.wf hd hq
          simpa only [hgg, hq, cond_true] using this
        | false =>
          have := h.skip (av := (e0.ret res).av) hP.wf hd
          simpa only [hgg, hq, cond_false, condL_false] using this
end
end Go.Proofs.YtfelodpbejdhlaaDoor.Ra
/- A function that hands the slices of a struct to two others, walked by hand. -/
namespace Go.Proofs.YtfelodpbejdhlaaDoor.Ra
open Go Go.RowKit

theorem Sld.trans {a b c : Nat → Place} (h : Sld a b) (h' : Sld b c) : Sld a c := fun r hr => (h' r hr).trans (h r hr)

section
variable {P : Program} {E : Env}

theorem load_hdr (hP : PrOk P E) {w : World} {s e : Nat} (hs : E.ty s = .sl e) (hok : okTy E s = true) {b o : Nat} {h : Value} (hc : w.cell? ⟨b, o, none⟩ = some h) (hn : h.cells = #[h]) :
    (loadVar s ⟨b, o, none⟩).run P w = .ok h w := by
  obtain ⟨v, h1, h2, h3⟩ := run_loadVar (P := P) (E := E) (w := w) hP hok (a := ⟨b, o, none⟩) rfl (fun k hk => by
    rw [hP.wf.one s (by simp [hs])] at hk
    obtain rfl : k = 0 := by omega
    exact ⟨h, hc, hn⟩)
  have hv := h2.2; rw [hs] at hv; simp only at hv
  have := h3 0 (by rw [hP.wf.one s (by simp [hs])]; omega)
  rw [hv] at this
  simp only [Place.add, rd, Nat.add_zero, hc] at this
  have : v = h := by simpa using this
  rw [this] at h1; exact h1

theorem inl_calls (hP : PrOk P E) (hF : FnsOk P E) {f ty j1 s1 f1 j2 s2 f2 : Nat} {fn : Func} {c : Code} (hf : P.funcs[f]? = some fn) (hb : fn.body = some c) (hc : InlBody E fn ty j1 s1 f1 j2 s2 f2 c)
    {fi1 fi2 : Fi} (hf1 : E.fn f1 = some fi1) (hf2 : E.fn f2 = some fi2) {fs : List Nat} (hst : E.ty ty = .st fs) {w : World} {v h1 h2 kv : Value}
    (e1 : v.cells[off E fs j1]? = some h1) (n1 : h1.cells = #[h1]) (n2 : h2.cells = #[h2]) {R : Ending → World → Prop}
    (hcall : Calls P f1 #[h1, kv] (w.alloc (.cells v.cells ty)) fun en w2 => ∃ k1, en = .returned k1 ∧ w2.cell? ⟨w.heap.size, off E fs j2, none⟩ = some h2 ∧
      Calls P f2 #[h2, k1] w2 fun en w3 => ∃ k2, en = .returned k2 ∧ R (.returned k2) w3) : Calls P f #[v, kv] w R := by
  obtain ⟨hres, hnt, ⟨fs', x1, x2, hst', hj1, hj2, hs1, hs2⟩, i0, i1, i2, i3, o0, o1, b0, b1, b2, b3, b4, c0, c1, c2, c3, c4, d0, d1, z, t1, t2, rfl, p0, p1, q0, q1, q2, q3, q4, r0, r1, r2, r3, r4, u0, u1⟩ := hc
  rw [hst] at hst'; cases hst'
  obtain ⟨fn1, hfn1, hbody1, hname1, _⟩ := hF f1 fi1 hf1
  obtain ⟨fn2, hfn2, hbody2, hname2, _⟩ := hF f2 fi2 hf2
  obtain ⟨_, _, _, g1, _, hu1, hfd1, y1, y2, y3, y4⟩ := st_fld hP hst (j := j1) (List.getElem?_eq_some_iff.1 hj1).1
  obtain ⟨_, _, _, g2, _, hu2, hfd2, z1, z2, z3, z4⟩ := st_fld hP hst (j := j2) (List.getElem?_eq_some_iff.1 hj2).1
  rw [getD_of hj1] at g1; subst g1
  rw [getD_of hj2] at g2; subst g2
  have fa : ∀ {a : Act} {w : World} {o : Oper} {d j fld : Nat} {B : Nat} {fds : Array Field} {fd : Field}, OpIs o d (.fieldAddr ty (.tmp 2) j) → a.eval (.tmp 2) = .pointer (some ⟨B, 0, none⟩) →
      P.underlying ty = some (.struct fds) → fds[j]? = some fd → fd.type = fld → fd.offset = off E fs j → E.sz fld ≠ 0 → okTy E fld = true →
      (execOp a.eval o).run P w = .ok (.value (.pointer (some ⟨B, off E fs j, none⟩))) w := by
    intro a w o d j fld B fds fd ho hev hu hfd k1 k2 k3 k4
    obtain ⟨i, hi, _, hsz, _⟩ := info_ok (w := w) hP k4
    simp [execOp, ho.op, hev, Instr.fieldAt, underlying, hu, hfd, Instr.sureAddr, fieldPlace, k1, hsz, k3, k2, addr_add (a := ⟨B, 0, none⟩) rfl]
  refine calls_of_wp hf hb (wp_seq (wp_region ?_))
  rw [hnt]
  generalize ha : ({ tmps := #[v, kv] ++ Array.replicate (14 - #[v, kv].size) undef, defers := [] } : Act) = a
  have s0 : a.tmps.size = 14 := by rw [← ha]; simp
  have e0 : a.eval (.tmp 0) = v := by rw [← ha]; rfl
  have k0 : a.eval (.tmp 1) = kv := by rw [← ha]; rfl
  have dd : a.defers = [] := by rw [← ha]
  clear ha
  generalize hB : w.heap.size = B at *
  simp only [show List.range (#[o0, o1] : Array Oper).size = [0, 1] from rfl, wpOps_cons]
  refine wpOp_val (o := o0) (w' := w.alloc (.cells v.cells ty)) (v := .pointer (some ⟨B, 0, none⟩)) rfl p0.guard (by simp [execOp, p0.op, e0, Instr.box, newVar, newRow, hB]) ?_
  rw [p0.dst]
  have s1' := sz_put (d := 2) (v := .pointer (some ⟨B, 0, none⟩)) s0
  have k1 : (a.put (some 2) (.pointer (some ⟨B, 0, none⟩))).eval (.tmp 1) = _ := (ev_ne (by decide)).trans k0
  have m1 : (a.put (some 2) (.pointer (some ⟨B, 0, none⟩))).eval (.tmp 2) = _ := ev_self s0 (by decide)
  have dd1 : (a.put (some 2) (.pointer (some ⟨B, 0, none⟩))).defers = [] := dd
  generalize a.put (some 2) (.pointer (some ⟨B, 0, none⟩)) = a1 at *
  have hw1 : (w.alloc (.cells v.cells ty)).cell? ⟨B, off E fs j1, none⟩ = some h1 := by rw [← hB, (Gr.alloc w v.cells ty).cell, e1]
  generalize w.alloc (.cells v.cells ty) = w1 at *
  rw [wpOps_cons]
  refine wpOp_val (o := o1) (w' := w1) (v := z) rfl p1.guard (by simp [execOp, p1.op, Act.eval]) ?_
  rw [p1.dst]
  have s2' := sz_put (d := 4) (v := z) s1'
  have k2 : (a1.put (some 4) z).eval (.tmp 1) = _ := (ev_ne (by decide)).trans k1
  have m2 : (a1.put (some 4) z).eval (.tmp 2) = _ := (ev_ne (by decide)).trans m1
  have dd2 : (a1.put (some 4) z).defers = [] := dd1
  generalize a1.put (some 4) z = a2 at *
  show Exit.then _ _ _ _ _
  simp only [Exit.then]
  refine wp_seq (wp_region ?_)
  simp only [show List.range (#[b0, b1, b2, b3, b4] : Array Oper).size = [0, 1, 2, 3, 4] from rfl, wpOps_cons]
  refine wpOp_val (o := b0) (w' := w1) (v := .pointer (some ⟨B, off E fs j1, none⟩)) rfl q0.guard (fa q0 m2 hu1 hfd1 y1 y2 y3 y4) ?_
  rw [q0.dst]
  have s3' := sz_put (d := 5) (v := .pointer (some ⟨B, off E fs j1, none⟩)) s2'
  have k3 : (a2.put (some 5) (.pointer (some ⟨B, off E fs j1, none⟩))).eval (.tmp 1) = _ := (ev_ne (by decide)).trans k2
  have m3 : (a2.put (some 5) (.pointer (some ⟨B, off E fs j1, none⟩))).eval (.tmp 2) = _ := (ev_ne (by decide)).trans m2
  have l3 : (a2.put (some 5) (.pointer (some ⟨B, off E fs j1, none⟩))).eval (.tmp 5) = _ := ev_self s2' (by decide)
  have dd3 : (a2.put (some 5) (.pointer (some ⟨B, off E fs j1, none⟩))).defers = [] := dd2
  generalize a2.put (some 5) (.pointer (some ⟨B, off E fs j1, none⟩)) = a3 at *
  rw [wpOps_cons]
  refine wpOp_val (o := b1) (w' := w1) (v := h1) rfl q1.guard (by simp [execOp, q1.op, l3, Instr.loadAt, Instr.sureAddr, load_hdr hP hs1 y4 hw1 n1]) ?_
  rw [q1.dst]
  have s4' := sz_put (d := 6) (v := h1) s3'
  have k4 : (a3.put (some 6) h1).eval (.tmp 1) = _ := (ev_ne (by decide)).trans k3
  have m4 : (a3.put (some 6) h1).eval (.tmp 2) = _ := (ev_ne (by decide)).trans m3
  have l4 : (a3.put (some 6) h1).eval (.tmp 6) = _ := ev_self s3' (by decide)
  have dd4 : (a3.put (some 6) h1).defers = [] := dd3
  generalize a3.put (some 6) h1 = a4 at *
  rw [wpOps_cons]
  refine wpOp_val (o := b2) (w' := w1) (v := kv) rfl q2.guard (by simp [execOp, q2.op, k4]) ?_
  rw [q2.dst]
  have s5' := sz_put (d := 7) (v := kv) s4'
  have m5 : (a4.put (some 7) kv).eval (.tmp 2) = _ := (ev_ne (by decide)).trans m4
  have l5 : (a4.put (some 7) kv).eval (.tmp 6) = _ := (ev_ne (by decide)).trans l4
  have v5 : (a4.put (some 7) kv).eval (.tmp 7) = _ := ev_self s4' (by decide)
  have dd5 : (a4.put (some 7) kv).defers = [] := dd4
  generalize a4.put (some 7) kv = a5 at *
  rw [wpOps_cons]
  refine wpOp_enter (o := b3) (f := f1) (vs := #[h1, kv]) rfl q3.guard (by simp [execOp, q3.op, resolve, Act.eval, Deferred.ofValue, invoke, callFunc, hfn1, hname1, hbody1]; exact ⟨by rw [← Array.getD_eq_getD_getElem?]; exact l5, by rw [← Array.getD_eq_getD_getElem?]; exact v5⟩) ?_
  refine hcall.mono fun en w2 => ?_
  rintro ⟨k1v, rfl, hw2, hcall2⟩
  refine ⟨k1v, rfl, ?_⟩
  rw [q3.dst]
  have s6' := sz_put (d := 8) (v := k1v) s5'
  have m6 : (a5.put (some 8) k1v).eval (.tmp 2) = _ := (ev_ne (by decide)).trans m5
  have l6 : (a5.put (some 8) k1v).eval (.tmp 8) = _ := ev_self s5' (by decide)
  have dd6 : (a5.put (some 8) k1v).defers = [] := dd5
  generalize a5.put (some 8) k1v = a6 at *
  rw [wpOps_cons]
  refine wpOp_val (o := b4) (w' := w2) (v := k1v) rfl q4.guard (by simp [execOp, q4.op, l6]) ?_
  rw [q4.dst]
  have s7' := sz_put (d := 1) (v := k1v) s6'
  have m7 : (a6.put (some 1) k1v).eval (.tmp 2) = _ := (ev_ne (by decide)).trans m6
  have k7 : (a6.put (some 1) k1v).eval (.tmp 1) = _ := ev_self s6' (by decide)
  have dd7 : (a6.put (some 1) k1v).defers = [] := dd6
  generalize a6.put (some 1) k1v = a7 at *
  show Exit.then _ _ _ _ _
  simp only [Exit.then]
  refine wp_seq (wp_region ?_)
  simp only [show List.range (#[c0, c1, c2, c3, c4] : Array Oper).size = [0, 1, 2, 3, 4] from rfl, wpOps_cons]
  refine wpOp_val (o := c0) (w' := w2) (v := .pointer (some ⟨B, off E fs j2, none⟩)) rfl r0.guard (fa r0 m7 hu2 hfd2 z1 z2 z3 z4) ?_
  rw [r0.dst]
  have s8' := sz_put (d := 9) (v := .pointer (some ⟨B, off E fs j2, none⟩)) s7'
  have k8 : (a7.put (some 9) (.pointer (some ⟨B, off E fs j2, none⟩))).eval (.tmp 1) = _ := (ev_ne (by decide)).trans k7
  have l8 : (a7.put (some 9) (.pointer (some ⟨B, off E fs j2, none⟩))).eval (.tmp 9) = _ := ev_self s7' (by decide)
  have dd8 : (a7.put (some 9) (.pointer (some ⟨B, off E fs j2, none⟩))).defers = [] := dd7
  generalize a7.put (some 9) (.pointer (some ⟨B, off E fs j2, none⟩)) = a8 at *
  rw [wpOps_cons]
  refine wpOp_val (o := c1) (w' := w2) (v := h2) rfl r1.guard (by simp [execOp, r1.op, l8, Instr.loadAt, Instr.sureAddr, load_hdr hP hs2 z4 hw2 n2]) ?_
  rw [r1.dst]
  have s9' := sz_put (d := 10) (v := h2) s8'
  have k9 : (a8.put (some 10) h2).eval (.tmp 1) = _ := (ev_ne (by decide)).trans k8
  have l9 : (a8.put (some 10) h2).eval (.tmp 10) = _ := ev_self s8' (by decide)
  have dd9 : (a8.put (some 10) h2).defers = [] := dd8
  generalize a8.put (some 10) h2 = a9 at *
  rw [wpOps_cons]
  refine wpOp_val (o := c2) (w' := w2) (v := k1v) rfl r2.guard (by simp [execOp, r2.op, k9]) ?_
  rw [r2.dst]
  have sa' := sz_put (d := 11) (v := k1v) s9'
  have la : (a9.put (some 11) k1v).eval (.tmp 10) = _ := (ev_ne (by decide)).trans l9
  have va : (a9.put (some 11) k1v).eval (.tmp 11) = _ := ev_self s9' (by decide)
  have dda : (a9.put (some 11) k1v).defers = [] := dd9
  generalize a9.put (some 11) k1v = aa at *
  rw [wpOps_cons]
  refine wpOp_enter (o := c3) (f := f2) (vs := #[h2, k1v]) rfl r3.guard (by simp [execOp, r3.op, resolve, Act.eval, Deferred.ofValue, invoke, callFunc, hfn2, hname2, hbody2]; exact ⟨by rw [← Array.getD_eq_getD_getElem?]; exact la, by rw [← Array.getD_eq_getD_getElem?]; exact va⟩) ?_
  refine hcall2.mono fun en w3 => ?_
  rintro ⟨k2v, rfl, hR⟩
  refine ⟨k2v, rfl, ?_⟩
  rw [r3.dst]
  have sb' := sz_put (d := 12) (v := k2v) sa'
  have lb : (aa.put (some 12) k2v).eval (.tmp 12) = _ := ev_self sa' (by decide)
  have ddb : (aa.put (some 12) k2v).defers = [] := dda
  generalize aa.put (some 12) k2v = ab at *
  rw [wpOps_cons]
  refine wpOp_val (o := c4) (w' := w3) (v := k2v) rfl r4.guard (by simp [execOp, r4.op, lb]) ?_
  rw [r4.dst]
  have sc' := sz_put (d := 1) (v := k2v) sb'
  have lc : (ab.put (some 1) k2v).eval (.tmp 1) = _ := ev_self sb' (by decide)
  have ddc : (ab.put (some 1) k2v).defers = [] := ddb
  generalize ab.put (some 1) k2v = ac at *
  show Exit.then _ _ _ _ _
  simp only [Exit.then]
  refine wp_seq (wp_region ?_)
  simp only [show List.range (#[d0, d1] : Array Oper).size = [0, 1] from rfl, wpOps_cons]
  refine wpOp_val (o := d0) (w' := w3) (v := k2v) rfl u0.guard (by simp [execOp, u0.op, lc]) ?_
  rw [u0.dst]
  have sd' := sz_put (d := 13) (v := k2v) sc'
  have ld : (ac.put (some 13) k2v).eval (.tmp 13) = _ := ev_self sc' (by decide)
  have ddd : (ac.put (some 13) k2v).defers = [] := ddc
  generalize ac.put (some 13) k2v = ad at *
  rw [wpOps_cons]
  refine wpOp_val (o := d1) (w' := w3) (v := k2v) rfl u1.guard (by simp [execOp, u1.op, ld]) ?_
  rw [u1.dst]
  have le : (ad.put (some 4) k2v).eval (.tmp 4) = _ := ev_self sd' (by decide)
  have dde : (ad.put (some 4) k2v).defers = [] := ddd
  generalize ad.put (some 4) k2v = ae at *
  show Exit.then _ _ _ _ _
  simp only [Exit.then]
  refine wp_ret ⟨dde, k2v, ?_, hR⟩
  have lf : ae.tmps[4]?.getD undef = k2v := by rw [← Array.getD_eq_getD_getElem?]; exact le
  simp [results, hres, lf]

theorem fldOf_ok (hP : PrOk P E) {w : World} {g : Gh} {rt : Nat → Option Rt} {hold : Nat → Place} {ty : Nat} {fs : List Nat} (hst : E.ty ty = .st fs) {s e j : Nat} (hj : fs[j]? = some s) (hs : E.ty s = .sl e)
    {x : AV} {v hd : Value} (hx : AvOk E w g rt hold x v) (hc : v.cells[off E fs j]? = some hd) : AvOk E w g rt hold (fldOf ty x j) hd := by
  unfold fldOf
  split
  rotate_left
  · exact .undef
  rename_i ty' l
  cases hb : Nat.beq ty' ty with
  | false => exact .undef
  | true =>
    have := Nat.eq_of_beq_eq_true hb; subst this
    rw [cond_true]
    cases hx with
    | agg h1 h2 h3 h4 h5 =>
      rename_i fs' vs
      rw [hst] at h1; cases h1
      have hjl := (List.getElem?_eq_some_iff.1 hj).1
      obtain ⟨y, hy⟩ : ∃ y, vs[j]? = some y := ⟨_, List.getElem?_eq_getElem (by omega)⟩
      have hsh := h5 j s y hj hy
      have hcy := hsh.2; rw [hs] at hcy; simp only at hcy
      have hk := flatMap_get h3 h5 j s y hj hy 0 (by rw [hP.wf.one s (by simp [hs])]; omega)
      rw [hcy] at hk
      rw [Nat.add_zero] at hk
      have hc' : (vs.flatMap fun v => v.cells.toList)[off E fs j]? = some hd := by simpa [Value.cells] using hc
      rw [hc'] at hk
      have : hd = y := by simpa using hk
      subst this
      have hl : l[j]? = some (l.getD j .undef) := by simp [List.getD_eq_getElem?_getD, h2, hjl]
      exact h4 j _ _ hl hy

theorem callIn_ok (hP : PrOk P E) (hF : FnsOk P E) {n : Nat} {st : St} {a : Act} {w : World} {g : Gh} {hold : Nat → Place} (h : Inv E n st a w g hold) {C : CallsE} (hC : CallsOk P E C) {d f : Nat} (hd : d < n)
    {as : List AV} {vs : List Value} (hvl : as.length = vs.length) (hv : ∀ (k : Nat) (av : AV) (v : Value), as[k]? = some av → vs[k]? = some v → AvOk E w g st.rt hold av v) {K : St → R} {r : List T}
    (he : callIn E C d f as st K = some r) : (∃ fi, E.fn f = some fi) ∧ ∃ st', K st' = some r ∧ Calls P f vs.toArray w fun en w' => ∃ v g' hold', en = .returned v ∧ Stp w g w' g' ∧ Sld hold hold' ∧ Inv E n st' (a.put (some d) v) w' g' hold' := by
  unfold callIn at he
  split at he
  · cases he
  rename_i fi hfi
  refine ⟨⟨fi, hfi⟩, ?_⟩
  split at he
  · cases he
  rename_i e hee
  split at he
  · cases he
  rename_i f' ts hreq
  split at he
  rotate_left
  · cases he
  rename_i res hres
  refine ⟨_, he, ?_⟩
  let o : Oper := { dst := some d, op := .call { callee := .value (.func f), args := (vs.map Operand.const).toArray, argTypes := #[] }, type := 0, pos := "", after := #[], guard := none }
  have hact := call_ok hP hF h (fun _ _ h => h) (o := o) (fun x hx => by cases hx; exact hd) hfi (hC f fi hfi) (xs := (vs.map Operand.const).toArray) rfl (by simp [hvl]) (fun _ k av x h1 h2 => by
    simp only [List.getElem?_toArray, List.getElem?_map, Option.map_eq_some_iff] at h2
    obtain ⟨v, hvk, rfl⟩ := h2
    exact hv k av v h1 hvk) hee
  obtain ⟨_, f2, ts2, hreq2, hrun⟩ := hact
  rw [hreq] at hreq2; cases hreq2
  have hpre : e.pre = true := by
    unfold callE at hee
    split at hee
    · cases hee
    · rename_i ts args hargs
      generalize hz : (distinct (muRoots args) && apartL (muRoots args) ((resKs d 0 fi.rets).map (·.1)) && apartL (muRoots args) (roRefs args as) && ((fi.rets.all (deepR E) && fi.params.all (deepM E)) || (roRefs args as).isEmpty) && (fi.rets.all (fineR E) && (fi.params.all fineM && (decide (d < 1000) && (decide (fi.rets.length < 90) && decide (fi.params.length < 1000)))))) = z at hee
      cases z with
      | false => simp at hee
      | true => simp only [cond_true, Option.some.injEq] at hee; subst hee; rfl
  have hf' : f' = f := by
    unfold callE at hee
    split at hee
    · cases hee
    · rename_i ts args hargs
      generalize hz : (distinct (muRoots args) && apartL (muRoots args) ((resKs d 0 fi.rets).map (·.1)) && apartL (muRoots args) (roRefs args as) && ((fi.rets.all (deepR E) && fi.params.all (deepM E)) || (roRefs args as).isEmpty) && (fi.rets.all (fineR E) && (fi.params.all fineM && (decide (d < 1000) && (decide (fi.rets.length < 90) && decide (fi.params.length < 1000)))))) = z at hee
      cases z with
      | false => simp at hee
      | true => simp only [cond_true, Option.some.injEq] at hee; subst hee; simp only [Option.some.injEq, Prod.mk.injEq] at hreq; exact hreq.1.symm
  subst hf'
  obtain ⟨vs', hr1, hcalls⟩ := hrun hpre res hres
  obtain ⟨fn, hfn, hbody, hname, _⟩ := hF f' fi hfi
  have hr2 : (execOp a.eval o).run P w = .ok (.enter f' vs.toArray) w := by
    have hm : (vs.map Operand.const).map a.eval = vs := by rw [List.map_map]; exact (List.map_congr_left fun _ _ => rfl).trans (List.map_id _)
    have hm' : (vs.map Operand.const).toArray.map a.eval = vs.toArray := by apply Array.ext'; simpa using hm
    simp [execOp, o, resolve, show a.eval (.func f') = .func (.func f') #[] #[] from rfl, Deferred.ofValue, invoke, callFunc, hfn, hname, hbody]
    rw [List.map_map] at hm; exact hm
  rw [hr1] at hr2
  simp only [Result.ok.injEq, Next.enter.injEq] at hr2
  rw [← hr2.1.2]
  exact hcalls

theorem put_put (a : Act) (d : Nat) (v v' : Value) : (a.put (some d) v).put (some d) v' = a.put (some d) v' := by
  simp [Act.put]

theorem evalInl_ok (hP : PrOk P E) (hF : FnsOk P E) {n : Nat} {st : St} {a : Act} {w : World} {g : Gh} {hold : Nat → Place} (h : Inv E n st a w g hold) {fi : Fi} (hnt : fi.ntmps = n) {C : CallsE} (hC : CallsOk P E C)
    {ops : Array Oper} {i : Nat} {o : Oper} (hi : ops[i]? = some o) {ty : Nat} {l : List (Nat × Nat)} {x k : Operand} (hinl : inlOf E o = some (ty, l, x, k)) {K : St → R} {r : List T}
    (he : evalInl fi E C o ty l x k st K = some r) {Kn : Act → World → Prop} {Q : Exit → Act → World → Prop} (hK : ∀ st' a' w', K st' = some r → After E n w g hold st' a' w' → Kn a' w') : wpOp P ops Q i Kn a w := by
  unfold evalInl at he
  split at he
  rotate_left
  · cases he
  rename_i d t f1 j1 f2 j2 hdst hguard
  cases hz : (decide (d < fi.ntmps) && (!Nat.beq t d && aggOf ty (st.tm t))) with
  | false => rw [hz] at he; cases he
  | true =>
  rw [hz, cond_true] at he
  simp only [Bool.and_eq_true, decide_eq_true_eq, Bool.not_eq_true'] at hz
  obtain ⟨hd, htd, hagg⟩ := hz
  rw [hnt] at hd
  have htd' : t ≠ d := by intro e; subst e; simp at htd
  -- the function that is called
  unfold inlOf at hinl
  split at hinl
  rotate_left
  · cases hinl
  rename_i c hop
  split at hinl
  rotate_left
  · cases hinl
  rename_i f x' k' hcal hargs
  split at hinl
  rotate_left
  · cases hinl
  rename_i gfi hg
  have hin : gfi.inl = [(f1, j1), (f2, j2)] ∧ (∃ m ps, gfi.params = (ty, m) :: ps) ∧ x' = .tmp t ∧ k' = k := by
    generalize hl : gfi.inl = L at hinl
    generalize hp : gfi.params = PS at hinl
    cases L with
    | nil => simp at hinl
    | cons y L =>
      cases PS with
      | nil => simp at hinl
      | cons z PS =>
        obtain ⟨ty', m⟩ := z
        simp only [Option.some.injEq, Prod.mk.injEq] at hinl
        obtain ⟨rfl, e2, e3, e4⟩ := hinl
        exact ⟨e2, ⟨_, _, rfl⟩, e3, e4⟩
  obtain ⟨hinl1, ⟨m, ps, hps⟩, rfl, rfl⟩ := hin
  obtain ⟨fn, hfn, hbody, hname, _, _, _, hib⟩ := hF f gfi hg
  obtain ⟨ty', s1, s2, ps', hps', hib⟩ := hib f1 j1 f2 j2 hinl1
  rw [hps] at hps'; cases hps'
  have hib' := hib
  obtain ⟨_, _, ⟨fs, x1, x2, hst, hj1, hj2, hs1, hs2⟩, _⟩ := hib'
  -- the struct
  have hav := h.tms t
  obtain ⟨v, hv⟩ : ∃ v, a.tmps.getD t undef = v := ⟨_, rfl⟩
  rw [hv] at hav
  have hhd : ∀ {j s e : Nat}, fs[j]? = some s → E.ty s = .sl e → ∃ y, v.cells[off E fs j]? = some y ∧ y.cells = #[y] := by
    intro j s e hj hs
    unfold aggOf at hagg
    split at hagg
    rotate_left
    · cases hagg
    rename_i ty' l' htm
    rw [htm] at hav
    have := Nat.eq_of_beq_eq_true hagg; subst this
    cases hav with
    | agg q1 q2 q3 q4 q5 =>
      rename_i fs' vs
      rw [hst] at q1; cases q1
      have hjl := (List.getElem?_eq_some_iff.1 hj).1
      obtain ⟨y, hy⟩ : ∃ y, vs[j]? = some y := ⟨_, List.getElem?_eq_getElem (by omega)⟩
      have hsh := q5 j s y hj hy
      have hcy := hsh.2; rw [hs] at hcy; simp only at hcy
      have hk := flatMap_get q3 q5 j s y hj hy 0 (by rw [hP.wf.one s (by simp [hs])]; omega)
      rw [hcy] at hk
      exact ⟨y, by simpa [Value.cells] using hk, hcy⟩
  obtain ⟨h1, c1, n1⟩ := hhd hj1 hs1
  obtain ⟨h2, c2, n2⟩ := hhd hj2 hs2
  -- the box
  have hgr := Gr.alloc w v.cells ty
  have hgB : g w.heap.size = .free := by
    cases hgB : g w.heap.size with
    | free => rfl
    | _ => exact absurd (h.bnd w.heap.size (by rw [hgB]; simp)) (by omega)
  obtain ⟨k1, k2, k3⟩ := h.grow hP.wf hgr .free (.inl rfl)
  have hgg : (fun b => if b = w.heap.size then Own.free else g b) = g := by
    funext b; by_cases hb : b = w.heap.size
    · rw [if_pos hb, hb, hgB]
    · rw [if_neg hb]
  rw [hgg] at k1 k3
  have k2' : ∀ b, g b = .frz → SameBlk w (w.alloc (.cells v.cells ty)) b ∧ g b = .frz := fun b hb => ⟨(k2 b hb).1, hb⟩
  have hav1 : ∀ {av : AV} {y : Value}, AvOk E w g st.rt hold av y → AvOk E (w.alloc (.cells v.cells ty)) g st.rt hold av y := by
    intro av y hy
    have := hy.cut (ks := []) hP.wf k2' (Surv.of (rt' := st.rt) (ks := []) hP.wf h.rts fun r R hR => .keep hR (k3 r))
    rwa [cut_nil] at this
  have hI : Inv E n st a (w.alloc (.cells v.cells ty)) g hold :=
    ⟨h.size, h.defers, fun t => hav1 (h.tms t), fun r R hr => (h.rts r R hr).keep hP.wf (k3 r) k2', fun b hb => by rw [hgr.size]; have := h.bnd b hb; omega, h.kn.step k2'⟩
  have hfo := fldOf_ok hP hst hj1 hs1 (hav1 hav) c1
  have hko := hav1 (h.opd k')
  obtain ⟨⟨fi1, hf1⟩, st1, hK1, hcalls1⟩ := callIn_ok hP hF hI hC hd (vs := [h1, a.eval k']) rfl (fun kk av y q1 q2 => by
    match kk with
    | 0 => simp at q1 q2; subst q1; subst q2; exact hfo
    | 1 => simp at q1 q2; subst q1; subst q2; exact hko
    | kk + 2 => simp at q1) he
  -- the second one, told ahead
  have hf2 : ∃ fi2, E.fn f2 = some fi2 := by
    unfold callIn at hK1
    split at hK1
    · cases hK1
    · rename_i fi2 hf2; exact ⟨fi2, hf2⟩
  obtain ⟨fi2, hf2⟩ := hf2
  have hargs' : c.args = #[.tmp t, k'] := by apply Array.ext'; simpa using hargs
  refine wpOp_enter (f := f) (vs := #[v, a.eval k']) hi hguard ?_ ?_
  · obtain ⟨callee, args, argTypes⟩ := c
    simp only at hcal hargs'
    subst hcal; subst hargs'
    have hvt : a.tmps[t]?.getD undef = v := by rw [← Array.getD_eq_getD_getElem?]; exact hv
    simp [execOp, hop, resolve, Act.eval, Deferred.ofValue, invoke, callFunc, hfn, hname, hbody, hvt]
  refine inl_calls hP hF hfn hbody hib hf1 hf2 hst c1 n1 n2 (hcalls1.mono fun en w2 => ?_)
  rintro ⟨v1, g', hold', rfl, m1, m2, m3⟩
  refine ⟨v1, rfl, ?_, ?_⟩
  · have hkp := (m1.keep w.heap.size (by rw [hgr.size]; omega) (.inl hgB)).1
    have : w2.cell? ⟨w.heap.size, off E fs j2, none⟩ = (w.alloc (.cells v.cells ty)).cell? ⟨w.heap.size, off E fs j2, none⟩ := by simp only [World.cell?, hkp]
    rw [this, hgr.cell, c2]
  have t1 : AvOk E w2 g' st1.rt hold' (st1.tm t) v := by
    have := m3.tms t
    have hne : (a.put (some d) v1).tmps.getD t undef = a.tmps.getD t undef := ev_ne (a := a) (v := v1) htd'
    rw [hne, hv] at this; exact this
  have t2 : AvOk E w2 g' st1.rt hold' (st1.tm d) v1 := by
    have := m3.tms d
    have hse : (a.put (some d) v1).tmps.getD d undef = v1 := ev_self (a := a) (v := v1) h.size hd
    rw [hse] at this; exact this
  have hfo2 := fldOf_ok hP hst hj2 hs2 t1 c2
  obtain ⟨_, st2, hK2, hcalls2⟩ := callIn_ok hP hF m3 hC hd (vs := [h2, v1]) rfl (fun kk av y q1 q2 => by
    match kk with
    | 0 => simp at q1 q2; subst q1; subst q2; exact hfo2
    | 1 => simp at q1 q2; subst q1; subst q2; exact t2
    | kk + 2 => simp at q1) hK1
  refine hcalls2.mono fun en w3 => ?_
  rintro ⟨v2, g'', hold'', rfl, p1, p2, p3⟩
  rw [put_put] at p3
  refine ⟨v2, rfl, v2, rfl, ?_⟩
  rw [hdst]
  exact hK st2 _ w3 hK2 ⟨g'', hold'', (k1.trans m1).trans p1, fun r hr => (p2 r hr).trans (m2 r hr), p3⟩
end
end Go.Proofs.YtfelodpbejdhlaaDoor.Ra
/- The operations of a region, one after the other. -/
namespace Go.Proofs.YtfelodpbejdhlaaDoor.Ra
open Go Go.RowKit

section
variable {P : Program} {E : Env} {n : Nat}

theorem evalOp_ok (hP : PrOk P E) (hF : FnsOk P E) {st : St} {a : Act} {w : World} {g : Gh} {hold : Nat → Place} (h : Inv E n st a w g hold) {fi : Fi} (hnt : fi.ntmps = n) (hn : n ≤ 1000) {C : CallsE} (hC : CallsOk P E C)
    {ops : Array Oper} {i : Nat} {o : Oper} (hi : ops[i]? = some o) {K : St → R} {r : List T} (he : evalOp fi E C ops.toList o st K = some r) {Kn : Act → World → Prop} {Q : Exit → Act → World → Prop}
    (hK : ∀ st' a' w', K st' = some r → After E n w g hold st' a' w' → Kn a' w') : wpOp P ops Q i Kn a w := by
  unfold evalOp at he
  split at he
  · rename_i ty l x k hinl
    exact evalInl_ok hP hF h hnt hC hi hinl he hK
  split at he
  · cases he
  rename_i e hee
  cases hp : e.pre with
  | false => rw [hp] at he; cases he
  | true =>
    rw [hp, cond_true] at he
    split at he
    · rename_i hreq
      exact wpOp_ok hP hF h hnt hn hC hi (fun _ _ h => h) h.opd hee hp (res := []) (by rw [hreq]) fun a' w' ha => hK _ a' w' he ha
    · rename_i f ts hreq
      split at he
      · rename_i res hres
        exact wpOp_ok hP hF h hnt hn hC hi (fun _ _ h => h) h.opd hee hp (res := res) (by rw [hreq]; exact hres) fun a' w' ha => hK _ a' w' he ha
      · cases he

theorem evalOps_ok (hP : PrOk P E) (hF : FnsOk P E) {fi : Fi} (hnt : fi.ntmps = n) (hn : n ≤ 1000) {C : CallsE} (hC : CallsOk P E C) {ops : Array Oper} {K : St → R} {r : List T} {Q : Exit → Act → World → Prop} :
    ∀ (l : List Oper) (i : Nat), (∀ j, l[j]? = ops[i + j]?) → ∀ {st : St} {a : Act} {w : World} {g : Gh} {hold : Nat → Place}, Inv E n st a w g hold → evalOps fi E C ops.toList l st K = some r →
    (∀ st' a' w', K st' = some r → After E n w g hold st' a' w' → Q .normal a' w') → wpOps P ops Q (List.range' i l.length) a w
  | [], i, _, st, a, w, g, hold, h, he, hQ => by
    simp only [List.length_nil, List.range'_zero, wpOps]
    exact hQ st a w he ⟨g, hold, Stp.refl _ _, fun _ _ => rfl, h⟩
  | o :: l, i, hl, st, a, w, g, hold, h, he, hQ => by
    rw [List.length_cons, List.range'_succ, wpOps_cons]
    have hi : ops[i]? = some o := by have := hl 0; simpa using this.symm
    refine evalOp_ok hP hF h hnt hn hC hi he fun st' a' w' he' ⟨g', hold', k1, k2, k3⟩ => ?_
    refine evalOps_ok hP hF hnt hn hC l (i + 1) (fun j => by have := hl (j + 1); rw [show i + 1 + j = i + (j + 1) by omega]; simpa using this) k3 he' ?_
    rintro st2 a2 w2 hk ⟨g2, hold2, m1, m2, m3⟩
    exact hQ st2 a2 w2 hk ⟨g2, hold2, k1.trans m1, k2.trans m2, m3⟩
end
end Go.Proofs.YtfelodpbejdhlaaDoor.Ra
/- Regions of free order: all orders come to the same. -/
namespace Go.Proofs.YtfelodpbejdhlaaDoor.Ra
open Go Go.RowKit

/- ---- weaker values ---- -/
mutual
theorem cut_comm (ks ks' : Ks) : ∀ (a : AV), (a.cut ks).cut ks' = (a.cut ks').cut ks
  | .gd b a => by simp [AV.cut, cut_comm ks ks' a]
  | .pv ty a => by simp [AV.cut, cut_comm ks ks' a]
  | .sref ty r p => by simp only [AV.cut]; cases h : diesS ks r p <;> cases h' : diesS ks' r p <;> simp [AV.cut, h, h']
  | .sub ty r p lo hi => by simp only [AV.cut]; cases h : diesS ks r p <;> cases h' : diesS ks' r p <;> simp [AV.cut, h, h']
  | .pref ty r p => by simp only [AV.cut]; cases h : diesP ks r p <;> cases h' : diesP ks' r p <;> simp [AV.cut, h, h']
  | .agg ty l => by simp [AV.cut, cut_comms ks ks' l]
  | .tup l => by simp [AV.cut, cut_comms ks ks' l]
  | .undef => rfl
  | .val _ _ => rfl
  | .cst _ => rfl
  | .nil _ => rfl
  | .fnc _ => rfl
  | .fptr _ _ => rfl
theorem cut_comms (ks ks' : Ks) : ∀ (l : List AV), AV.cutL ks' (AV.cutL ks l) = AV.cutL ks (AV.cutL ks' l)
  | [] => rfl
  | a :: l => by simp [AV.cutL, cut_comm ks ks' a, cut_comms ks ks' l]
end
mutual
theorem cut_apart {ks : Ks} : ∀ (a : AV), (∀ r ∈ a.refs, r ∉ ks.map (·.1)) → a.cut ks = a
  | .gd b a, h => by simp [AV.cut, cut_apart a (by simpa [AV.refs] using h)]
  | .pv ty a, h => by simp [AV.cut, cut_apart a (by simpa [AV.refs] using h)]
  | .sref ty r p, h => by simp [AV.cut, diesS, assoc_none (h r (by simp [AV.refs]))]
  | .sub ty r p lo hi, h => by simp [AV.cut, diesS, assoc_none (h r (by simp [AV.refs]))]
  | .pref ty r p, h => by simp [AV.cut, diesP, assoc_none (h r (by simp [AV.refs]))]
  | .agg ty l, h => by simp [AV.cut, cut_aparts l (by simpa [AV.refs] using h)]
  | .tup l, h => by simp [AV.cut, cut_aparts l (by simpa [AV.refs] using h)]
  | .undef, _ => rfl
  | .val _ _, _ => rfl
  | .cst _, _ => rfl
  | .nil _, _ => rfl
  | .fnc _, _ => rfl
  | .fptr _ _, _ => rfl
theorem cut_aparts {ks : Ks} : ∀ (l : List AV), (∀ r ∈ AV.refsL l, r ∉ ks.map (·.1)) → AV.cutL ks l = l
  | [], _ => rfl
  | a :: l, h => by
    rw [AV.cutL, cut_apart a (fun r hr => h r (by simp [AV.refsL, hr])), cut_aparts l (fun r hr => h r (by simp [AV.refsL, hr]))]
end
inductive Wk (b : AV) : AV → Prop
  | undef : Wk b .undef
  | refl : Wk b b
  | cut (ks : Ks) {a : AV} : Wk b a → Wk b (a.cut ks)
theorem Wk.trans {a b c : AV} (h : Wk b a) (h' : Wk c b) : Wk c a := by
  induction h with
  | undef => exact .undef
  | refl => exact h'
  | cut ks _ ih => exact .cut ks ih
theorem Wk.mono {a b : AV} (h : Wk b a) (ks : Ks) : Wk (b.cut ks) (a.cut ks) := by
  induction h with
  | undef => exact .undef
  | refl => exact .refl
  | cut ks' _ ih => rw [cut_comm]; exact .cut ks' ih

section
variable {P : Program} {E : Env} {n : Nat}

theorem AvOk.wk (hE : TyWf E) {w : World} {g : Gh} {rt : Nat → Option Rt} {hold : Nat → Place} {a b : AV} {v : Value} (h : Wk b a) (hv : AvOk E w g rt hold b v) : AvOk E w g rt hold a v := by
  induction h with
  | undef => exact .undef
  | refl => exact hv
  | cut ks _ ih =>
    refine ih.cut hE (fun b hb => ⟨SameBlk.refl _ _, hb⟩) fun r R hR => ⟨fun p ty e κ v _ hs hrd _ _ => ⟨R, κ, hR, hs, hrd⟩, fun p ty b o hs _ => ⟨R, hR, hs⟩⟩

/-- One operation of a region of free order, done on what is known of its operands at least. -/
def Fx (fi : Fi) (E : Env) (C : CallsE) (ops : Array Oper) (rws : List RW) (i : Nat) (st st' : St) : Prop :=
  ∃ (o : Oper) (ρ : Operand → AV) (look : Nat → Option Rt) (e : Eff) (res : List T), ops[i]? = some o ∧
    (∀ x, Wk (opd st x) (ρ x) ∧ ∀ r ∈ (ρ x).refs, r ∈ (rws.getD i ([], [])).1) ∧ (∀ t, ρ (.tmp t) ≠ .undef → t ∈ o.looksAt ops) ∧
    (∀ r R, look r = some R → st.rt r = some R ∧ r ∈ (rws.getD i ([], [])).1) ∧ effG fi E ops.toList look ρ o = some e ∧ e.pre = true ∧
    (match e.req with | none => res = [] | some (f, ts) => (bif e.g then C f ts else some []) = some res) ∧ fits (rws.getD i ([], [])) (e.ret res) = true ∧ st' = applyU o.dst (e.ret res) st

theorem applyU_tm {d : Option Nat} {u : Upd} {st : St} (t : Nat) : (applyU d u st).tm t = if d = some t then u.av else (st.tm t).cut u.ks := by
  simp only [applyU]
  have hk : (bif u.ks.isEmpty then st.tm t else (st.tm t).cut u.ks) = (st.tm t).cut u.ks := by
    cases hk : u.ks.isEmpty with
    | true => rw [List.isEmpty_iff.1 hk, cut_nil]; rfl
    | false => rfl
  rw [hk]
  cases d with
  | none => simp
  | some d =>
    simp only [nbeq, Option.some.injEq]
    by_cases h : t = d
    · subst h; simp
    · simp [h, Ne.symm h]
theorem subset_iff {l m : List Nat} : subset l m = true ↔ ∀ r ∈ l, r ∈ m := by
  simp [subset, List.all_eq_true, mem_iff]
theorem apartL_iff {l m : List Nat} : apartL l m = true ↔ ∀ r ∈ l, r ∉ m := by
  unfold apartL
  rw [List.all_eq_true]
  refine forall_congr' fun r => forall_congr' fun _ => ?_
  rw [Bool.not_eq_true', ← Bool.not_eq_true, mem_iff]

theorem Fx.swap {fi : Fi} {C : CallsE} {ops : Array Oper} {rws : List RW} {l i : Nat} {st st1 st2 : St} (h1 : Fx fi E C ops rws l st st1) (h2 : Fx fi E C ops rws i st1 st2)
    (hf : ∀ ol oi, ops[l]? = some ol → ops[i]? = some oi → freeP ops rws l i ol oi = true) : ∃ st1', Fx fi E C ops rws i st st1' ∧ Fx fi E C ops rws l st1' st2 := by
  obtain ⟨ol, ρl, lookl, el, resl, a1, a2, a3, a4, a5, a6, a7, a8, rfl⟩ := h1
  obtain ⟨oi, ρi, looki, ei, resi, b1, b2, b3, b4, b5, b6, b7, b8, rfl⟩ := h2
  have hf := hf ol oi a1 b1
  unfold freeP at hf
  simp only [Bool.and_eq_true, apartL_iff] at hf
  obtain ⟨f1, f2, f3, f4⟩ := hf
  obtain ⟨g1, g2, g3⟩ := Oper.apart_spec f1
  generalize hul : el.ret resl = ul at *
  generalize hui : ei.ret resi = ui at *
  unfold fits at a8 b8
  simp only [Bool.and_eq_true, subset_iff, List.mem_append] at a8 b8
  obtain ⟨p1, p2, p3⟩ := a8
  obtain ⟨q1, q2, q3⟩ := b8
  have hcl : ∀ a : AV, (∀ r ∈ a.refs, r ∈ (rws.getD l ([], [])).1 ∨ r ∈ (rws.getD l ([], [])).2) → a.cut ui.ks = a := by
    intro a ha
    refine cut_apart a fun r hr hk => ?_
    rcases ha r hr with h | h
    · exact f3 r (q2 r hk) h
    · exact f4 r h (q2 r hk)
  have hci : ∀ a : AV, (∀ r ∈ a.refs, r ∈ (rws.getD i ([], [])).1 ∨ r ∈ (rws.getD i ([], [])).2) → a.cut ul.ks = a := by
    intro a ha
    refine cut_apart a fun r hr hk => ?_
    rcases ha r hr with h | h
    · exact f2 r (p2 r hk) h
    · exact f4 r (p2 r hk) h
  refine ⟨applyU oi.dst ui st, ⟨oi, ρi, looki, ei, resi, b1, fun x => ⟨?_, (b2 x).2⟩, b3, fun r R hr => ?_, b5, b6, b7, ?_, by rw [hui]⟩, ol, ρl, lookl, el, resl, a1, fun x => ⟨?_, (a2 x).2⟩, a3, fun r R hr => ?_, a5, a6, a7, ?_, ?_⟩
  · cases x with
    | tmp t =>
      have := (b2 (.tmp t)).1
      by_cases hu : ρi (.tmp t) = .undef
      · rw [hu]; exact .undef
      · have ht := b3 t hu
        simp only [opd] at this ⊢
        rw [applyU_tm, if_neg (fun hd => g1 t hd ht)] at this
        exact this.trans (.cut _ .refl)
    | const v => exact (b2 (.const v)).1
    | func f => exact (b2 (.func f)).1
    | global g => exact (b2 (.global g)).1
  · obtain ⟨h1, h2⟩ := b4 r R hr
    refine ⟨?_, h2⟩
    simp only [applyU] at h1
    rw [assoc_none (fun hk => f2 r (p1 r hk) h2)] at h1
    exact h1
  · rw [hui]; unfold fits; simp only [Bool.and_eq_true, subset_iff, List.mem_append]; exact ⟨q1, q2, q3⟩
  · cases x with
    | tmp t =>
      have := (a2 (.tmp t)).1
      by_cases hu : ρl (.tmp t) = .undef
      · rw [hu]; exact .undef
      · have ht := a3 t hu
        simp only [opd] at this ⊢
        rw [applyU_tm, if_neg (fun hd => g3 t hd ht)]
        rw [← hcl (ρl (.tmp t)) (fun r hr => .inl ((a2 (.tmp t)).2 r hr))]
        exact this.mono _
    | const v => exact (a2 (.const v)).1
    | func f => exact (a2 (.func f)).1
    | global g => exact (a2 (.global g)).1
  · obtain ⟨h1, h2⟩ := a4 r R hr
    refine ⟨?_, h2⟩
    simp only [applyU]
    rw [assoc_none (fun hk => f3 r (q1 r hk) h2)]
    exact h1
  · rw [hul]; unfold fits; simp only [Bool.and_eq_true, subset_iff, List.mem_append]; exact ⟨p1, p2, p3⟩
  · rw [hul]
    have ext : ∀ {x y : St}, (∀ t, x.tm t = y.tm t) → (∀ r, x.rt r = y.rt r) → x = y := by
      intro x y h1 h2; cases x; cases y; simp only [St.mk.injEq]; exact ⟨funext h1, funext h2⟩
    refine ext (fun t => ?_) fun r => ?_
    · rw [applyU_tm, applyU_tm, applyU_tm, applyU_tm]
      by_cases h1 : oi.dst = some t
      · rw [if_pos h1, if_neg (fun hd => g2 t hd h1), if_pos h1, hci _ q3]
      · rw [if_neg h1, if_neg h1]
        by_cases h2 : ol.dst = some t
        · rw [if_pos h2, if_pos h2, hcl _ p3]
        · rw [if_neg h2, if_neg h2, cut_comm]
    · simp only [applyU]
      by_cases h1 : r ∈ ui.wr.map (·.1)
      · rw [assoc_none (l := ul.wr) (fun hk => f4 r (p1 r hk) (q1 r h1))]
      · rw [assoc_none h1]

inductive FxL (fi : Fi) (E : Env) (C : CallsE) (ops : Array Oper) (rws : List RW) : List Nat → St → St → Prop
  | nil {st} : FxL fi E C ops rws [] st st
  | cons {i l st st1 st2} : Fx fi E C ops rws i st st1 → FxL fi E C ops rws l st1 st2 → FxL fi E C ops rws (i :: l) st st2
theorem FxL.front {fi : Fi} {C : CallsE} {ops : Array Oper} {rws : List RW} {i : Nat} {l2 : List Nat} : ∀ {l1 : List Nat} {st st' : St}, FxL fi E C ops rws (l1 ++ i :: l2) st st' →
    (∀ l ∈ l1, ∀ ol oi, ops[l]? = some ol → ops[i]? = some oi → freeP ops rws l i ol oi = true) → ∃ st1, Fx fi E C ops rws i st st1 ∧ FxL fi E C ops rws (l1 ++ l2) st1 st'
  | [], st, st', h, _ => by
    cases h with
    | cons h1 h2 => exact ⟨_, h1, h2⟩
  | l :: l1, st, st', h, hf => by
    cases h with
    | cons h1 h2 =>
      obtain ⟨sta, k1, k2⟩ := FxL.front h2 fun l hl => hf l (by simp [hl])
      obtain ⟨stb, m1, m2⟩ := h1.swap k1 (hf l (by simp))
      exact ⟨stb, m1, .cons m2 k2⟩

theorem fx_ok (hP : PrOk P E) (hF : FnsOk P E) {fi : Fi} (hnt : fi.ntmps = n) (hn : n ≤ 1000) {C : CallsE} (hC : CallsOk P E C) {ops : Array Oper} {rws : List RW} {i : Nat} {st st' : St} (hx : Fx fi E C ops rws i st st')
    {a : Act} {w : World} {g : Gh} {hold : Nat → Place} (h : Inv E n st a w g hold) {Kn : Act → World → Prop} {Q : Exit → Act → World → Prop} (hK : ∀ a' w', After E n w g hold st' a' w' → Kn a' w') : wpOp P ops Q i Kn a w := by
  obtain ⟨o, ρ, look, e, res, a1, a2, a3, a4, a5, a6, a7, a8, rfl⟩ := hx
  exact wpOp_ok hP hF h hnt hn hC a1 (fun r R hr => (a4 r R hr).1) (fun x => (h.opd x).wk hP.wf (a2 x).1) a5 a6 a7 hK

/- ---- what must come ahead ---- -/
theorem foldl_bits (f : Nat → Nat) : ∀ (ks : List Nat) (s l : Nat), (ks.foldl (fun s k => s ||| (2 ^ k ||| f k)) s).testBit l = true → s.testBit l = true ∨ ∃ k ∈ ks, l = k ∨ (f k).testBit l = true
  | [], s, l, h => .inl h
  | k :: ks, s, l, h => by
    rw [List.foldl_cons] at h
    rcases foldl_bits f ks _ l h with h | ⟨k', h1, h2⟩
    · rw [Nat.testBit_or, Nat.testBit_or, Bool.or_eq_true, Bool.or_eq_true, Nat.testBit_two_pow] at h
      rcases h with h | h | h
      · exact .inl h
      · exact .inr ⟨k, by simp, .inl (by simpa [eq_comm] using h)⟩
      · exact .inr ⟨k, by simp, .inr h⟩
    · exact .inr ⟨k', by simp [h1], h2⟩
theorem masks_pre : ∀ (l : List Oper) (acc : List Nat), acc <+: masks acc l
  | [], acc => List.prefix_rfl
  | o :: l, acc => (List.prefix_append acc _).trans (masks_pre l _)
theorem masks_spec : ∀ (l : List Oper) (acc : List Nat) (j : Nat) (o : Oper), l[j]? = some o → ∀ b, ((masks acc l).getD (acc.length + j) 0).testBit b = true →
    ∃ k ∈ bindL o, b = k ∨ ((masks acc l).getD k 0).testBit b = true
  | [], acc, j, o, h, b, hb => by simp at h
  | o' :: l, acc, j, o, h, b, hb => by
    cases j with
    | zero =>
      simp only [List.getElem?_cons_zero, Option.some.injEq] at h; subst h
      simp only [masks] at hb ⊢
      have hp := masks_pre l (acc ++ [(bindL o').foldl (fun s k => s ||| (2 ^ k ||| acc.getD k 0)) 0])
      obtain ⟨tl, htl⟩ := hp
      rw [← htl] at hb ⊢
      have hget : (acc ++ [(bindL o').foldl (fun s k => s ||| (2 ^ k ||| acc.getD k 0)) 0] ++ tl).getD (acc.length + 0) 0 = (bindL o').foldl (fun s k => s ||| (2 ^ k ||| acc.getD k 0)) 0 := by
        simp [List.getD_eq_getElem?_getD]
      rw [hget] at hb
      rcases foldl_bits _ _ _ _ hb with h0 | ⟨k, h1, h2⟩
      · simp at h0
      · refine ⟨k, h1, h2.imp id fun h => ?_⟩
        by_cases hk : k < acc.length
        · simpa [List.getD_eq_getElem?_getD, List.getElem?_append_left, hk] using h
        · simp [List.getD_eq_getElem?_getD, List.getElem?_eq_none (Nat.le_of_not_lt hk)] at h
    | succ j =>
      simp only [masks] at hb ⊢
      have := masks_spec l (acc ++ [(bindL o').foldl (fun s k => s ||| (2 ^ k ||| acc.getD k 0)) 0]) j o (by simpa using h) b
        (by rw [List.length_append, List.length_singleton, show acc.length + 1 + j = acc.length + (j + 1) by omega]; exact hb)
      exact this

def Shut (ops : Array Oper) (listed : Array Bool) : Prop := ∀ k o, ops[k]? = some o → listed.getD k false = true → ∀ e ∈ bindL o, listed.getD e false = true
theorem shut_masks {ops : Array Oper} {listed : Array Bool} (hs : Shut ops listed) (hlt : ∀ (i : Nat) (o : Oper), ops[i]? = some o → ∀ k ∈ bindL o, k < i) :
    ∀ (i : Nat) (o : Oper), ops[i]? = some o → (∀ k ∈ bindL o, listed.getD k false = true) → ∀ b, ((masks [] ops.toList).getD i 0).testBit b = true → listed.getD b false = true := by
  intro i
  induction i using Nat.strongRecOn with
  | ind i ih =>
    intro o ho hk b hb
    obtain ⟨k, h1, h2⟩ := masks_spec ops.toList [] i o (by simpa using ho) b (by simpa using hb)
    rcases h2 with rfl | h2
    · exact hk _ h1
    · have hki := hlt i o ho k h1
      have hi : i < ops.size := (Array.getElem?_eq_some_iff.1 ho).1
      have hok : ops[k]? = some (ops[k]'(by omega)) := Array.getElem?_eq_getElem _
      exact ih k hki _ hok (hs k _ hok (hk k h1)) b h2

theorem ready_iff {ops : Array Oper} {listed : Array Bool} {i : Nat} : i ∈ Region.ready .any ops listed ↔ i < ops.size ∧ listed.getD i true = false ∧ ∃ o, ops[i]? = some o ∧ ∀ k ∈ bindL o, listed.getD k false = true := by
  unfold Region.ready bindL
  rw [List.mem_filter, List.mem_range, Bool.and_eq_true, Bool.not_eq_true']
  refine and_congr_right fun hi => and_congr_right fun _ => ?_
  rw [Array.getElem?_eq_getElem hi]
  simp only [Option.map_some, Option.getD_some, Option.some.injEq, exists_eq_left']
  rw [Array.all_eq_true_iff_forall_mem]
  simp only [List.mem_map, List.mem_filter, Array.mem_toList_iff]
  constructor
  · rintro h k ⟨e, ⟨h1, h2⟩, rfl⟩
    have := h e h1
    simpa [h2] using this
  · intro h e he
    cases hb : Region.binds .any e with
    | false => simp
    | true => simpa [hb] using h e.on ⟨e, ⟨he, hb⟩, rfl⟩

def remL (ops : Array Oper) (listed : Array Bool) : List Nat := (List.range ops.size).filter fun i => !listed.getD i true

theorem filter_split {l : List Nat} (hn : l.Nodup) {l1 l2 : List Nat} {i : Nat} (h : l = l1 ++ i :: l2) : l.filter (fun j => decide (j ≠ i)) = l1 ++ l2 := by
  subst h
  rw [List.nodup_append] at hn
  obtain ⟨h1, h2, h3⟩ := hn
  rw [List.nodup_cons] at h2
  rw [List.filter_append, List.filter_cons]
  simp only [ne_eq, not_true_eq_false, decide_false, Bool.false_eq_true, if_false]
  rw [List.filter_eq_self.2, List.filter_eq_self.2]
  · intro x hx; simp only [decide_eq_true_eq]; rintro rfl; exact h2.1 hx
  · intro x hx; simp only [decide_eq_true_eq]; rintro rfl; exact h3 x hx x (by simp) rfl

theorem any_ok (hP : PrOk P E) (hF : FnsOk P E) {fi : Fi} (hnt : fi.ntmps = n) (hn : n ≤ 1000) {C : CallsE} (hC : CallsOk P E C) {ops : Array Oper} {rws : List RW} (hdo : drawOk ops rws = true) {Q : Exit → Act → World → Prop} {st' : St} :
    ∀ (fuel : Nat) (listed : Array Bool) {st : St} {a : Act} {w : World} {g : Gh} {hold : Nat → Place}, listed.size = ops.size → Shut ops listed → (remL ops listed).length ≤ fuel → FxL fi E C ops rws (remL ops listed) st st' →
      Inv E n st a w g hold → (∀ a' w', After E n w g hold st' a' w' → Q .normal a' w') → wpAny P .any ops Q fuel listed a w := by
  have hdo' : ∀ (i : Nat) (oi : Oper), ops[i]? = some oi → (∀ k ∈ bindL oi, k < i) ∧ ∀ l, l < i → ((masks [] ops.toList).getD i 0).testBit l = true ∨ ∀ ol, ops[l]? = some ol → freeP ops rws l i ol oi = true := by
    intro i oi ho
    have hi : i < ops.size := (Array.getElem?_eq_some_iff.1 ho).1
    unfold drawOk at hdo
    rw [List.all_eq_true] at hdo
    have := hdo i (List.mem_range.2 hi)
    rw [ho] at this
    simp only [Bool.and_eq_true, List.all_eq_true, decide_eq_true_eq, Bool.or_eq_true, List.mem_range] at this
    refine ⟨this.1, fun l hl => (this.2 l hl).imp id fun h ol hol => ?_⟩
    rw [hol] at h; exact h
  have nil_of : ∀ (listed : Array Bool), listed.size = ops.size → Region.ready .any ops listed = [] → remL ops listed = [] := by
    intro listed hsz hr
    cases hrem : remL ops listed with
    | nil => rfl
    | cons i l =>
      exfalso
      have hmin : ∀ j, j < ops.size → listed.getD j true = false → i ≤ j := by
        intro j hj hjl
        have hjm : j ∈ remL ops listed := by unfold remL; rw [List.mem_filter]; exact ⟨List.mem_range.2 hj, by rw [hjl]; rfl⟩
        have hsort : (remL ops listed).Pairwise (· < ·) := List.pairwise_lt_range.filter _
        rw [hrem] at hjm hsort
        rcases List.mem_cons.1 hjm with rfl | hjm
        · exact Nat.le_refl _
        · exact Nat.le_of_lt ((List.pairwise_cons.1 hsort).1 j hjm)
      have him : i ∈ remL ops listed := by rw [hrem]; simp
      unfold remL at him
      rw [List.mem_filter, List.mem_range, Bool.not_eq_true'] at him
      have : i ∈ Region.ready .any ops listed := by
        rw [ready_iff]
        refine ⟨him.1, him.2, _, Array.getElem?_eq_getElem him.1, fun k hk => ?_⟩
        have hki := (hdo' i _ (Array.getElem?_eq_getElem him.1)).1 k hk
        have hks : k < listed.size := by rw [hsz]; omega
        cases hv : listed.getD k false with
        | true => rfl
        | false =>
          have : listed.getD k true = false := by
            rw [Array.getD_eq_getD_getElem?, Array.getElem?_eq_getElem hks] at hv ⊢; simpa using hv
          have := hmin k (by omega) this
          omega
      rw [hr] at this; cases this
  intro fuel
  induction fuel with
  | zero =>
    intro listed st a w g hold hsz hs hlen hx hI hQ
    have hrem : remL ops listed = [] := List.length_eq_zero_iff.1 (by omega)
    rw [hrem] at hx
    cases hx
    refine ⟨?_, hQ a w ⟨g, hold, Stp.refl _ _, fun _ _ => rfl, hI⟩⟩
    cases hr : Region.ready .any ops listed with
    | nil => rfl
    | cons i l =>
      have : i ∈ Region.ready .any ops listed := by rw [hr]; simp
      obtain ⟨h1, h2, _⟩ := ready_iff.1 this
      have : i ∈ remL ops listed := by unfold remL; rw [List.mem_filter]; exact ⟨List.mem_range.2 h1, by rw [h2]; rfl⟩
      rw [hrem] at this; cases this
  | succ fuel ih =>
    intro listed st a w g hold hsz hs hlen hx hI hQ
    refine ⟨fun hr => ?_, fun i hi => ?_⟩
    · rw [nil_of listed hsz hr] at hx
      cases hx
      exact hQ a w ⟨g, hold, Stp.refl _ _, fun _ _ => rfl, hI⟩
    · obtain ⟨h1, h2, o, h3, h4⟩ := ready_iff.1 hi
      have him : i ∈ remL ops listed := by unfold remL; rw [List.mem_filter]; exact ⟨List.mem_range.2 h1, by rw [h2]; rfl⟩
      obtain ⟨l1, l2, hsplit⟩ := List.append_of_mem him
      have hnod : (remL ops listed).Nodup := List.nodup_range.filter _
      have hsort : (remL ops listed).Pairwise (· < ·) := List.pairwise_lt_range.filter _
      have hfree : ∀ l ∈ l1, ∀ ol oi, ops[l]? = some ol → ops[i]? = some oi → freeP ops rws l i ol oi = true := by
        intro l hl ol oi hol hoi
        have hli : l < i := by
          rw [hsplit, List.pairwise_append] at hsort
          exact hsort.2.2 l hl i (by simp)
        rcases (hdo' i oi hoi).2 l hli with hb | hb
        · exfalso
          rw [h3] at hoi; cases hoi
          have := shut_masks hs (fun i o ho => (hdo' i o ho).1) i o h3 h4 l hb
          have hlm : l ∈ remL ops listed := by rw [hsplit]; simp [hl]
          unfold remL at hlm
          rw [List.mem_filter, List.mem_range, Bool.not_eq_true'] at hlm
          rw [Array.getD_eq_getD_getElem?, Array.getElem?_eq_getElem (by omega)] at this hlm
          simp_all
        · exact hb ol hol
      rw [hsplit] at hx
      obtain ⟨st1, x1, x2⟩ := hx.front hfree
      refine fx_ok hP hF hnt hn hC x1 hI fun a' w' ha => ?_
      obtain ⟨g', hold', k1, k2, k3⟩ := ha
      have hgd : ∀ j d, (listed.setIfInBounds i true).getD j d = if j = i then true else listed.getD j d := by
        intro j d
        simp only [Array.getD_eq_getD_getElem?, Array.getElem?_setIfInBounds]
        by_cases hji : i = j
        · subst hji; simp [hsz, h1]
        · simp [hji, Ne.symm hji]
      have hrem' : remL ops (listed.setIfInBounds i true) = l1 ++ l2 := by
        rw [← filter_split hnod hsplit]
        unfold remL
        rw [List.filter_filter]
        congr 1
        funext j
        rw [hgd]
        by_cases hji : j = i
        · simp [hji]
        · simp [hji]
      refine ih _ (by simpa using hsz) (fun k o' hk hl e he => ?_) ?_ (by rw [hrem']; exact x2) k3 ?_
      · rw [hgd] at hl ⊢
        split
        · rfl
        · split at hl
          · rename_i hki; subst hki
            rw [h3] at hk; cases hk
            exact h4 e he
          · exact hs k o' hk hl e he
      · rw [hrem']
        rw [hsplit] at hlen
        simp only [List.length_append, List.length_cons] at hlen ⊢
        omega
      · rintro a2 w2 ⟨g2, hold2, m1, m2, m3⟩
        exact hQ a2 w2 ⟨g2, hold2, k1.trans m1, k2.trans m2, m3⟩

theorem evalOpsD_fx {fi : Fi} {C : CallsE} {ops : Array Oper} {rws : List RW} {K : St → R} {r : List T} : ∀ (l : List Oper) (i : Nat), (∀ j, l[j]? = ops[i + j]?) → ∀ {st : St}, evalOpsD fi E C ops rws i l st K = some r →
    ∃ st', FxL fi E C ops rws (List.range' i l.length) st st' ∧ K st' = some r
  | [], i, _, st, h => ⟨st, .nil, h⟩
  | o :: l, i, hl, st, h => by
    have hi : ops[i]? = some o := by have := hl 0; simpa using this.symm
    simp only [evalOpsD, evalOpD] at h
    split at h
    · cases h
    rename_i e hee
    cases hp : e.pre with
    | false => rw [hp] at h; cases h
    | true =>
      rw [hp, cond_true] at h
      have fin : ∀ res, (match e.req with | none => res = [] | some (f, ts) => (bif e.g then C f ts else some []) = some res) →
          (bif fits (rws.getD i ([], [])) (e.ret res) then evalOpsD fi E C ops rws (i + 1) l (applyU o.dst (e.ret res) st) K else none) = some r →
          ∃ st', FxL fi E C ops rws (List.range' i (o :: l).length) st st' ∧ K st' = some r := by
        intro res hres hk
        cases hft : fits (rws.getD i ([], [])) (e.ret res) with
        | false => rw [hft] at hk; cases hk
        | true =>
          rw [hft, cond_true] at hk
          obtain ⟨st', k1, k2⟩ := evalOpsD_fx l (i + 1) (fun j => by have := hl (j + 1); rw [show i + 1 + j = i + (j + 1) by omega]; simpa using this) hk
          refine ⟨st', ?_, k2⟩
          rw [List.length_cons, List.range'_succ]
          refine .cons ⟨o, _, _, e, res, hi, fun x => ?_, fun t ht => ?_, fun r R hr => ?_, hee, hp, hres, hft, rfl⟩ k1
          · cases x with
            | tmp t =>
              simp only [narrow, opd]
              cases hc : mem t (o.looksAt ops) && subset (st.tm t).refs (rws.getD i ([], [])).1 with
              | false => exact ⟨.undef, fun r hr => by simp [AV.refs] at hr⟩
              | true =>
                simp only [Bool.and_eq_true, subset_iff] at hc
                exact ⟨.refl, hc.2⟩
            | const v => exact ⟨.refl, fun r hr => by simp [narrow, AV.refs] at hr⟩
            | func f => exact ⟨.refl, fun r hr => by simp [narrow, AV.refs] at hr⟩
            | global g => exact ⟨.refl, fun r hr => by simp [narrow, AV.refs] at hr⟩
          · simp only [narrow] at ht
            cases hc : mem t (o.looksAt ops) && subset (st.tm t).refs (rws.getD i ([], [])).1 with
            | false => rw [hc] at ht; exact absurd rfl ht
            | true => simp only [Bool.and_eq_true] at hc; exact mem_iff.1 hc.1
          · unfold narrowL at hr
            cases hm : mem r (rws.getD i ([], [])).1 with
            | false => rw [hm] at hr; cases hr
            | true => rw [hm] at hr; exact ⟨hr, mem_iff.1 hm⟩
      split at h
      · rename_i hreq
        exact fin [] (by rw [hreq]) h
      · rename_i f ts hreq
        split at h
        · rename_i res hres
          exact fin res (by rw [hreq]; exact hres) h
        · cases h

theorem draw_ok (hP : PrOk P E) (hF : FnsOk P E) {fi : Fi} (hnt : fi.ntmps = n) (hn : n ≤ 1000) {C : CallsE} (hC : CallsOk P E C) (hmix : P.follows .mixedOrders = true) {id : Nat} {ops : Array Oper} {rws : List RW}
    (hdo : drawOk ops rws = true) {st : St} {a : Act} {w : World} {g : Gh} {hold : Nat → Place} (h : Inv E n st a w g hold) {K : St → R} {r : List T} (he : evalOpsD fi E C ops rws 0 ops.toList st K = some r)
    {Q : Exit → Act → World → Prop} (hQ : ∀ st' a' w', K st' = some r → After E n w g hold st' a' w' → Q .normal a' w') : (Code.region id ops true).wp P Q a w := by
  obtain ⟨st', h1, h2⟩ := evalOpsD_fx ops.toList 0 (fun j => by simp) he
  refine wp_region_any hmix ?_
  have hI : Inv E n st a { w with drawn := w.drawn + 1 } g hold := by
    refine ⟨h.size, h.defers, fun t => ?_, fun r R hr => ?_, h.bnd, h.kn.step fun b hb => ⟨⟨fun _ => rfl, fun _ h => h⟩, hb⟩⟩
    · have := (h.tms t).cut (ks := []) (w := w) (w' := { w with drawn := w.drawn + 1 }) (g' := g) (rt' := st.rt) (hold' := hold) hP.wf (fun b hb => ⟨⟨fun _ => rfl, fun _ h => h⟩, hb⟩)
        (Surv.of (w := w) (g := g) hP.wf h.rts fun r R hR => .keep hR ⟨rfl, fun b _ => ⟨⟨fun _ => rfl, fun _ h => h⟩, rfl⟩⟩)
      rwa [cut_nil] at this
    · exact (h.rts r R hr).keep hP.wf ⟨rfl, fun b _ => ⟨⟨fun _ => rfl, fun _ h => h⟩, rfl⟩⟩ fun b hb => ⟨⟨fun _ => rfl, fun _ h => h⟩, hb⟩
  have hrem : remL ops (Array.replicate ops.size false) = List.range ops.size := by
    unfold remL
    rw [List.filter_eq_self]
    intro i hi
    rw [List.mem_range] at hi
    simp [Array.getD_eq_getD_getElem?, hi]
  refine any_ok hP hF hnt hn hC hdo ops.size _ (by simp) (fun k o hk hl => ?_) (by rw [hrem]; simp) (by rw [hrem, List.range_eq_range']; simpa using h1) hI fun a' w' ha => hQ st' a' w' h2 ?_
  · rw [Array.getD_eq_getD_getElem?] at hl
    by_cases hkk : k < ops.size <;> simp [hkk] at hl
  · obtain ⟨g', hold', k1, k2, k3⟩ := ha
    exact ⟨g', hold', (Stp.drew w g).trans k1, k2, k3⟩
end
end Go.Proofs.YtfelodpbejdhlaaDoor.Ra
/- What is forgotten at the head of a loop. -/
namespace Go.Proofs.YtfelodpbejdhlaaDoor.Ra
open Go Go.RowKit

section
variable {E : Env} {n : Nat} {w : World} {g : Gh} {hold : Nat → Place}

/-- What a value names is all that it leans on. -/
theorem AvOk.less {rt rt' : Nat → Option Rt} {a : AV} {v : Value} (h : AvOk E w g rt hold a v) : (∀ r ∈ a.refs, rt' r = rt r) → AvOk E w g rt' hold a v := by
  induction h with
  | undef => intro _; exact .undef
  | val h1 h2 => intro _; exact .val h1 h2
  | cst => intro _; exact .cst
  | nil h => intro _; exact .nil h
  | fnc => intro _; exact .fnc
  | gd _ h2 ih => intro hr; exact .gd (fun hb => ih hb (by simpa [AV.refs] using hr)) h2
  | sref h1 h2 h3 h4 => intro hr; exact .sref (by rw [hr _ (by simp [AV.refs])]; exact h1) h2 h3 h4
  | sub h1 h2 h3 h4 h5 h6 h7 h8 h9 => intro hr; exact .sub (by rw [hr _ (by simp [AV.refs])]; exact h1) h2 h3 h4 h5 h6 h7 h8 h9
  | pref h1 h2 => intro hr; exact .pref (by rw [hr _ (by simp [AV.refs])]; exact h1) h2
  | fptr h1 h2 h3 => intro _; exact .fptr h1 h2 h3
  | pv _ h2 h3 h4 ih => intro hr; exact .pv (ih (by simpa [AV.refs] using hr)) h2 h3 h4
  | agg h1 h2 h3 h4 h5 ih =>
    intro hr
    have mem : ∀ {l : List AV} {j : Nat} {a : AV}, l[j]? = some a → ∀ r ∈ a.refs, r ∈ AV.refsL l := by
      intro l
      induction l with
      | nil => intro j a h; simp at h
      | cons x l ihl => intro j a h r hr; cases j with
        | zero => simp at h; subst h; simp [AV.refsL, hr]
        | succ j => simp only [AV.refsL, List.mem_append]; exact .inr (ihl (by simpa using h) r hr)
    exact .agg h1 h2 h3 (fun j a v ha hv => ih j a v ha hv fun r hra => hr r (by simp only [AV.refs]; exact mem ha r hra)) h5
  | tup h1 h2 ih =>
    intro hr
    have mem : ∀ {l : List AV} {j : Nat} {a : AV}, l[j]? = some a → ∀ r ∈ a.refs, r ∈ AV.refsL l := by
      intro l
      induction l with
      | nil => intro j a h; simp at h
      | cons x l ihl => intro j a h r hr; cases j with
        | zero => simp at h; subst h; simp [AV.refsL, hr]
        | succ j => simp only [AV.refsL, List.mem_append]; exact .inr (ihl (by simpa using h) r hr)
    exact .tup h1 (fun j a v ha hv => ih j a v ha hv fun r hra => hr r (by simp only [AV.refs]; exact mem ha r hra))

theorem assoc_filterMap (f : Nat → Option Rt) : ∀ (l : List Nat) (r : Nat), assoc (l.filterMap fun r => (f r).map fun R => (r, R)) r = if r ∈ l then f r else none
  | [], r => by simp [assoc]
  | k :: l, r => by
    simp only [List.filterMap_cons]
    cases hk : f k with
    | none =>
      simp only [Option.map_none]
      rw [assoc_filterMap f l r]
      by_cases h : r = k
      · subst h; simp [hk]
      · simp [h]
    | some R =>
      simp only [Option.map_some, assoc, nbeq]
      rw [assoc_filterMap f l r]
      by_cases h : k = r
      · subst h; simp [hk]
      · simp [h, Ne.symm h]

theorem Inv.canon {st : St} {a : Act} (h : Inv E n st a w g hold) (ks : List Nat) : Inv E n (lookCS (canon ks st)) a w g hold := by
  have hrt : ∀ r, (lookCS (Ra.canon ks st)).rt r = if r ∈ (ks.flatMap fun t => (st.tm t).refs).eraseDups then st.rt r else none := by
    intro r; simp only [lookCS, Ra.canon]; exact assoc_filterMap st.rt _ r
  have htm : ∀ t, (lookCS (Ra.canon ks st)).tm t = if t ∈ ks then st.tm t else .undef := by
    intro t; simp only [lookCS, Ra.canon]; rw [assoc_map_fn st.tm ks t]; split <;> rfl
  refine ⟨h.size, h.defers, fun t => ?_, fun r R hr => ?_, h.bnd, h.kn⟩
  · rw [htm]
    by_cases ht : t ∈ ks
    · rw [if_pos ht]
      refine (h.tms t).less fun r hr => ?_
      rw [hrt, if_pos (by rw [List.mem_eraseDups]; exact List.mem_flatMap.2 ⟨t, ht, hr⟩)]
    · rw [if_neg ht]; exact .undef
  · rw [hrt] at hr
    split at hr
    · exact h.rts r R hr
    · cases hr
end
end Go.Proofs.YtfelodpbejdhlaaDoor.Ra
/- The code between heads. -/
namespace Go.Proofs.YtfelodpbejdhlaaDoor.Ra
open Go Go.RowKit

section
variable {P : Program} {E : Env} {n : Nat}

/-- From here the function comes to its end, with this result. -/
def Goal (P : Program) (E : Env) (n : Nat) (fi : Fi) (r : List T) (todo : List Item) (a : Act) (w : World) (g : Gh) (hold : Nat → Place) : Prop :=
  ∀ (b : Frame) (cs : List Frame), ∃ a' w' todo' st', Steps P (lone (b.at a todo) cs w) (lone { b.at a' todo' with mode := .returning } cs w') ∧ finish fi E st' = some r ∧ After E n w g hold st' a' w'
def HOk (P : Program) (E : Env) (n : Nat) (fi : Fi) (H : List Item → CS → R) : Prop :=
  ∀ body k cs r, H (.inLoop body :: k) cs = some r → ∀ a w g hold, Inv E n (lookCS cs) a w g hold → Goal P E n fi r (.code body :: .inLoop body :: k) a w g hold

theorem Goal.step {fi : Fi} {r : List T} {todo todo' : List Item} {a : Act} {w : World} {g : Gh} {hold : Nat → Place} (h : Goal P E n fi r todo' a w g hold)
    (hs : ∀ (b : Frame) (cs : List Frame), step P (lone (b.at a todo) cs w) = .next (lone (b.at a todo') cs w)) : Goal P E n fi r todo a w g hold := by
  intro b cs
  obtain ⟨a', w', t', st', s, h1, h2⟩ := h b cs
  exact ⟨a', w', t', st', .head (hs b cs) s, h1, h2⟩

theorem ex_ok (hP : PrOk P E) (hF : FnsOk P E) {fi : Fi} (hnt : fi.ntmps = n) (hn : n ≤ 1000) {C : CallsE} (hC : CallsOk P E C) {H : List Item → CS → R} (hH : HOk P E n fi H) (hmix : P.follows .mixedOrders = true) :
    ∀ (m : Nat) (todo : List Item) (st : St) (r : List T), ex fi E H C m todo st = some r → ∀ {a : Act} {w : World} {g : Gh} {hold : Nat → Place}, Inv E n st a w g hold → Goal P E n fi r todo a w g hold := by
  intro m
  induction m with
  | zero => intro todo st r h; simp [ex] at h
  | succ m ih =>
    intro todo st r h a w g hold hI
    unfold ex at h
    split at h
    · intro b cs; exact ⟨a, w, _, st, .one step_end, h, g, hold, Stp.refl _ _, fun _ _ => rfl, hI⟩
    · intro b cs; exact ⟨a, w, _, st, .one step_ret, h, g, hold, Stp.refl _ _, fun _ _ => rfl, hI⟩
    · exact (ih _ _ _ h hI).step fun b cs => step_skip
    · exact (ih _ _ _ h hI).step fun b cs => step_label
    · exact (ih _ _ _ h hI).step fun b cs => step_inBlock
    · exact (ih _ _ _ h hI).step fun b cs => step_lone_go (by simp [stepG, stepG.exec, Frame.at])
    · exact (ih _ _ _ h hI).step fun b cs => step_lone_go (by simp [stepG, stepG.exec, Frame.at])
    · exact (ih _ _ _ h hI).step fun b cs => step_seq
    · rename_i c x y k
      have hav := hI.opd c
      generalize hst : strip (opd st c) = sv at h
      have go : ∀ {t : Bool} {bb : Bool}, a.eval c = .bool t → (bif t then ex fi E H C m (.code x :: k) st else ex fi E H C m (.code y :: k) st) = some r → Goal P E n fi r (.code (.cond c x y) :: k) a w g hold := by
        intro t bb hv hr
        cases t with
        | true => exact (ih _ _ _ (by simpa using hr) hI).step fun b cs => step_cond hv
        | false => exact (ih _ _ _ (by simpa using hr) hI).step fun b cs => step_cond hv
      split at h
      · rename_i bb ty v
        cases hbt : boolTy E ty with
        | false => rw [hbt] at h; cases h
        | true =>
          rw [hbt, cond_true] at h
          cases bb with
          | false => cases h
          | true =>
            have h1 := strip_ok hav (by rw [hst])
            rw [hst] at h1
            have hval := vt_bool hP.wf (boolTy_ok hbt) (show vt E ty (.val ty v) = some v by simp [vt, sn]) h1
            exact go (bb := true) hval h
      · rename_i bb v
        cases bb with
        | false => cases h
        | true =>
          have h1 := strip_ok hav (by rw [hst])
          rw [hst] at h1
          have hval : a.eval c = .bool v := by
            generalize a.eval c = vx at h1
            cases h1; rfl
          exact go (bb := true) hval h
      · cases h
    · exact (ih _ _ _ h hI).step fun b cs => step_block
    · exact (hH _ _ _ _ h a w g hold (hI.canon _)).step fun b cs => step_loop
    · exact (hH _ _ _ _ h a w g hold (hI.canon _)).step fun b cs => step_inLoop
    · split at h
      · rename_i hk; exact (ih _ _ _ h hI).step fun b cs => step_exit hk
      · cases h
    · split at h
      · rename_i hk; exact (ih _ _ _ h hI).step fun b cs => step_goto hk
      · cases h
    · rename_i id ops draw k
      have fin : (Code.region id ops draw).wp P (fun e a' w' => e = .normal ∧ ∃ st', ex fi E H C m k st' = some r ∧ After E n w g hold st' a' w') a w → Goal P E n fi r (.code (.region id ops draw) :: k) a w g hold := by
        intro hwp b cs
        obtain ⟨e, a', w', ⟨rfl, st', h1, g', hold', k1, k2, k3⟩, harr⟩ := hwp b k cs
        obtain ⟨a2, w2, t2, st2, s2, f2, g2, hold2, m1, m2, m3⟩ := ih _ _ _ h1 k3 b cs
        exact ⟨a2, w2, t2, st2, Steps.trans harr s2, f2, g2, hold2, k1.trans m1, k2.trans m2, m3⟩
      cases draw with
      | true =>
        simp only [cond_true] at h
        generalize hdo : drawOk ops ((assoc fi.decl id).getD []) = z at h
        cases z with
        | false => cases h
        | true => exact fin (draw_ok (Q := fun e a' w' => e = .normal ∧ ∃ st', ex fi E H C m k st' = some r ∧ After E n w g hold st' a' w') hP hF hnt hn hC hmix hdo hI h (fun st' a' w' hk ha => ⟨rfl, st', hk, ha⟩))
      | false =>
        simp only [cond_false] at h
        refine fin (wp_region ?_)
        have := evalOps_ok (Q := fun e a' w' => e = .normal ∧ ∃ st', ex fi E H C m k st' = some r ∧ After E n w g hold st' a' w') hP hF hnt hn hC ops.toList 0 (fun j => by simp) hI h (fun st' a' w' hk ha => ⟨rfl, st', hk, ha⟩)
        rw [List.range_eq_range']
        simpa using this
    · cases h
end
end Go.Proofs.YtfelodpbejdhlaaDoor.Ra
