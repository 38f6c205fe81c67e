/- A verified evaluator for the program, part Ra2 of this claim. -/
import Derived.Test.YtfelodpbejdhlaaDoorRa1
import Derived.DataShut
import Derived.Laws.MakeOwn
import Derived.Deep.Upon
set_option linter.unusedSimpArgs false
set_option linter.unusedVariables false
/- 'build': a struct out of its parts. -/
namespace Go.Proofs.YtfelodpbejdhlaaDoor.Ra
open Go Go.RowKit

section
variable {P : Program} {E : Env} {n : Nat} {st : St} {a : Act} {w : World} {g : Gh} {hold : Nat → Place} {look : Nat → Option Rt} {o : Oper} {b : Bool} {rt : Nat → Option Rt}

theorem zeros (hP : PrOk P E) : ∀ (fs : List Nat), (∀ f ∈ fs, E.zok f = true) → ∃ zs : List Value, zs.length = fs.length ∧ flatV zs = fs.flatMap E.zc ∧
    ∀ (j f : Nat) (v : Value), fs[j]? = some f → zs[j]? = some v → Shaped E f v ∧ v.cells.toList = E.zc f := by
  intro fs
  induction fs with
  | nil => intro _; exact ⟨[], rfl, rfl, by simp⟩
  | cons f fs ih =>
    intro h
    obtain ⟨zs, h1, h2, h3⟩ := ih fun f hf => h f (by simp [hf])
    obtain ⟨_, i, z, _, _, hz, hzc⟩ := hP.zero f (h f (by simp))
    refine ⟨z :: zs, by simp [h1], by simp only [flatV, List.flatMap_cons] at *; rw [h2, hzc], fun j f' v hf hv => ?_⟩
    cases j with
    | zero => simp at hf hv; subst hf; subst hv; exact ⟨hz, hzc⟩
    | succ j => exact h3 j f' v (by simpa using hf) (by simpa using hv)

theorem zav_ok (hP : PrOk P E) : ∀ (k : Nat) {f : Nat} {v : Value}, Shaped E f v → v.cells.toList = E.zc f → AvOk E w g rt hold (zav E k f) v := by
  intro k
  induction k with
  | zero => intro f v _ _; exact .undef
  | succ k ih =>
    intro f v hs hc
    rw [zav]
    cases hz : E.zok f with
    | false => exact .undef
    | true =>
      cases hf : E.flat f with
      | true =>
        refine .val ?_ hs
        rw [hc]
        exact (hP.zrep f hz w g 0 []).flat hP.wf rfl hf fun _ _ => rfl
      | false =>
        simp only [Bool.not_true, cond_false]
        split
        · rename_i e he
          have h1 := (hP.zc_sl f e hz he).1
          have h2 := hs.2; rw [he] at h2; simp only at h2
          rw [h1, h2] at hc; simp at hc; subst hc
          exact .nil he
        · rename_i fs he
          obtain ⟨h1, _, h3⟩ := hP.zc_st f fs hz he
          obtain ⟨zs, a1, a2, a3⟩ := zeros hP fs h3
          obtain ⟨cs, rfl⟩ : ∃ cs, v = .agg cs := by have := hs.2; rw [he] at this; exact this
          have : cs = (zs.flatMap fun v => v.cells.toList).toArray := by
            apply Array.ext'; simp only [Value.cells] at hc; rw [hc, h1, ← a2]; rfl
          rw [this]
          refine .agg he (by simp) a1 (fun j a v ha hv => ?_) (fun j f v hf hv => (a3 j f v hf hv).1)
          simp only [List.getElem?_map, Option.map_eq_some_iff] at ha
          obtain ⟨f', hf', rfl⟩ := ha
          obtain ⟨b1, b2⟩ := a3 j f' v hf' hv
          exact ih b1 b2
        · exact .undef

theorem mkAgg_ok (hE : TyWf E) {ty : Nat} {l : List AV} {v : Value} (h : AvOk E w g rt hold (.agg ty l) v) : AvOk E w g rt hold (mkAgg E ty l) v := by
  unfold mkAgg
  cases hp : l.all plain with
  | false => exact h
  | true =>
    simp only [cond_true]
    split
    · rename_i t ht
      obtain ⟨h1, h2⟩ := vt_ok hE ht h
      exact .val h1 h2
    · exact .undef

theorem shapeE_ok (hP : PrOk P E) {ty : Nat} {x : AV} {v : Value} (h : shapeE E ty x = true) (hx : AvOk E w g rt hold x v) (hok : okTy E ty = true) : Shaped E ty v := by
  have sl : ∀ {A n c e}, E.ty ty = .sl e → Shaped E ty (.slice A n c) := fun he => shaped_one hP.wf (by simp [he]) rfl
  cases x with
  | val ty' t =>
    have := Nat.eq_of_beq_eq_true h; subst this
    cases hx with
    | val _ h2 => exact h2
  | cst c =>
    simp only [shapeE, Option.isSome_iff_exists] at h
    obtain ⟨t, ht⟩ := h
    cases hx
    exact (constT_ok (w := w) (g := g) (r := 0) (p := []) hP.wf (.inr rfl) ht).2
  | nil ty' =>
    have := Nat.eq_of_beq_eq_true h; subst this
    cases hx with
    | nil he => exact sl he
  | sref ty' r p =>
    have := Nat.eq_of_beq_eq_true h; subst this
    cases hx with
    | sref _ he => exact sl he
  | sub ty' r p lo hi =>
    have := Nat.eq_of_beq_eq_true h; subst this
    cases hx with
    | sub _ he => exact sl he
  | agg ty' l =>
    have := Nat.eq_of_beq_eq_true h; subst this
    cases hx with
    | agg h1 h2 h3 h4 h5 => exact Shaped.agg hP.wf h1 h3 h5
  | _ => simp [shapeE] at h

theorem assoc_map {α β : Type} (f : α → β) : ∀ (l : List (Nat × α)) (j : Nat), assoc (l.map fun x => (x.1, f x.2)) j = (assoc l j).map f := by
  intro l j
  induction l with
  | nil => rfl
  | cons x l ih =>
    simp only [List.map_cons, assoc]
    cases Nat.beq x.1 j <;> simp [ih]
theorem assoc_mem {α : Type} : ∀ (l : List (Nat × α)) (j : Nat) (x : α), assoc l j = some x → (j, x) ∈ l := by
  intro l j x
  induction l with
  | nil => intro h; simp [assoc] at h
  | cons y l ih =>
    intro h
    obtain ⟨k, v⟩ := y
    simp only [assoc] at h
    cases hb : Nat.beq k j with
    | true =>
      have := Nat.eq_of_beq_eq_true hb; subst this
      simp [hb] at h; subst h; simp
    | false => simp [hb] at h; simp [ih h]

/-- The parts of a struct or a slice literal, as values and as what the evaluator has of them. -/
theorem parts_ok {ρ : Operand → AV} (hρ : ∀ x, AvOk E w g st.rt hold (ρ x) (a.eval x)) {ps : Array (Nat × Operand)} (hb : (parts ρ ps).1 = true) :
    ∀ (j : Nat), match assoc (parts ρ ps).2 j, assoc (ps.toList.map fun x => (x.1, a.eval x.2)) j with
      | some x, some v => AvOk E w g st.rt hold x v
      | none, none => True
      | _, _ => False := by
  intro j
  unfold parts at *
  simp only at *
  rw [assoc_map (fun x => (strip (ρ x)).2) ps.toList j, assoc_map a.eval ps.toList j]
  cases hx : assoc ps.toList j with
  | none => simp
  | some x =>
    simp only [Option.map_some]
    exact strip_ok (hρ x) (List.all_eq_true.1 hb (j, x) (assoc_mem _ _ _ hx))

theorem build_ok (hP : PrOk P E) {t : Nat} {ps : Array (Nat × Operand)} {e : Eff} (hop : o.op = .build t ps) {ρ : Operand → AV} (hρ : ∀ x, AvOk E w g st.rt hold (ρ x) (a.eval x))
    (he : buildE E t (parts ρ ps).1 (parts ρ ps).2 = some e) : Ylds P E st a w g hold o e := by
  unfold buildE at he
  split at he
  rotate_left
  · cases he
  rename_i fs hs
  generalize hc : (E.zok t && (distinct ((parts ρ ps).2.map (·.1)) && ((parts ρ ps).2.all fun x => decide (x.1 < fs.length) && shapeE E (fs.getD x.1 0) x.2))) = c at he
  cases c with
  | false => simp at he
  | true =>
    simp only [cond_true] at he
    simp only [Bool.and_eq_true] at hc
    obtain ⟨c1, c2, c3⟩ := hc
    refine .mk he fun hb => ?_
    obtain ⟨z1, z2, z3⟩ := hP.zc_st t fs c1 hs
    obtain ⟨zs, a1, a2, a3⟩ := zeros hP fs z3
    obtain ⟨hokt, i, z, hi, hz, hzs, hzc⟩ := hP.zero t c1
    obtain ⟨fds, hu, hsz, _, _, hfd⟩ := hP.st t fs hs
    have hpo := parts_ok hρ hb
    let vps : List (Nat × Value) := ps.toList.map fun x => (x.1, a.eval x.2)
    have hfst : vps.map (·.1) = (parts ρ ps).2.map (·.1) := by simp [vps, parts, Function.comp_def]
    have hparts : ∀ x ∈ vps, ∃ f, fs[x.1]? = some f ∧ Shaped E f x.2 := by
      intro x hx
      obtain ⟨y, hy, rfl⟩ := List.mem_map.1 hx
      have hy' : (y.1, (strip (ρ y.2)).2) ∈ (parts ρ ps).2 := List.mem_map.2 ⟨y, hy, rfl⟩
      have := List.all_eq_true.1 c3 _ hy'
      simp only [Bool.and_eq_true, decide_eq_true_eq] at this
      have hq := List.all_eq_true.1 hb y hy
      have hget : fs[y.1]? = some (fs.getD y.1 0) := by simp [this.1]
      refine ⟨_, hget, shapeE_ok hP this.2 (strip_ok (hρ y.2) hq) ?_⟩
      exact (hfd y.1 _ _ hget (Array.getElem?_eq_getElem (by omega))).2.2.2.2
    have hplace : (fds.toList.mapM fun f => (P.info? f.type).map fun i => (f.offset, i.size)) = some ((List.range fs.length).map fun j => (off E fs j, E.sz (fs.getD j 0))) := by
      apply mapM_some_of_get
      · simp [hsz]
      · intro j fd hj
        have hjl : j < fs.length := by have := (List.getElem?_eq_some_iff.1 hj).1; simp at this; omega
        have hget : fs[j]? = some (fs.getD j 0) := by simp [hjl]
        obtain ⟨d1, d2, d3, _, d5⟩ := hfd j _ fd hget (by simpa using hj)
        obtain ⟨i', hi', hs', _⟩ := hP.info _ d5
        rw [List.getElem?_map, List.getElem?_range hjl, d1, hi', Option.map_some, Option.map_some, d2, hs']
    have hf := fill_ok (E := E) (fs := fs) (place := fun x => ((List.range fs.length).map fun j => (off E fs j, E.sz (fs.getD j 0))).toArray[x]?) (fun j f hf => by
      have hjl := (List.getElem?_eq_some_iff.1 hf).1
      have : fs.getD j 0 = f := by simp [List.getD_eq_getElem?_getD, hf]
      simp [hjl, this]
      rw [← this]; simp [hjl]) vps zs a1 (fun j f v hf hv => (a3 j f v hf hv).1) hparts
    have hbuilt : P.built t vps = some (flatV (vps.foldl (fun vs x => vs.set x.1 x.2) zs)).toArray := by
      unfold Program.built
      simp only [hi, hu, hz, hplace]
      have : z.cells = (flatV zs).toArray := by apply Array.ext'; rw [hzc, z1, ← a2]
      rw [this]
      exact hf.1
    have hrun := run_build (P := P) w t (ps.map fun (i, x) => (i, a.eval x)) _ (by rw [← hbuilt]; simp [vps])
    refine ⟨_, by simp only [execOp, hop]; exact run_value _ _ hrun, mkAgg_ok hP.wf ?_⟩
    refine .agg hs (by simp) hf.2.1 (fun j x v hx hv => ?_) hf.2.2
    have hjl : j < fs.length := by
      have := (List.getElem?_eq_some_iff.1 hx).1; simp at this; omega
    rw [List.getElem?_map] at hx
    have hz2 : (List.zip (List.range fs.length) fs)[j]? = some (j, fs[j]) := by
      rw [List.getElem?_zip_eq_some]; exact ⟨by simp [hjl], by simp [hjl]⟩
    rw [hz2] at hx
    simp only [Option.map_some, Option.some.injEq] at hx
    rw [foldl_set_get vps zs j (by rw [hfst]; exact c2) (by omega)] at hv
    have hpj := hpo j
    unfold findPart at hx
    cases h1 : assoc (parts ρ ps).2 j with
    | some y =>
      rw [h1] at hx hpj
      cases h2 : assoc vps j with
      | some v' =>
        rw [h2] at hv
        simp only [Option.getD_some] at hx
        subst hx
        simp only [Option.some.injEq] at hv; subst hv
        rw [show assoc (ps.toList.map fun x => (x.1, a.eval x.2)) j = some v' from h2] at hpj
        exact hpj
      | none => rw [show assoc (ps.toList.map fun x => (x.1, a.eval x.2)) j = none from h2] at hpj; exact hpj.elim
    | none =>
      rw [h1] at hx hpj
      cases h2 : assoc vps j with
      | some v' => rw [show assoc (ps.toList.map fun x => (x.1, a.eval x.2)) j = some v' from h2] at hpj; exact hpj.elim
      | none =>
        rw [h2] at hv
        simp only [Option.getD_none] at hx
        subst hx
        obtain ⟨b1, b2⟩ := a3 j _ v (List.getElem?_eq_getElem hjl) hv
        exact zav_ok hP 8 b1 b2
end
end Go.Proofs.YtfelodpbejdhlaaDoor.Ra
/- Values that are moved: what is taken, and what is left behind. -/
namespace Go.Proofs.YtfelodpbejdhlaaDoor.Ra
open Go Go.RowKit

/-- A block that a reading leans on: not what has been moved away. -/
def LeansO (g : Gh) (o : O) (r : Nat) (p : List Step) (b : Nat) : Prop := g b = .frz ∨ ∃ q, g b = .at r (p ++ q) ∧ o.get q ≠ .dead

theorem Rep.relocO {E : Env} {w : World} {g : Gh} (hE : TyWf E) {ty : Nat} {t : T} {o : O} {r : Nat} {p : List Step} {κ : Place} (h : Rep E w g ty t o r p κ)
    {w' : World} {g' : Gh} {κ' : Place} :
    (∀ k, k < E.sz ty → rd w' (κ'.add k) = rd w (κ.add k)) → (∀ b, LeansO g o r p b → SameBlk w w' b ∧ g' b = g b) → Rep E w' g' ty t o r p κ' := by
  induction h generalizing κ' with
  | int h1 h2 => intro hc hb; exact .int h1 (by rw [← h2]; simpa [Place.add_zero] using hc 0 (by rw [hE.one _ (by simp [h1])]; omega))
  | bool h1 h2 => intro hc hb; exact .bool h1 (by rw [← h2]; simpa [Place.add_zero] using hc 0 (by rw [hE.one _ (by simp [h1])]; omega))
  | str h1 h2 => intro hc hb; exact .str h1 (by rw [← h2]; simpa [Place.add_zero] using hc 0 (by rw [hE.one _ (by simp [h1])]; omega))
  | fn vs cts h1 h3 h4 h5 h6 h7 h8 ih =>
    intro hc hb
    refine .fn vs cts h1 h3 h4 h5 (by rw [← h6]; simpa [Place.add_zero] using hc 0 (by rw [hE.one _ (by simp [h1])]; omega)) (fun i ct c v a1 a2 a3 => ?_) h8
    exact (h7 i ct c v a1 a2 a3).frame_fz (w' := w') (g' := g') hE (fun _ _ => rfl) (fun b hb' => by obtain ⟨c1, c2⟩ := hb b (.inl hb'); exact ⟨c1, by rw [c2, hb']⟩) _ _
  | cp h1 h2 h3 h4 h5 _ =>
    intro hc hb
    obtain ⟨c1, c2⟩ := hb _ (.inl h4)
    exact .cp h1 (by rw [← h2]; simpa [Place.add_zero] using hc 0 (by rw [hE.one _ (by simp [h1])]; omega)) h3 (by rw [c2, h4])
      (h5.frame_fz (w' := w') (g' := g') hE (fun k _ => c1.1 _) (fun b hb' => by obtain ⟨c1, c2⟩ := hb b (.inl hb'); exact ⟨c1, by rw [c2, hb']⟩) _ _)
  | dead => intro _ _; exact .dead
  | fz0 h1 h2 => intro hc hb; exact .fz0 h1 (by rw [← h2]; simpa [Place.add_zero] using hc 0 (by rw [hE.one _ (by simp [h1])]; omega))
  | fz h1 h2 h3 h4 h5 h6 ih =>
    intro hc hb
    refine .fz h1 (by rw [← h2]; simpa [Place.add_zero] using hc 0 (by rw [hE.one _ (by simp [h1])]; omega)) h3 h4 (by rw [(hb _ (.inl h5)).2, h5]) fun i t hi => ?_
    exact ih i t hi (fun k _ => (hb _ (.inl h5)).1.1 _) hb
  | own0 h1 h2 h3 => intro hc hb; exact .own0 h1 h2 (by rw [← h3]; simpa [Place.add_zero] using hc 0 (by rw [hE.one _ (by simp [h1])]; omega))
  | own h1 h2 h3 h4 h5 h6 h7 h8 ih =>
    intro hc hb
    have hl := hb _ (.inr ⟨[], by rw [h6]; simp, by intro hd; simp only [O.get] at hd; rw [hd] at h2; simp [O.own] at h2⟩)
    refine .own h1 h2 (by rw [← h3]; simpa [Place.add_zero] using hc 0 (by rw [hE.one _ (by simp [h1])]; omega)) h4 h5 (by rw [hl.2, h6]) (hl.1.2 _ h7) fun i t hi => ?_
    exact ih i t hi (fun k _ => hl.1.1 _) fun b hb' => hb b (hb'.imp id fun ⟨q, q1, q2⟩ => ⟨.idx i :: q, by rw [q1]; simp, q2⟩)
  | st h1 h2 h3 ih =>
    intro hc hb
    refine .st h1 h2 fun j f t hf ht => ih j f t hf ht (fun k hk => ?_) fun b hb' => hb b (hb'.imp id fun ⟨q, q1, q2⟩ => ⟨.fld j :: q, by rw [q1]; simp, q2⟩)
    rw [Place.add_add, Place.add_add]
    exact hc _ (by rw [hE.sum _ _ h1]; have := off_le (E := E) hf; omega)

theorem Rep.rekey {E : Env} {w : World} {g : Gh} {ty : Nat} {t : T} {o : O} {r : Nat} {p : List Step} {κ : Place} (h : Rep E w g ty t o r p κ)
    {g' : Gh} {r' : Nat} {p' : List Step} (hf : ∀ b, g b = .frz → g' b = .frz) (hg : ∀ b q, g b = .at r (p ++ q) → g' b = .at r' (p' ++ q)) : Rep E w g' ty t o r' p' κ := by
  induction h generalizing p' with
  | int h1 h2 => exact .int h1 h2
  | bool h1 h2 => exact .bool h1 h2
  | str h1 h2 => exact .str h1 h2
  | fn vs cts h1 h3 h4 h5 h6 h7 h8 ih => exact .fn vs cts h1 h3 h4 h5 h6 (fun i ct c v a1 a2 a3 => ih i ct c v a1 a2 a3 hg) h8
  | cp h1 h2 h3 h4 _ ih => exact .cp h1 h2 h3 (hf _ h4) (ih hg)
  | dead => exact .dead
  | fz0 h1 h2 => exact .fz0 h1 h2
  | fz h1 h2 h3 h4 h5 h6 ih => exact .fz h1 h2 h3 h4 (hf _ h5) fun i t hi => ih i t hi hg
  | own0 h1 h2 h3 => exact .own0 h1 h2 h3
  | own h1 h2 h3 h4 h5 h6 h7 h8 ih =>
    refine .own h1 h2 h3 h4 h5 (by simpa using hg _ [] (by simpa using h6)) h7 fun i t hi => ih i t hi fun b q hq => ?_
    have := hg b (.idx i :: q) (by rw [hq]; simp)
    simpa using this
  | st h1 h2 h3 ih =>
    refine .st h1 h2 fun j f t hf' ht => ih j f t hf' ht fun b q hq => ?_
    have := hg b (.fld j :: q) (by rw [hq]; simp)
    simpa using this

/-- What has been moved away is forgotten. -/
theorem Rep.leave {E : Env} {w : World} {g : Gh} {r : Nat} {ty : Nat} {p : List Step} {κ : Place} {q : List Step} {ty' : Nat} {κ' : Place} (hs : Sub E w g r ty p κ q ty' κ') :
    ∀ {t : T} {o o' : O}, Rep E w g ty t o r p κ → allFld q = true → o.way q = true → OPut E ty o q .dead o' → Rep E w g ty t o' r p κ := by
  induction hs with
  | nil => intro t o o' h _ _ ho; cases ho; exact .dead
  | idx => intro t o o' h hq; simp [allFld] at hq
  | @fld ty fs j f p κ q ty' κ' b1 b2 _ ih =>
    intro t o o' h hq hw ho
    obtain ⟨fs', h0, h1, h2⟩ := ho
    rw [b1] at h0; cases h0
    rw [getD_of b2] at h2
    cases h with
    | st a1 a2 a3 =>
      refine .st a1 a2 fun k f' t hf ht => ?_
      by_cases hk : k = j
      · subst hk
        rw [b1] at a1; cases a1
        rw [b2] at hf; cases hf
        exact ih (a3 k f t b2 ht) (by simpa [allFld] using hq) (by cases o <;> simp_all [O.way]) h2
      · rw [b1] at a1; cases a1
        rw [h1 k (List.getElem?_eq_some_iff.1 hf).1 hk]; exact a3 k f' t hf ht
    | dead => simp [O.way] at hw
    | _ => simp_all

theorem set_get {l : List Nat} {o x : O} {E : Env} {ty : Nat} {j : Nat} {p : List Step} (h : E.ty ty = .st l) (k : Nat) (hk : k < l.length) :
    (O.set E ty o (.fld j :: p) x).fld k = if k = j then O.set E (l.getD j 0) (o.fld j) p x else o.fld k := by
  simp only [O.set, h, O.fld]
  rw [List.getD_eq_getElem?_getD, List.getElem?_map, List.getElem?_range hk]
  simp only [Option.map_some, Option.getD_some]
  by_cases hkj : k = j
  · subst hkj; simp
  · have : Nat.beq k j = false := by
      cases hb : Nat.beq k j with
      | false => rfl
      | true => exact absurd (Nat.eq_of_beq_eq_true hb) hkj
    simp [this, hkj]

theorem OPut_set {E : Env} {w : World} {g : Gh} {r : Nat} {ty : Nat} {p : List Step} {κ : Place} {q : List Step} {ty' : Nat} {κ' : Place} (hs : Sub E w g r ty p κ q ty' κ') :
    ∀ {o x : O}, allFld q = true → OPut E ty o q x (O.set E ty o q x) := by
  induction hs with
  | nil => intro o x _; rfl
  | idx => intro o x h; simp [allFld] at h
  | @fld ty fs j f p κ q ty' κ' b1 b2 _ ih =>
    intro o x h
    have hj := (List.getElem?_eq_some_iff.1 b2).1
    refine ⟨fs, b1, fun k hk hkj => by rw [set_get b1 k hk, if_neg hkj], ?_⟩
    rw [set_get b1 j hj, if_pos rfl, getD_of b2]
    exact ih (by simpa [allFld] using h)

theorem set_self {E : Env} {w : World} {g : Gh} {r : Nat} {ty : Nat} {p : List Step} {κ : Place} {q : List Step} {ty' : Nat} {κ' : Place} (hs : Sub E w g r ty p κ q ty' κ') :
    ∀ {o x : O}, allFld q = true → (O.set E ty o q x).get q = x := by
  induction hs with
  | nil => intro o x _; rfl
  | idx => intro o x h; simp [allFld] at h
  | @fld ty fs j f p κ q ty' κ' b1 b2 _ ih =>
    intro o x h
    have hj := (List.getElem?_eq_some_iff.1 b2).1
    simp only [O.get]
    rw [set_get b1 j hj, if_pos rfl, getD_of b2]
    exact ih (by simpa [allFld] using h)

/-- Two places that share nothing: what is done at the one leaves the other. -/
theorem set_split {E : Env} {w : World} {g : Gh} {r : Nat} {ty : Nat} {p : List Step} {κ : Place} {q : List Step} {ty' : Nat} {κ' : Place} (hs : Sub E w g r ty p κ q ty' κ') :
    ∀ {q' : List Step} {ty'' : Nat} {κ'' : Place}, Sub E w g r ty p κ q' ty'' κ'' → split q q' = true → ∀ {o x : O}, (O.set E ty o q x).get q' = o.get q' ∧ (o.way q' = true → (O.set E ty o q x).way q' = true) := by
  induction hs with
  | nil => intro q' ty'' κ'' _ h; cases q' <;> simp [split] at h
  | idx => intro q' ty'' κ'' _ h; cases q' <;> simp [split] at h
  | @fld ty fs j f p κ q ty' κ' b1 b2 _ ih =>
    intro q' ty'' κ'' hs' h o x
    cases hs' with
    | nil => simp [split] at h
    | idx => simp [split] at h
    | @fld _ fs' j' f' _ _ q' _ _ c1 c2 c3 =>
      rw [b1] at c1; cases c1
      have hj := (List.getElem?_eq_some_iff.1 b2).1
      have hj' := (List.getElem?_eq_some_iff.1 c2).1
      have hst : ∀ y, O.set E ty o (.fld j :: q) x = y → y ≠ .dead := by
        intro y hy hd; rw [hd] at hy; simp [O.set, b1] at hy
      have hway : ∀ (y : O) (k : Nat) (s : List Step), y ≠ .dead → y.way (.fld k :: s) = (y.fld k).way s := by
        intro y k s hy; cases y <;> simp_all [O.way]
      simp only [O.get]
      rw [set_get b1 j' hj', hway _ _ _ (hst _ rfl), set_get b1 j' hj']
      by_cases hjj : j' = j
      · subst hjj
        rw [b2] at c2; cases c2
        simp only [if_true, getD_of b2]
        have h' : split q q' = true := by simpa [split] using h
        obtain ⟨i1, i2⟩ := ih c3 h' (o := o.fld j') (x := x)
        exact ⟨i1, fun hw => i2 (by cases o <;> simp_all [O.way])⟩
      · rw [if_neg hjj]
        exact ⟨rfl, fun hw => by cases o <;> simp_all [O.way]⟩
theorem split_comm : ∀ {p q : List Step}, split p q = true → split q p = true
  | [], _, h => by simp [split] at h
  | .idx _ :: _, _, h => by simp [split] at h
  | .fld i :: p, [], h => by simp [split] at h
  | .fld i :: p, .idx _ :: _, h => by simp [split] at h
  | .fld i :: p, .fld j :: q, h => by
    simp only [split] at h ⊢
    cases hb : Nat.beq i j with
    | true =>
      have := Nat.eq_of_beq_eq_true hb; subst this
      simp only [hb, cond_true] at h
      rw [show Nat.beq i i = true from hb]; exact split_comm h
    | false =>
      have : Nat.beq j i = false := by
        cases hb' : Nat.beq j i with
        | false => rfl
        | true => have := Nat.eq_of_beq_eq_true hb'; subst this; rw [hb'] at hb; cases hb
      simp [this]
theorem split_not_pre : ∀ {p q s : List Step}, split p q = true → p <+: s → ¬ q <+: s
  | [], _, _, h, _ => by simp [split] at h
  | .idx _ :: _, _, _, h, _ => by simp [split] at h
  | .fld i :: p, [], _, h, _ => by simp [split] at h
  | .fld i :: p, .idx _ :: _, _, h, _ => by simp [split] at h
  | .fld i :: p, .fld j :: q, s, h, hp => by
    intro hq
    cases s with
    | nil => simp at hp
    | cons a s =>
      obtain ⟨e1, h1⟩ := List.cons_prefix_cons.1 hp
      obtain ⟨e2, h2⟩ := List.cons_prefix_cons.1 hq
      have : i = j := by rw [← e1] at e2; simpa using e2.symm
      subst this
      simp only [split, show Nat.beq i i = true from Nat.beq_refl i, cond_true] at h
      exact split_not_pre h h1 h2
end Go.Proofs.YtfelodpbejdhlaaDoor.Ra
/- What is taken, and where to. -/
namespace Go.Proofs.YtfelodpbejdhlaaDoor.Ra
open Go Go.RowKit

/-- One thing moved: its root, its place there, and where each place below it goes. -/
abbrev Ent := Nat × List Step × (List Step → List Step)
def sh (lo : Nat) : List Step → List Step
  | .idx k :: q => .idx (k - lo) :: q
  | q => q
mutual
def ents (pd : List Step) : AV → List Ent
  | .sref _ r p => [(r, p, fun q => pd ++ q)]
  | .sub _ r p lo _ => [(r, p, fun q => pd ++ sh lo q)]
  | .agg _ l => entsL pd 0 l
  | .undef => []
  | .val _ _ => []
  | .cst _ => []
  | .nil _ => []
  | .fnc _ => []
  | .gd _ _ => []
  | .pref _ _ _ => []
  | .fptr _ _ => []
  | .pv _ _ => []
  | .tup _ => []
def entsL (pd : List Step) : Nat → List AV → List Ent
  | _, [] => []
  | j, a :: l => ents (pd ++ [.fld j]) a ++ entsL pd (j + 1) l
end
def srcs (es : List Ent) : List (Nat × List Step) := es.map fun e => (e.1, e.2.1)
def Tks (es : List Ent) (d : Nat) (g g' : Gh) : Prop := ∀ e ∈ es, ∀ b q, g b = .at e.1 (e.2.1 ++ q) → g' b = .at d (e.2.2 q)

structure SrcOk (E : Env) (w : World) (g : Gh) (rt look : Nat → Option Rt) (hold : Nat → Place) (x : Nat × List Step) : Prop where
  ok : ∃ R ty e κ, look x.1 = some R ∧ rt x.1 = some R ∧ E.ty ty = .sl e ∧ Sub E w g x.1 R.ty [] (hold x.1) x.2 ty κ ∧ (R.o.get x.2).own = true ∧ (R.o.get x.2).live = true ∧ noIdx x.2 = true

theorem Tks.left {a b : List Ent} {d : Nat} {g g' : Gh} (h : Tks (a ++ b) d g g') : Tks a d g g' := fun e he => h e (List.mem_append_left _ he)
theorem Tks.right {a b : List Ent} {d : Nat} {g g' : Gh} (h : Tks (a ++ b) d g g') : Tks b d g g' := fun e he => h e (List.mem_append_right _ he)

section
variable {E : Env} {w : World} {g : Gh} {rt look : Nat → Option Rt} {hold : Nat → Place}

theorem sub_rep' {r : Nat} {R : Rt} (hr : RtOk E w g hold r R) {p : List Step} {ty : Nat} {κ : Place} (hs : Sub E w g r R.ty [] (hold r) p ty κ) :
    Rep E w g ty (R.t.get p) (R.o.get p) r p κ := by simpa using Rep.sub hs hr.rep

/-- A slice, owned, that goes to another place, cut. -/
theorem Rep.cutTo (hE : TyWf E) {ty e : Nat} {t : T} {o : O} {r : Nat} {p : List Step} {κ : Place} (h : Rep E w g ty t o r p κ) (he : E.ty ty = .sl e) (ho : o.own = true)
    {A A' : Option Addr} {len cap lo hi cap' : Nat} (hv : rd w κ = some (.slice A len cap)) (h1 : lo ≤ hi) (h2 : hi ≤ len) (h3 : hi - lo ≤ cap') (h4 : lo + cap' ≤ cap)
    (h5 : (A = none ∧ A' = none) ∨ ∃ b x y, A = some ⟨b, x, none⟩ ∧ A' = some ⟨b, y, none⟩ ∧ y ≤ x + lo * E.sz e ∧ (cap' = 0 ∨ y = x + lo * E.sz e))
    {g' : Gh} {d : Nat} {pd : List Step} (hf : ∀ b, g b = .frz → g' b = .frz) (hg : ∀ b q, g b = .at r (p ++ q) → g' b = .at d (pd ++ sh lo q)) :
    Rep E w g' ty (t.cut lo hi) o d pd (.reg [.slice A' (hi - lo) cap'] 0) := by
  cases h with
  | own0 a1 a2 a3 =>
    rw [hv] at a3; cases a3
    have : hi = 0 := by omega
    subst this
    have : lo = 0 := by omega
    subst this
    rcases h5 with ⟨_, rfl⟩ | ⟨b, x, y, hA, _⟩
    · have : cap' = 0 := by omega
      subst this
      simp only [T.cut, T.es, List.take_nil, List.drop_nil]
      exact .own0 he ho rfl
    · cases hA
  | @own _ e' es a cap₁ _ _ _ _ a1 a2 a3 a4 a5 a6 a7 a8 =>
    rw [he] at a1; cases a1
    rw [hv] at a3; cases a3
    rcases h5 with ⟨hA, _⟩ | ⟨b, x, y, hA, rfl, hy, hy'⟩
    · cases hA
    · cases hA
      have hlen : (((T.sl es).cut lo hi).es).length = hi - lo := by simp [T.cut, T.es]; omega
      have hes : (T.sl es).cut lo hi = .sl ((es.take hi).drop lo) := rfl
      rw [hes]
      have hlen' : ((es.take hi).drop lo).length = hi - lo := by simp; omega
      have hsz : y + cap' * E.sz e ≤ x + cap * E.sz e := by
        have : (lo + cap') * E.sz e ≤ cap * E.sz e := Nat.mul_le_mul_right _ h4
        rw [Nat.add_mul] at this
        rcases hy' with rfl | rfl
        · omega
        · omega
      refine .own (a := ⟨b, y, none⟩) he ho (by rw [hlen']; rfl) rfl (by rw [hlen']; exact h3) (by have := hg b [] (by simpa using a6); simpa [sh] using this) (a7.mono hsz) ?_
      intro i t hi'
      obtain ⟨b1, b2⟩ := cut_get hi'
      have hc0 : cap' ≠ 0 := by omega
      have hy'' : y = x + lo * E.sz e := by rcases hy' with h | h; exact absurd h hc0; exact h
      have := (a8 (lo + i) t b1).rekey (g' := g') (r' := d) (p' := pd ++ [.idx i]) hf (fun b q hq => by
        have := hg b (.idx (lo + i) :: q) (by rw [hq]; simp)
        rw [this]; simp [sh])
      rw [Nat.add_mul] at this
      simpa [hy'', Nat.add_assoc] using this
  | fz0 => simp [O.own] at ho
  | fz => simp [O.own] at ho
  | dead => simp [O.own] at ho
  | _ => simp_all

mutual
theorem take_ok (hE : TyWf E) (hl : ∀ r R, look r = some R → rt r = some R) (hr : ∀ r R, rt r = some R → RtOk E w g hold r R) :
    ∀ {av : AV} {ty : Nat} {c : Taken} {v : Value}, take E look ty av = some c → AvOk E w g rt hold av v →
    Shaped E ty v ∧ (∀ pd, srcs (ents pd av) = c.mv) ∧ (∀ x ∈ c.mv, SrcOk E w g rt look hold x) ∧
    ∀ (d : Nat) (pd : List Step) (g' : Gh), (∀ b, g b = .frz → g' b = .frz) → Tks (ents pd av) d g g' → Rep E w g' ty c.t c.o d pd (.reg v.cells.toList 0)
  | .sref ty' r p, ty, c, v, h, hv => by
    simp only [take] at h
    cases hlr : look r with
    | none => simp [hlr] at h
    | some R =>
      simp only [hlr] at h
      generalize hc : (Nat.beq ty' ty && ((R.o.get p).own && (R.o.get p).live && noIdx p)) = bb at h
      cases bb with
      | false => simp at h
      | true =>
        simp only [Bool.and_eq_true] at hc
        obtain ⟨c1, ⟨c2, c3⟩, c4⟩ := hc
        have := Nat.eq_of_beq_eq_true c1; subst this
        simp only [cond_true, Option.some.injEq] at h; subst h
        cases hv with
        | @sref _ e _ _ A n cp R' κ h1 h2 h3 h4 =>
          rw [hl _ _ hlr] at h1; cases h1
          refine ⟨shaped_one hE (by simp [h2]) rfl, fun pd => by simp [srcs, ents], fun x hx => ?_, fun d pd g' hf ht => ?_⟩
          · simp only [List.mem_singleton] at hx; subst hx
            exact ⟨⟨R, ty', e, κ, hlr, hl _ _ hlr, h2, h3, c2, c3, c4⟩⟩
          · have hrep := sub_rep' (hr _ _ (hl _ _ hlr)) h3
            have ht' : ∀ b q, g b = .at r (p ++ q) → g' b = .at d (pd ++ q) := fun b q hq => ht _ (List.mem_singleton.2 rfl) b q hq
            refine (hrep.rekey hf ht').place hE fun k hk => ?_
            rw [hE.one _ (by simp [h2])] at hk
            obtain rfl : k = 0 := by omega
            rw [Place.add_zero, Place.add_zero, h4]; rfl
  | .sub ty' r p lo hi, ty, c, v, h, hv => by
    simp only [take] at h
    cases hlr : look r with
    | none => simp [hlr] at h
    | some R =>
      simp only [hlr] at h
      generalize hc : (Nat.beq ty' ty && ((R.o.get p).own && (R.o.get p).live && noIdx p)) = bb at h
      cases bb with
      | false => simp at h
      | true =>
        simp only [Bool.and_eq_true] at hc
        obtain ⟨c1, ⟨c2, c3⟩, c4⟩ := hc
        have := Nat.eq_of_beq_eq_true c1; subst this
        simp only [cond_true, Option.some.injEq] at h; subst h
        cases hv with
        | @sub _ e _ _ _ _ A len cap A' cap' R' κ h1 h2 h3 h4 h5 h6 h7 h8 h9 =>
          rw [hl _ _ hlr] at h1; cases h1
          refine ⟨shaped_one hE (by simp [h2]) rfl, fun pd => by simp [srcs, ents], fun x hx => ?_, fun d pd g' hf ht => ?_⟩
          · simp only [List.mem_singleton] at hx; subst hx
            exact ⟨⟨R, ty', e, κ, hlr, hl _ _ hlr, h2, h3, c2, c3, c4⟩⟩
          · have hrep := sub_rep' (hr _ _ (hl _ _ hlr)) h3
            exact hrep.cutTo hE h2 c2 h4 h5 h6 h7 h8 h9 hf (fun b q hq => ht _ (List.mem_singleton.2 rfl) b q hq)
  | .nil ty', ty, c, v, h, hv => by
    simp only [take] at h
    cases hb : Nat.beq ty' ty with
    | false => simp [hb] at h
    | true =>
      have := Nat.eq_of_beq_eq_true hb; subst this
      simp [hb] at h; subst h
      cases hv with
      | nil he => exact ⟨shaped_one hE (by simp [he]) rfl, fun pd => rfl, fun x hx => by simp at hx, fun d pd g' _ _ => .own0 he rfl rfl⟩
  | .val ty' t', ty, c, v, h, hv => by
    simp only [take] at h
    cases hb : Nat.beq ty' ty with
    | false => simp [hb] at h
    | true =>
      have := Nat.eq_of_beq_eq_true hb; subst this
      simp only [hb, cond_true, Option.some.injEq] at h; subst h
      cases hv with
      | val h1 h2 =>
        refine ⟨h2, fun pd => rfl, fun x hx => by simp at hx, fun d pd g' hf _ => ?_⟩
        cases hfl : E.flat ty' with
        | true => exact h1.flat hE rfl hfl fun _ _ => rfl
        | false => exact h1.frozen rfl hf _ _
  | .cst cv, ty, c, v, h, hv => by
    simp only [take] at h
    split at h
    · rename_i t ht
      cases h
      cases hv
      exact ⟨(constT_ok (w := w) (g := g) (r := 0) (p := []) hE (.inr rfl) ht).2, fun pd => rfl, fun x hx => by simp at hx, fun d pd g' hf _ => (constT_ok hE (.inl rfl) ht).1⟩
    · cases h
  | .agg ty' l, ty, c, v, h, hv => by
    simp only [take] at h
    split at h
    · rename_i fs he
      cases hb : Nat.beq ty' ty with
      | false => simp [hb] at h
      | true =>
        have := Nat.eq_of_beq_eq_true hb; subst this
        simp only [hb, cond_true] at h
        split at h
        · rename_i ts os mv htl
          cases h
          cases hv with
          | agg h1 h2 h3 h4 h5 =>
            rename_i vs
            rw [he] at h1; cases h1
            obtain ⟨i1, i2, i3, i4, i5⟩ := takeL_ok hE hl hr htl (vs := vs) (by omega) h4
            refine ⟨Shaped.agg hE he h3 h5, fun pd => i3 pd 0, i4, fun d pd g' hf ht => .st he i1 fun j f t hj hjt => ?_⟩
            have hjl : j < fs.length := (List.getElem?_eq_some_iff.1 hj).1
            obtain ⟨v, hv⟩ : ∃ v, vs[j]? = some v := ⟨vs[j]'(by omega), List.getElem?_eq_getElem _⟩
            have := i5 j f t v hj hjt hv d pd 0 g' hf ht
            rw [Nat.zero_add] at this
            refine this.place hE fun k hk => ?_
            have := flatMap_get h3 h5 j f v hj hv k hk
            simpa [Place.add, rd, Value.cells] using this
        · cases h
    · cases h
  | .undef, ty, c, v, h, hv => by simp [take] at h
  | .fnc _, ty, c, v, h, hv => by simp [take] at h
  | .gd _ _, ty, c, v, h, hv => by simp [take] at h
  | .pref _ _ _, ty, c, v, h, hv => by simp [take] at h
  | .fptr _ _, ty, c, v, h, hv => by simp [take] at h
  | .pv _ _, ty, c, v, h, hv => by simp [take] at h
  | .tup _, ty, c, v, h, hv => by simp [take] at h
theorem takeL_ok (hE : TyWf E) (hl : ∀ r R, look r = some R → rt r = some R) (hr : ∀ r R, rt r = some R → RtOk E w g hold r R) :
    ∀ {l : List AV} {fs : List Nat} {ts : List T} {os : List O} {mv : List (Nat × List Step)}, takeL E look fs l = some (ts, os, mv) → ∀ {vs : List Value}, l.length = vs.length →
    (∀ (j : Nat) (a : AV) (v : Value), l[j]? = some a → vs[j]? = some v → AvOk E w g rt hold a v) →
    ts.length = fs.length ∧ os.length = fs.length ∧ (∀ pd j0, srcs (entsL pd j0 l) = mv) ∧ (∀ x ∈ mv, SrcOk E w g rt look hold x) ∧
    ∀ (j f : Nat) (t : T) (v : Value), fs[j]? = some f → ts[j]? = some t → vs[j]? = some v → ∀ (d : Nat) (pd : List Step) (j0 : Nat) (g' : Gh), (∀ b, g b = .frz → g' b = .frz) →
      Tks (entsL pd j0 l) d g g' → Rep E w g' f t ((O.st os).fld j) d (pd ++ [.fld (j0 + j)]) (.reg v.cells.toList 0)
  | [], fs, ts, os, mv, h, vs, hlen, hv => by
    cases fs with
    | nil =>
      simp only [takeL, Option.some.injEq, Prod.mk.injEq] at h
      obtain ⟨rfl, rfl, rfl⟩ := h
      exact ⟨rfl, rfl, fun _ _ => rfl, fun x hx => by simp at hx, fun j f t v hf => by simp at hf⟩
    | cons f fs => simp [takeL] at h
  | a :: l, fs, ts, os, mv, h, vs, hlen, hv => by
    cases fs with
    | nil => simp [takeL] at h
    | cons f fs =>
      cases vs with
      | nil => simp at hlen
      | cons v0 vs =>
      simp only [takeL] at h
      split at h
      · rename_i x ts' os' mv' h1 h2
        cases h
        obtain ⟨a1, a2, a3, a4⟩ := take_ok hE hl hr h1 (hv 0 a v0 rfl rfl)
        obtain ⟨i1, i2, i3, i4, i5⟩ := takeL_ok hE hl hr h2 (vs := vs) (by simpa using hlen) (fun j a v b1 b2 => hv (j + 1) a v (by simpa using b1) (by simpa using b2))
        refine ⟨by simp [i1], by simp [i2], fun pd j0 => by rw [entsL, srcs, List.map_append]; exact congr (congrArg _ (a2 _)) (i3 pd (j0 + 1)), fun y hy => ?_, ?_⟩
        · rcases List.mem_append.1 hy with hy | hy
          · exact a3 y hy
          · exact i4 y hy
        · intro j f' t' v hf ht hvj d pd j0 g' hfz htk
          rw [entsL] at htk
          cases j with
          | zero =>
            simp at hf ht hvj; subst hf; subst ht; subst hvj
            exact a4 d (pd ++ [.fld j0]) g' hfz htk.left
          | succ j =>
            have := i5 j f' t' v (by simpa using hf) (by simpa using ht) (by simpa using hvj) d pd (j0 + 1) g' hfz htk.right
            rw [show j0 + 1 + j = j0 + (j + 1) by omega] at this
            simpa [O.fld] using this
      · cases h
end
end
end Go.Proofs.YtfelodpbejdhlaaDoor.Ra
/- What is moved, told anew; what is left behind. -/
namespace Go.Proofs.YtfelodpbejdhlaaDoor.Ra
open Go Go.RowKit

theorem split_irrefl : ∀ (p : List Step), split p p = false
  | [] => rfl
  | .idx _ :: _ => rfl
  | .fld i :: p => by simp [split, split_irrefl p, show Nat.beq i i = true from Nat.beq_refl i]
theorem nbeq {a b : Nat} : Nat.beq a b = decide (a = b) := by
  cases h : Nat.beq a b with
  | true => have := Nat.eq_of_beq_eq_true h; simp [this]
  | false => by_cases hab : a = b
             · subst hab; rw [Nat.beq_refl] at h; cases h
             · simp [hab]
theorem mem_iff {n : Nat} {l : List Nat} : mem n l = true ↔ n ∈ l := by
  induction l with
  | nil => simp [mem]
  | cons k l ih => simp only [mem, nbeq, Bool.or_eq_true, decide_eq_true_eq, List.mem_cons, ih, eq_comm (a := k)]
theorem mvOk_cons {r : Nat} {p : List Step} {l : List (Nat × List Step)} (h : mvOk ((r, p) :: l) = true) : (∀ x ∈ l, r ≠ x.1 ∨ split p x.2 = true) ∧ mvOk l = true := by
  simp only [mvOk, Bool.and_eq_true, List.all_eq_true] at h
  refine ⟨fun x hx => ?_, h.2⟩
  have := h.1 x hx
  simp only [Bool.or_eq_true, Bool.not_eq_true', nbeq, decide_eq_false_iff_not] at this
  exact this
theorem mvOk_pair : ∀ {es : List Ent}, mvOk (srcs es) = true → ∀ {e e' : Ent}, e ∈ es → e' ∈ es → e = e' ∨ e.1 ≠ e'.1 ∨ split e.2.1 e'.2.1 = true
  | [], _, _, _, h, _ => by cases h
  | x :: es, hm, e, e', h, h' => by
    obtain ⟨m1, m2⟩ := mvOk_cons (r := x.1) (p := x.2.1) (l := srcs es) hm
    rcases List.mem_cons.1 h with k | k
    · rcases List.mem_cons.1 h' with k' | k'
      · exact .inl (k.trans k'.symm)
      · rw [k]; exact .inr (m1 (e'.1, e'.2.1) (List.mem_map.2 ⟨e', k', rfl⟩))
    · rcases List.mem_cons.1 h' with k' | k'
      · rw [k']
        rcases m1 (e.1, e.2.1) (List.mem_map.2 ⟨e, k, rfl⟩) with h1 | h1
        · exact .inr (.inl (Ne.symm h1))
        · exact .inr (.inr (split_comm h1))
      · exact mvOk_pair m2 k k'

/-- It goes with what is moved. -/
def Goesw (es : List Ent) (g : Gh) (b : Nat) : Prop := ∃ e ∈ es, ∃ q, g b = .at e.1 (e.2.1 ++ q)
open Classical in
noncomputable def go (es : List Ent) (d : Nat) (g : Gh) : Gh := fun b =>
  if h : ∃ x : Own, ∃ e ∈ es, ∃ q, g b = .at e.1 (e.2.1 ++ q) ∧ x = .at d (e.2.2 q) then h.choose else g b
theorem go_tks {es : List Ent} {d : Nat} {g : Gh} (hm : mvOk (srcs es) = true) : Tks es d g (go es d g) := by
  intro e he b q hb
  have h : ∃ x : Own, ∃ e ∈ es, ∃ q, g b = .at e.1 (e.2.1 ++ q) ∧ x = .at d (e.2.2 q) := ⟨_, e, he, q, hb, rfl⟩
  unfold go
  rw [dif_pos h]
  obtain ⟨e', h1, q', h2, h3⟩ := h.choose_spec
  rw [h3]
  rw [hb] at h2
  simp only [Own.at.injEq] at h2
  obtain ⟨e1, e2⟩ := h2
  rcases mvOk_pair hm h1 he with h' | h' | h'
  · subst h'
    rw [List.append_cancel_left e2]
  · exact absurd e1.symm h'
  · have p1 : e'.2.1 <+: (e.2.1 ++ q) := by rw [e2]; exact List.prefix_append _ _
    exact absurd (List.prefix_append e.2.1 q) (split_not_pre h' p1)
theorem go_other {es : List Ent} {d : Nat} {g : Gh} {b : Nat} (h : ¬ Goesw es g b) : go es d g b = g b := by
  unfold go; rw [dif_neg]; rintro ⟨_, e, he, q, hq, _⟩; exact h ⟨e, he, q, hq⟩
theorem go_frz {es : List Ent} {d : Nat} {g : Gh} {b : Nat} (h : g b = .frz) : go es d g b = .frz := by
  rw [go_other, h]; rintro ⟨e, _, q, hq⟩; rw [h] at hq; cases hq
theorem go_free {es : List Ent} {d : Nat} {g : Gh} {b : Nat} (h : g b = .free) : go es d g b = .free := by
  rw [go_other, h]; rintro ⟨e, _, q, hq⟩; rw [h] at hq; cases hq
theorem go_hd {es : List Ent} {d : Nat} {g : Gh} {b r : Nat} (h : g b = .hd r) : go es d g b = .hd r := by
  rw [go_other, h]; rintro ⟨e, _, q, hq⟩; rw [h] at hq; cases hq
theorem go_notfree {es : List Ent} {d : Nat} {g : Gh} {b : Nat} (h : go es d g b ≠ .free) : g b ≠ .free := fun h' => h (go_free h')

theorem get_append (o : O) : ∀ (p q : List Step), o.get (p ++ q) = (o.get p).get q := by
  intro p
  induction p generalizing o with
  | nil => intro q; rfl
  | cons s p ih => intro q; cases s <;> exact ih _ q
theorem way_of {p : List Step} : ∀ {o : O}, allFld p = true → o.get p ≠ .dead → o.way p = true := by
  induction p with
  | nil => intro o _ _; rfl
  | cons s p ih =>
    intro o hp hg
    cases s with
    | idx i => simp [allFld] at hp
    | fld j =>
      have h1 : (o.fld j).way p = true := ih (by simpa [allFld] using hp) hg
      cases o with
      | dead => exact absurd (get_dead _) hg
      | _ => simpa [O.way] using h1

section
variable {E : Env} {w : World} {g : Gh} {rt look : Nat → Option Rt} {hold : Nat → Place}

def mvStep (E : Env) (r : Nat) (R? : Option Rt) (x : Nat × List Step) : Option Rt :=
  bif Nat.beq x.1 r then (match R?, x.2 with
    | some R, _ :: _ => some { R with o := O.set E R.ty R.o x.2 .dead }
    | some R, [] => bif R.box then some { R with o := .dead } else none
    | none, _ => none) else R?
theorem moved_eq (mv : List (Nat × List Step)) (r : Nat) (R : Rt) : moved E mv r R = mv.foldl (mvStep E r) (some R) := by
  unfold moved
  congr 1
theorem mvStep_other {r : Nat} {R : Option Rt} {x : Nat × List Step} (h : x.1 ≠ r) : mvStep E r R x = R := by
  unfold mvStep; rw [nbeq]; simp [h]
theorem foldl_other {r : Nat} {R : Option Rt} : ∀ {l : List (Nat × List Step)}, (∀ x ∈ l, x.1 ≠ r) → l.foldl (mvStep E r) R = R
  | [], _ => rfl
  | x :: l, h => by
    rw [List.foldl_cons, mvStep_other (h x (by simp))]
    exact foldl_other fun y hy => h y (by simp [hy])

theorem moved_ok {r ty₀ : Nat} : ∀ {l : List (Nat × List Step)}, mvOk l = true → (∀ p, (r, p) ∈ l → allFld p = true ∧ ∃ ty κ, Sub E w g r ty₀ [] (hold r) p ty κ) →
    ∀ {R : Rt}, R.ty = ty₀ → Rep E w g ty₀ R.t R.o r [] (hold r) → (∀ p, (r, p) ∈ l → R.o.get p ≠ .dead) →
    match l.foldl (mvStep E r) (some R) with
    | none => R.box = false ∧ (r, []) ∈ l
    | some R1 => R1.ty = ty₀ ∧ R1.t = R.t ∧ R1.box = R.box ∧ Rep E w g ty₀ R1.t R1.o r [] (hold r) ∧ (∀ p, (r, p) ∈ l → R1.o.get p = .dead) ∧ (R.box = false → (r, []) ∉ l) ∧
        ∀ p ty κ, Sub E w g r ty₀ [] (hold r) p ty κ → allFld p = true → (∀ p', (r, p') ∈ l → split p' p = true) → R1.o.get p = R.o.get p ∧ (R.o.way p = true → R1.o.way p = true)
  | [], _, _, R, hty, hR, _ => ⟨hty, rfl, rfl, hR, by simp, by simp, fun p ty κ _ _ _ => ⟨rfl, id⟩⟩
  | (r', p) :: l, hm, hs, R, hty, hR, hg => by
    obtain ⟨m1, m2⟩ := mvOk_cons hm
    rw [List.foldl_cons]
    by_cases hr : r' = r
    · subst hr
      obtain ⟨f1, ty1, κ1, s1⟩ := hs p (by simp)
      cases p with
      | nil =>
        have hno : ∀ x ∈ l, x.1 ≠ r' := fun x hx => by
          rcases m1 x hx with h | h
          · exact Ne.symm h
          · simp [split] at h
        have hno' : ∀ p, (r', p) ∉ l := fun p hp => hno _ hp rfl
        rw [foldl_other hno]
        simp only [mvStep, Nat.beq_refl, cond_true]
        cases hbx : R.box with
        | false => exact ⟨by simp, by simp⟩
        | true =>
          simp only [cond_true]
          refine ⟨hty, trivial, trivial, .dead, fun p hp => ?_, by simp, fun p ty κ _ _ h => ?_⟩
          · exact get_dead p
          · have := h [] (by simp); simp [split] at this
      | cons s p =>
        have hstep : mvStep E r' (some R) (r', s :: p) = some { R with o := O.set E R.ty R.o (s :: p) .dead } := by
          simp [mvStep, show Nat.beq r' r' = true from Nat.beq_refl r']
        rw [hstep]
        have hput := OPut_set s1 (o := R.o) (x := .dead) f1
        have hrep : Rep E w g ty₀ R.t (O.set E R.ty R.o (s :: p) .dead) r' [] (hold r') := by
          rw [hty]
          exact Rep.leave s1 hR f1 (way_of f1 (hg _ (by simp))) hput
        have htl : ∀ q, (r', q) ∈ l → split (s :: p) q = true := fun q hq => by
          rcases m1 _ hq with h | h
          · exact absurd rfl h
          · exact h
        have ih := moved_ok m2 (fun q hq => hs q (by simp [hq])) (R := { R with o := O.set E R.ty R.o (s :: p) .dead }) hty hrep (fun q hq => by
          obtain ⟨_, ty2, κ2, s2⟩ := hs q (by simp [hq])
          have := (set_split s1 s2 (htl q hq) (o := R.o) (x := .dead)).1
          simp only
          rw [hty, this]
          exact hg q (by simp [hq]))
        split
        · rename_i he; rw [he] at ih; exact ⟨ih.1, by simp [ih.2]⟩
        · rename_i R1 he; rw [he] at ih
          obtain ⟨i1, i2, i3, i4, i5, i6, i7⟩ := ih
          refine ⟨i1, i2, i3, i4, fun q hq => ?_, fun hb => by simpa using i6 hb, fun q ty κ hsq hfq hall => ?_⟩
          · rcases List.mem_cons.1 hq with hq | hq
            · cases hq
              rw [(i7 (s :: p) ty1 κ1 s1 f1 (fun p' hp' => split_comm (htl p' hp'))).1]
              simp only; rw [hty]
              exact set_self s1 f1
            · exact i5 q hq
          · obtain ⟨j1, j2⟩ := i7 q ty κ hsq hfq (fun p' hp' => hall p' (by simp [hp']))
            have := set_split s1 hsq (hall _ (by simp)) (o := R.o) (x := .dead)
            simp only at j1 j2
            rw [hty] at j1 j2
            exact ⟨j1.trans this.1, fun hw => j2 (this.2 hw)⟩
    · rw [mvStep_other (x := (r', p)) hr]
      have ih := moved_ok m2 (fun q hq => hs q (by simp [hq])) hty hR (fun q hq => hg q (by simp [hq]))
      split
      · rename_i he; rw [he] at ih; exact ⟨ih.1, by simp [ih.2]⟩
      · rename_i R1 he; rw [he] at ih
        obtain ⟨i1, i2, i3, i4, i5, i6, i7⟩ := ih
        refine ⟨i1, i2, i3, i4, fun q hq => ?_, fun hb => ?_, fun q ty κ hsq hfq hall => i7 q ty κ hsq hfq fun p' hp' => hall p' (by simp [hp'])⟩
        · rcases List.mem_cons.1 hq with hq | hq
          · cases hq; exact absurd rfl hr
          · exact i5 q hq
        · intro hc
          rcases List.mem_cons.1 hc with hq | hq
          · cases hq; exact absurd rfl hr
          · exact i6 hb hq
end

theorem assoc_map_fn {α : Type} (f : Nat → α) : ∀ (l : List Nat) (r : Nat), assoc (l.map fun r => (r, f r)) r = if r ∈ l then some (f r) else none
  | [], r => by simp [assoc]
  | k :: l, r => by
    simp only [List.map_cons, assoc, assoc_map_fn f l r, nbeq, List.mem_cons]
    by_cases h : k = r
    · subst h; simp
    · simp [h, Ne.symm h]
theorem rootsOf_mem {mv : List (Nat × List Step)} {r : Nat} : r ∈ rootsOf mv ↔ ∃ p, (r, p) ∈ mv := by
  simp [rootsOf, List.mem_eraseDups]
theorem assoc_movedAll {E : Env} {look : Nat → Option Rt} {mv : List (Nat × List Step)} (r : Nat) :
    assoc (movedAll E look mv) r = if r ∈ rootsOf mv then some ((look r).bind (moved E mv r)) else none := assoc_map_fn _ _ _
def killKind (look : Nat → Option Rt) (r : Nat) (p : List Step) : Nat :=
  bif p.isEmpty then (match look r with | some R => bif R.box then 2 else 0 | none => 0) else (match look r with | some R => bif R.box then 2 else 1 | none => 0)
theorem killMv_eq (look : Nat → Option Rt) (mv : List (Nat × List Step)) : killMv look mv = mv.map fun x => (x.1, killKind look x.1 x.2) := rfl
theorem assoc_killMv {look : Nat → Option Rt} {r : Nat} : ∀ {mv : List (Nat × List Step)}, (∃ p, (r, p) ∈ mv) → ∃ p, (r, p) ∈ mv ∧ assoc (killMv look mv) r = some (killKind look r p)
  | [], h => by obtain ⟨p, h⟩ := h; cases h
  | (r', p') :: mv, h => by
    rw [killMv_eq, List.map_cons]
    simp only [assoc, nbeq]
    by_cases hr : r' = r
    · subst hr; exact ⟨p', by simp, by simp⟩
    · obtain ⟨p, hp⟩ := h
      rcases List.mem_cons.1 hp with hp | hp
      · cases hp; exact absurd rfl hr
      · obtain ⟨q, h1, h2⟩ := assoc_killMv (mv := mv) (look := look) ⟨p, hp⟩
        exact ⟨q, by simp [h1], by simp only [hr, decide_false, cond_false]; exact h2⟩
theorem mvOk_nil {r : Nat} : ∀ {mv : List (Nat × List Step)}, mvOk mv = true → (r, []) ∈ mv → ∀ {p}, (r, p) ∈ mv → p = []
  | [], _, h, _, _ => by cases h
  | (r', p') :: mv, hm, h, p, hp => by
    obtain ⟨m1, m2⟩ := mvOk_cons hm
    rcases List.mem_cons.1 h with k | k
    · cases k
      rcases List.mem_cons.1 hp with k' | k'
      · cases k'; rfl
      · rcases m1 _ k' with h | h
        · exact absurd rfl h
        · simp [split] at h
    · rcases List.mem_cons.1 hp with k' | k'
      · cases k'
        rcases m1 _ k with h | h
        · exact absurd rfl h
        · cases p' with
          | nil => rfl
          | cons s p => cases s <;> simp [split] at h
      · exact mvOk_nil m2 k k'
end Go.Proofs.YtfelodpbejdhlaaDoor.Ra
/- One root laid or turned, others moved into it: all is kept. -/
namespace Go.Proofs.YtfelodpbejdhlaaDoor.Ra
open Go Go.RowKit

section
variable {E : Env} {n : Nat} {st : St} {a : Act} {w : World} {g : Gh} {hold : Nat → Place} {look : Nat → Option Rt}

theorem SameBlk.rd {w w' : World} {b : Nat} (h : SameBlk w w' b) (o : Nat) : rd w' (.mem b o) = rd w (.mem b o) := h.1 o

def newRt (E : Env) (look : Nat → Option Rt) (st : St) (d : Nat) (Rd : Option Rt) (mv : List (Nat × List Step)) : Nat → Option Rt := fun r =>
  match assoc ((d, Rd) :: movedAll E look mv) r with | some x => x | none => st.rt r
theorem newRt_self {d : Nat} {Rd : Option Rt} {mv : List (Nat × List Step)} : newRt E look st d Rd mv d = Rd := by
  simp [newRt, assoc, nbeq]
theorem newRt_in {d r : Nat} {Rd : Option Rt} {mv : List (Nat × List Step)} (h : r ≠ d) (hr : r ∈ rootsOf mv) : newRt E look st d Rd mv r = (look r).bind (moved E mv r) := by
  simp only [newRt, assoc, nbeq, Ne.symm h, decide_false, cond_false, assoc_movedAll, hr, if_true]
theorem newRt_out {d r : Nat} {Rd : Option Rt} {mv : List (Nat × List Step)} (h : r ≠ d) (hr : r ∉ rootsOf mv) : newRt E look st d Rd mv r = st.rt r := by
  simp only [newRt, assoc, nbeq, Ne.symm h, decide_false, cond_false, assoc_movedAll, hr, if_false]
theorem applyU_rt {d : Nat} {dst : Option Nat} {Rd : Option Rt} {mv : List (Nat × List Step)} {av : AV} {ks : Ks} :
    (applyU dst ⟨av, (d, Rd) :: movedAll E look mv, ks⟩ st).rt = newRt E look st d Rd mv := rfl

/-- What is left of a root that others took from. -/
theorem left_ok (hE : TyWf E) (h : Inv E n st a w g hold) (hl : ∀ r R, look r = some R → st.rt r = some R) {es : List Ent} (hm : mvOk (srcs es) = true)
    (hs : ∀ x ∈ srcs es, SrcOk E w g st.rt look hold x) {r : Nat} {R : Rt} (hR : st.rt r = some R) (hr : r ∈ rootsOf (srcs es)) :
    match (look r).bind (moved E (srcs es) r) with
    | none => R.box = false ∧ assoc (killMv look (srcs es)) r = some 0
    | some R1 => R1.ty = R.ty ∧ R1.t = R.t ∧ R1.box = R.box ∧ Rep E w g R.ty R.t R1.o r [] (hold r) ∧ (∀ p, (r, p) ∈ srcs es → R1.o.get p = .dead) ∧
        assoc (killMv look (srcs es)) r = some (if R.box then 2 else 1) ∧
        ∀ p ty κ, Sub E w g r R.ty [] (hold r) p ty κ → allFld p = true → (∀ p', (r, p') ∈ srcs es → split p' p = true) → R1.o.get p = R.o.get p ∧ (R.o.way p = true → R1.o.way p = true) := by
  obtain ⟨p0, hp0⟩ := rootsOf_mem.1 hr
  have src : ∀ p, (r, p) ∈ srcs es → look r = some R ∧ allFld p = true ∧ (∃ ty κ, Sub E w g r R.ty [] (hold r) p ty κ) ∧ R.o.get p ≠ .dead := by
    intro p hp
    obtain ⟨R', ty, e, κ, h1, h2, h3, h4, h5, h6, h7⟩ := (hs _ hp).ok
    simp only at h1 h2 h4 h5 h6 h7
    rw [hR] at h2; cases h2
    exact ⟨h1, h7, ⟨ty, κ, h4⟩, fun hd => by rw [hd] at h5; simp [O.own] at h5⟩
  have hlr := (src p0 hp0).1
  obtain ⟨p1, hp1, hk⟩ := assoc_killMv (look := look) ⟨p0, hp0⟩
  have := moved_ok (E := E) (w := w) (g := g) (hold := hold) (r := r) (ty₀ := R.ty) hm (fun p hp => ⟨(src p hp).2.1, (src p hp).2.2.1⟩) (R := R) rfl (h.rts r R hR).rep (fun p hp => (src p hp).2.2.2)
  rw [hlr, Option.bind_some, moved_eq]
  split
  · rename_i he
    rw [he] at this
    obtain ⟨t1, t2⟩ := this
    refine ⟨t1, ?_⟩
    have := mvOk_nil hm t2 hp1; subst this
    rw [hk]; simp [killKind, hlr, t1]
  · rename_i R1 he
    rw [he] at this
    obtain ⟨i1, i2, i3, i4, i5, i6, i7⟩ := this
    refine ⟨i1, i2, i3, by rw [← i2]; exact i4, i5, ?_, i7⟩
    rw [hk]
    cases hb : R.box with
    | true => simp [killKind, hlr, hb]
    | false =>
      have hne : p1 ≠ [] := fun hp => i6 hb (by rw [← hp]; exact hp1)
      cases p1 with
      | nil => exact absurd rfl hne
      | cons s p => simp [killKind, hlr, hb]

theorem turn_inv (hE : TyWf E) (h : Inv E n st a w g hold) (hl : ∀ r R, look r = some R → st.rt r = some R) {es : List Ent} (hm : mvOk (srcs es) = true)
    (hs : ∀ x ∈ srcs es, SrcOk E w g st.rt look hold x) {w' : World} {g' : Gh} {hold' : Nat → Place} {d kd : Nat} {dst : Option Nat} {Rd : Option Rt} {av : AV} {v : Value}
    (hdst : ∀ x, dst = some x → x < n)
    (hu : ∀ b, g b ≠ .free → ¬ Goesw es g b → g b ≠ .hd d → (∀ q, g b ≠ .at d q) → SameBlk w w' b ∧ g' b = g b)
    (hh : ∀ r, r ≠ d → hold' r = hold r)
    (hR : ∀ R, Rd = some R → RtOk E w' g' hold' d R)
    (hb : ∀ b, g' b ≠ .free → b < w'.heap.size)
    (hc : kd = 0 ∨ ∃ R R', st.rt d = some R ∧ Rd = some R' ∧ R'.ty = R.ty ∧ hold' d = hold d ∧ ((R.box = false ∧ kd = 1) ∨ (R.box = true ∧ kd = 2)))
    (hv : dst.isSome = true → AvOk E w' g' (newRt E look st d Rd (srcs es)) hold' av v) :
    Inv E n (applyU dst ⟨av, (d, Rd) :: movedAll E look (srcs es), (d, kd) :: killMv look (srcs es)⟩ st) (a.put dst v) w' g' hold' := by
  have hfrz : ∀ b, g b = .frz → SameBlk w w' b ∧ g' b = .frz := by
    intro b hb
    obtain ⟨h1, h2⟩ := hu b (by rw [hb]; simp) (by rintro ⟨e, _, q, hq⟩; rw [hb] at hq; cases hq) (by rw [hb]; simp) (by rw [hb]; simp)
    exact ⟨h1, by rw [h2, hb]⟩
  have hwrt : (applyU dst ⟨av, (d, Rd) :: movedAll E look (srcs es), (d, kd) :: killMv look (srcs es)⟩ st).rt = newRt E look st d Rd (srcs es) := rfl
  have hout : ∀ r, r ≠ d → r ∉ rootsOf (srcs es) → Keeps w g hold w' g' hold' r := by
    intro r hr hn
    refine ⟨hh r hr, fun b hb => ?_⟩
    have hng : ¬ Goesw es g b := by
      rintro ⟨e, he, q, hq⟩
      rcases hb with hb | ⟨s, hb⟩
      · rw [hb] at hq; cases hq
      · rw [hb] at hq; simp only [Own.at.injEq] at hq
        exact hn (rootsOf_mem.2 ⟨e.2.1, by rw [hq.1]; exact List.mem_map.2 ⟨e, he, rfl⟩⟩)
    refine hu b ?_ hng ?_ ?_
    · rcases hb with hb | ⟨s, hb⟩ <;> rw [hb] <;> simp
    · rcases hb with hb | ⟨s, hb⟩ <;> rw [hb] <;> simp [hr]
    · intro q; rcases hb with hb | ⟨s, hb⟩ <;> rw [hb] <;> simp [hr]
  refine h.apply hE hdst hfrz (Surv.of hE h.rts fun r R hr => ?_) (fun r R hr => ?_) hb (by rw [hwrt]; exact hv)
  · rw [hwrt]
    by_cases hrd : r = d
    · subst hrd
      rcases hc with rfl | ⟨R0, R', h1, h2, h3, h4, h5 | h5⟩
      · exact .dead (by simp [assoc, nbeq])
      · rw [hr] at h1; cases h1
        exact .val h5.1 (by rw [newRt_self]; exact h2) h3 h4 (by simp [assoc, nbeq, h5.2])
      · rw [hr] at h1; cases h1
        exact .box h5.1 (by rw [newRt_self]; exact h2) h3 h4 (by simp [assoc, nbeq, h5.2])
    · by_cases hrm : r ∈ rootsOf (srcs es)
      · have := left_ok hE h hl hm hs hr hrm
        have hks : ∀ k, assoc (killMv look (srcs es)) r = some k → assoc ((d, kd) :: killMv look (srcs es)) r = some k := by
          intro k hk; simp only [assoc, nbeq, Ne.symm hrd, decide_false, cond_false]; exact hk
        split at this
        · exact .dead (hks _ this.2)
        · rename_i R1 he
          obtain ⟨i1, i2, i3, i4, i5, i6, _⟩ := this
          have hn : newRt E look st d Rd (srcs es) r = some R1 := by rw [newRt_in hrd hrm]; exact he
          cases hbx : R.box with
          | true => exact .box hbx hn i1 (hh r hrd) (by rw [hks _ i6]; simp [hbx])
          | false => exact .val hbx hn i1 (hh r hrd) (by rw [hks _ i6]; simp [hbx])
      · exact .keep (by rw [newRt_out hrd hrm]; exact hr) (hout r hrd hrm)
  · rw [hwrt] at hr
    by_cases hrd : r = d
    · subst hrd; rw [newRt_self] at hr; exact hR R hr
    · by_cases hrm : r ∈ rootsOf (srcs es)
      · rw [newRt_in hrd hrm] at hr
        obtain ⟨p0, hp0⟩ := rootsOf_mem.1 hrm
        obtain ⟨R0, _, _, _, h1, h2, _⟩ := (hs _ hp0).ok
        simp only at h1 h2
        have := left_ok hE h hl hm hs h2 hrm
        rw [hr] at this
        obtain ⟨i1, i2, i3, i4, i5, _, _⟩ := this
        have ok := h.rts r R0 h2
        have hhd : ∀ b, g b = .hd r → SameBlk w w' b ∧ g' b = g b := fun b hb => hu b (by rw [hb]; simp) (by rintro ⟨e, _, q, hq⟩; rw [hb] at hq; cases hq)
          (by rw [hb]; simp [hrd]) (by rw [hb]; simp)
        refine ⟨?_, fun hb => ?_, fun hb => ?_⟩
        · rw [hh r hrd, i1, i2]
          refine i4.relocO hE (fun k _ => ?_) fun b hlo => ?_
          · cases hbx : R0.box with
            | true =>
              obtain ⟨b, o, e1, e2, _⟩ := ok.box hbx
              rw [e1]; exact (hhd b e2).1.1 _
            | false =>
              obtain ⟨vs, e1⟩ := ok.reg hbx
              rw [e1]; rfl
          · rcases hlo with hf | ⟨q, hq, hnd⟩
            · obtain ⟨f1, f2⟩ := hfrz b hf; exact ⟨f1, by rw [f2, hf]⟩
            · rw [List.nil_append] at hq
              refine hu b (by rw [hq]; simp) ?_ (by rw [hq]; simp) (by rw [hq]; simp [hrd])
              rintro ⟨e, he, q', hq'⟩
              rw [hq] at hq'; simp only [Own.at.injEq] at hq'
              obtain ⟨rfl, rfl⟩ := hq'
              apply hnd
              rw [get_append, i5 e.2.1 (List.mem_map.2 ⟨e, he, rfl⟩), get_dead]
        · obtain ⟨b, o, e1, e2, e3⟩ := ok.box (by rw [← i3]; exact hb)
          obtain ⟨f1, f2⟩ := hhd b e2
          exact ⟨b, o, by rw [hh r hrd, e1], by rw [f2, e2], by rw [i1]; exact f1.2 _ e3⟩
        · obtain ⟨vs, e1⟩ := ok.reg (by rw [← i3]; exact hb)
          exact ⟨vs, by rw [hh r hrd, e1]⟩
      · rw [newRt_out hrd hrm] at hr
        exact (h.rts r R hr).keep hE (hout r hrd hrm) hfrz
end
end Go.Proofs.YtfelodpbejdhlaaDoor.Ra
/- A new root: how it is laid. Operations that lay a fresh block. -/
namespace Go.Proofs.YtfelodpbejdhlaaDoor.Ra
open Go Go.RowKit

def wk (o' : O) (d : Nat) (g : Gh) : Gh := fun b => match g b with
  | .at r q => if r = d ∧ (o'.get q).isFz = true then .frz else .at r q
  | x => x
theorem wk_goes (o' : O) (d : Nat) (g : Gh) : Goes g (wk o' d g) d [] o' d [] := by
  refine ⟨fun b hb => by simp [wk, hb], fun b q hb => ?_⟩
  rw [List.nil_append] at hb
  simp [wk, hb]
theorem wk_other {o' : O} {d : Nat} {g : Gh} {b : Nat} (h : ∀ q, g b ≠ .at d q) : wk o' d g b = g b := by
  unfold wk
  split
  · rename_i r q hb
    rw [if_neg, hb]
    rintro ⟨rfl, _⟩; exact h q hb
  · rfl
theorem wk_free {o' : O} {d : Nat} {g : Gh} {b : Nat} (h : wk o' d g b ≠ .free) : g b ≠ .free := by
  intro hf; exact h (by rw [wk_other (by rw [hf]; simp), hf])

section
variable {P : Program} {E : Env} {n : Nat} {st : St} {a : Act} {w : World} {g : Gh} {hold : Nat → Place} {look : Nat → Option Rt}

theorem weak_ok {fi : Fi} {d : Nat} {R R' : Rt} {w' : World} {g₁ : Gh} {κ : Place} (hw : weakTo fi E d R = some R') (h : Rep E w' g₁ R.ty R.t R.o d [] κ) :
    R'.ty = R.ty ∧ R'.t = R.t ∧ R'.box = R.box ∧ ∃ g₂, Rep E w' g₂ R'.ty R'.t R'.o d [] κ ∧ (∀ b, (∀ q, g₁ b ≠ .at d q) → g₂ b = g₁ b) ∧ ∀ b, g₂ b ≠ .free → g₁ b ≠ .free := by
  unfold weakTo at hw
  split at hw
  · cases hw; exact ⟨rfl, rfl, rfl, g₁, h, fun _ _ => rfl, fun _ h => h⟩
  · rename_i o ho
    cases hle : O.le o R.o with
    | false => simp [hle] at hw
    | true =>
      simp only [hle, cond_true, Option.some.injEq] at hw
      subst hw
      exact ⟨rfl, rfl, rfl, wk o d g₁, h.move hle (wk_goes o d g₁), fun b hb => wk_other hb, fun b hb => wk_free hb⟩

theorem lay_ok (hE : TyWf E) (h : Inv E n st a w g hold) (hl : ∀ r R, look r = some R → st.rt r = some R) {es : List Ent} (hm : mvOk (srcs es) = true)
    (hs : ∀ x ∈ srcs es, SrcOk E w g st.rt look hold x) {fi : Fi} {d : Nat} {pre : Bool} {R : Rt} {e : Eff}
    (hlay : lay fi E pre d R (movedAll E look (srcs es)) (killMv look (srcs es)) = some e) {dst : Option Nat} (hdst : ∀ x, dst = some x → x < n) (hd9 : d < 100000)
    {w' : World} {g₁ : Gh} {κ : Place} {v : Value}
    (hu : ∀ b, g b ≠ .free → ¬ Goesw es g b → (∀ q, g b ≠ .at d q) → SameBlk w w' b ∧ g₁ b = g b)
    (hb : ∀ b, g₁ b ≠ .free → b < w'.heap.size)
    (hst : w'.os = w.os ∧ w'.tape = w.tape ∧ w'.output = w.output ∧ w.heap.size ≤ w'.heap.size)
    (hkeep : ∀ b, b < w.heap.size → (g b = .free ∨ g b = .frz) → w'.heap[b]? = w.heap[b]? ∧ g₁ b = g b)
    (hrep : Rep E w' g₁ R.ty R.t R.o d [] κ)
    (hcase : (R.box = false ∧ κ = .reg [v] 0 ∧ ∃ A k c e0, v = .slice A k c ∧ E.ty R.ty = .sl e0) ∨
      (R.box = true ∧ ∃ b o, κ = .mem b o ∧ v = .pointer (some ⟨b, o, none⟩) ∧ g₁ b = .hd d ∧ BlkOk w' b (o + E.sz R.ty))) :
    e.pre = pre ∧ e.g = true ∧ e.req = none ∧ ∃ g' hold', Stp w g w' g' ∧ Sld hold hold' ∧ Inv E n (applyU dst (e.ret []) st) (a.put dst v) w' g' hold' := by
  unfold lay at hlay
  split at hlay
  · cases hlay
  rename_i R' hw
  obtain ⟨e1, e2, e3, g₂, hrep₂, hg₂, hfr⟩ := weak_ok hw hrep
  have hstp : Stp w g w' g₂ := ⟨hst.1, hst.2.1, hst.2.2.1, hst.2.2.2, fun b hb hfree => by
    obtain ⟨k1, k2⟩ := hkeep b hb hfree
    refine ⟨k1, ?_⟩
    rw [hg₂ b, k2]
    intro q; rw [k2]; rcases hfree with hf | hf <;> rw [hf] <;> simp⟩
  have hu₂ : ∀ b, g b ≠ .free → ¬ Goesw es g b → g b ≠ .hd d → (∀ q, g b ≠ .at d q) → SameBlk w w' b ∧ g₂ b = g b := by
    intro b h1 h2 _ h4
    obtain ⟨k1, k2⟩ := hu b h1 h2 h4
    exact ⟨k1, by rw [hg₂ b (fun q => by rw [k2]; exact h4 q), k2]⟩
  have hb₂ : ∀ b, g₂ b ≠ .free → b < w'.heap.size := fun b hb' => hb b (hfr b hb')
  let hold' : Nat → Place := fun r => if r = d then κ else hold r
  have hh : ∀ r, r ≠ d → hold' r = hold r := fun r hr => by simp [hold', hr]
  have hd : hold' d = κ := by simp [hold']
  generalize hz : (R'.o.isFz && !R'.box) = z at hlay
  cases z with
  | true =>
    simp only [cond_true, Option.some.injEq] at hlay; subst hlay
    simp only [Bool.and_eq_true, Bool.not_eq_true'] at hz
    rcases hcase with ⟨c1, c2, A, k, c, e0, c3, c4⟩ | ⟨c1, _⟩
    · refine ⟨rfl, rfl, rfl, g₂, hold', hstp, fun r hr => hh r (by omega), turn_inv hE h hl hm hs hdst hu₂ hh (fun R hR => by cases hR) hb₂ (.inl rfl) fun _ => ?_⟩
      subst c2; subst c3
      refine .val ?_ (shaped_one hE (by rw [e1, c4]; trivial) rfl)
      have : R'.o = .fz := by cases ho : R'.o <;> rw [ho] at hz <;> simp [O.isFz] at hz; 
      exact hrep₂.frozen this (fun _ h => h) _ _
    · rw [e3, c1] at hz; simp at hz
  | false =>
    simp only [cond_false, Option.some.injEq] at hlay; subst hlay
    have hroot : RtOk E w' g₂ hold' d R' := by
      refine ⟨by rw [hd]; exact hrep₂, fun hbx => ?_, fun hbx => ?_⟩
      · rcases hcase with ⟨c1, _⟩ | ⟨_, b, o, c2, _, c4, c5⟩
        · rw [e3, c1] at hbx; cases hbx
        · exact ⟨b, o, by rw [hd, c2], by rw [hg₂ b (fun q => by rw [c4]; simp), c4], by rw [e1]; exact c5⟩
      · rcases hcase with ⟨_, c2, _⟩ | ⟨c1, _⟩
        · exact ⟨[v], by rw [hd, c2]⟩
        · rw [e3, c1] at hbx; cases hbx
    refine ⟨rfl, rfl, rfl, g₂, hold', hstp, fun r hr => hh r (by omega), turn_inv hE h hl hm hs hdst hu₂ hh (fun R hR => by cases hR; exact hroot) hb₂ (.inl rfl) fun _ => ?_⟩
    rcases hcase with ⟨c1, c2, A, k, c, e0, c3, c4⟩ | ⟨c1, b, o, c2, c3, _⟩
    · rw [e3, c1]
      subst c3; subst c2
      exact .sref (R := R') newRt_self (by rw [e1, c4]) (by rw [hd]; exact .nil) rfl
    · rw [e3, c1]
      subst c3; subst c2
      exact .pref (R := R') newRt_self (by rw [hd]; exact .nil)

/-- One block more. -/
structure Gr (w w' : World) (c : Array Value) (e : TypeId) : Prop where
  heap : w'.heap = w.heap.push (.cells c e (0, 0))
  os : w'.os = w.os
  tape : w'.tape = w.tape
  output : w'.output = w.output
theorem Gr.alloc (w : World) (c : Array Value) (e : TypeId) : Gr w (w.alloc (.cells c e)) c e := ⟨rfl, rfl, rfl, rfl⟩
theorem Gr.drew (w : World) (c : Array Value) (e : TypeId) : Gr w (w.drew.alloc (.cells c e)) c e := ⟨rfl, rfl, rfl, rfl⟩
theorem Gr.old {w w' : World} {c : Array Value} {e : TypeId} (h : Gr w w' c e) {b : Nat} (hb : b < w.heap.size) : w'.heap[b]? = w.heap[b]? := by
  rw [h.heap, Array.getElem?_push_lt hb]; simp [hb]
theorem Gr.same {w w' : World} {c : Array Value} {e : TypeId} (h : Gr w w' c e) {b : Nat} (hb : b < w.heap.size) : SameBlk w w' b := .of_heap (h.old hb)
theorem Gr.cell {w w' : World} {c : Array Value} {e : TypeId} (h : Gr w w' c e) (k : Nat) : w'.cell? ⟨w.heap.size, k, none⟩ = c[k]? := by
  simp [World.cell?, h.heap]
theorem Gr.blk {w w' : World} {c : Array Value} {e : TypeId} (h : Gr w w' c e) {k : Nat} (hk : k ≤ c.size) : BlkOk w' w.heap.size k :=
  ⟨c, e, by simp [h.heap], hk⟩
theorem Gr.size {w w' : World} {c : Array Value} {e : TypeId} (h : Gr w w' c e) : w'.heap.size = w.heap.size + 1 := by simp [h.heap]

/-- Laid in a fresh block. -/
theorem fresh_ok (hE : TyWf E) (h : Inv E n st a w g hold) (hl : ∀ r R, look r = some R → st.rt r = some R) {es : List Ent} (hm : mvOk (srcs es) = true)
    (hs : ∀ x ∈ srcs es, SrcOk E w g st.rt look hold x) {fi : Fi} {d : Nat} {pre : Bool} {R : Rt} {e : Eff}
    (hlay : lay fi E pre d R (movedAll E look (srcs es)) (killMv look (srcs es)) = some e) {dst : Option Nat} (hdst : ∀ x, dst = some x → x < n) (hd9 : d < 100000)
    {w' : World} {c : Array Value} {ce : TypeId} (hgr : Gr w w' c ce) {κ : Place} {v : Value} {g₁ : Gh}
    (hg₁ : ∀ b, b < w.heap.size → (∀ q, go es d g b ≠ .at d q) → g₁ b = go es d g b) (hf₁ : ∀ b, g₁ b ≠ .free → b = w.heap.size ∨ go es d g b ≠ .free)
    (hrep : Rep E w' g₁ R.ty R.t R.o d [] κ)
    (hcase : (R.box = false ∧ κ = .reg [v] 0 ∧ ∃ A k c e0, v = .slice A k c ∧ E.ty R.ty = .sl e0) ∨
      (R.box = true ∧ κ = .mem w.heap.size 0 ∧ v = .pointer (some ⟨w.heap.size, 0, none⟩) ∧ g₁ w.heap.size = .hd d ∧ E.sz R.ty ≤ c.size)) :
    e.pre = pre ∧ e.g = true ∧ e.req = none ∧ ∃ g' hold', Stp w g w' g' ∧ Sld hold hold' ∧ Inv E n (applyU dst (e.ret []) st) (a.put dst v) w' g' hold' := by
  have hlt : ∀ b, g b ≠ .free → b < w.heap.size := h.bnd
  refine lay_ok hE h hl hm hs hlay hdst hd9 (fun b hb hng hnd => ?_) (fun b hb => ?_) ⟨hgr.os, hgr.tape, hgr.output, by rw [hgr.size]; omega⟩ (fun b hb hfr => ?_) hrep ?_
  · have := hlt b hb
    exact ⟨hgr.same this, by rw [hg₁ b this (by rw [go_other hng]; exact hnd), go_other hng]⟩
  · rw [hgr.size]
    rcases hf₁ b hb with rfl | hb
    · omega
    · have := hlt b (go_notfree hb); omega
  · refine ⟨hgr.old hb, ?_⟩
    have hng : ¬ Goesw es g b := by
      rintro ⟨e, _, q, hq⟩
      rcases hfr with hf | hf <;> rw [hf] at hq <;> cases hq
    rw [hg₁ b hb (by rw [go_other hng]; intro q; rcases hfr with hf | hf <;> rw [hf] <;> simp), go_other hng]
  · rcases hcase with hc | ⟨c1, c2, c3, c4, c5⟩
    · exact .inl hc
    · exact .inr ⟨c1, _, _, c2, c3, c4, by simpa using hgr.blk c5⟩

/-- How blocks are told with a fresh one. -/
noncomputable def fg (es : List Ent) (d : Nat) (g : Gh) (w : World) (own : Own) : Gh := fun b => if b = w.heap.size then own else go es d g b
theorem fg_new {es : List Ent} {d : Nat} {g : Gh} {w : World} {own : Own} : fg es d g w own w.heap.size = own := if_pos rfl
theorem fg_old {es : List Ent} {d : Nat} {g : Gh} {w : World} {own : Own} {b : Nat} (h : b < w.heap.size) : fg es d g w own b = go es d g b := if_neg (by omega)
theorem fg_free {es : List Ent} {d : Nat} {g : Gh} {w : World} {own : Own} {b : Nat} (h : fg es d g w own b ≠ .free) : b = w.heap.size ∨ go es d g b ≠ .free := by
  unfold fg at h
  by_cases hb : b = w.heap.size
  · exact .inl hb
  · rw [if_neg hb] at h; exact .inr h
theorem Leans.nf {g : Gh} {r : Nat} {p : List Step} {b : Nat} (h : Leans g r p b) : g b ≠ .free := by
  rcases h with h | ⟨q, h⟩ <;> rw [h] <;> simp
/-- A reading goes on to hold, with a fresh block. -/
theorem Rep.fresh (hE : TyWf E) (hbnd : ∀ b, g b ≠ .free → b < w.heap.size) {es : List Ent} {d : Nat} {w' : World} {c : Array Value} {ce : TypeId} (hgr : Gr w w' c ce) {own : Own}
    {ty : Nat} {t : T} {o : O} {p : List Step} {κ κ' : Place} (h : Rep E w (go es d g) ty t o d p κ) (hk : ∀ k, k < E.sz ty → rd w' (κ'.add k) = rd w (κ.add k)) :
    Rep E w' (fg es d g w own) ty t o d p κ' :=
  h.reloc hE hk fun b hb => by
    have := hbnd b (go_notfree hb.nf)
    exact ⟨hgr.same this, fg_old this⟩
end
end Go.Proofs.YtfelodpbejdhlaaDoor.Ra
/- alloc, box, make. -/
namespace Go.Proofs.YtfelodpbejdhlaaDoor.Ra
open Go Go.RowKit

section
variable {P : Program} {E : Env} {n : Nat} {st : St} {a : Act} {w : World} {g : Gh} {hold : Nat → Place} {look : Nat → Option Rt} {o : Oper} {b : Bool}

/-- What an operation that is no call comes to. -/
def Acts (P : Program) (E : Env) (n : Nat) (st : St) (a : Act) (w : World) (g : Gh) (hold : Nat → Place) (o : Oper) (e : Eff) : Prop :=
  e.g = true ∧ e.req = none ∧ (e.pre = true → Does P E n st a w g hold o (e.ret []))
theorem Ylds.acts (hE : TyWf E) (h : Inv E n st a w g hold) (hd : ∀ x, o.dst = some x → x < n) {e : Eff} (hy : Ylds P E st a w g hold o e) : Acts P E n st a w g hold o e := by
  obtain ⟨av, he, hy⟩ := hy
  rw [he]
  refine ⟨rfl, rfl, fun hp => ?_⟩
  exact (hy hp).does hE h hd

theorem Acts.mk {e : Eff} {pre : Bool} {v : Value} (hres : pre = true → ∃ w', (execOp a.eval o).run P w = .ok (.value v) w' ∧
      (e.pre = pre ∧ e.g = true ∧ e.req = none ∧ ∃ g' hold', Stp w g w' g' ∧ Sld hold hold' ∧ Inv E n (applyU o.dst (e.ret []) st) (a.put o.dst v) w' g' hold'))
    (h0 : e.pre = pre ∧ e.g = true ∧ e.req = none) : Acts P E n st a w g hold o e := by
  refine ⟨h0.2.1, h0.2.2, fun hp => ?_⟩
  obtain ⟨w', hr, _, _, _, g', hold', h1, h2⟩ := hres (by rw [← h0.1]; exact hp)
  exact ⟨_, w', v, g', hold', hr, .inl rfl, h1, h2⟩
theorem lay_shape {fi : Fi} {pre : Bool} {d : Nat} {R : Rt} {mvs : Wr} {ks : Ks} {e : Eff} (h : lay fi E pre d R mvs ks = some e) : e.pre = pre ∧ e.g = true ∧ e.req = none := by
  unfold lay at h
  split at h
  · cases h
  · rename_i R' _
    cases hz : (R'.o.isFz && !R'.box) <;> simp [hz] at h <;> subst h <;> exact ⟨rfl, rfl, rfl⟩

theorem run_valueW {w' : World} (s : Sem Value) (v : Value) (h : s.run P w = .ok v w') : (do pure (Next.value (← s)) : Sem Next).run P w = .ok (.value v) w' := by
  simp [h]
theorem srcs_nil : srcs [] = [] := rfl
theorem mvOk_nil' : mvOk (srcs []) = true := rfl

theorem alloc_ok (hP : PrOk P E) (h : Inv E n st a w g hold) (hd : ∀ x, o.dst = some x → x < n) {fi : Fi} {t d : Nat} {e : Eff} (hop : o.op = .alloc t) (hz : E.zok t = true)
    (hd9 : d < 100000) (he : lay fi E true d ⟨t, E.zero t, .dp, true⟩ [] [] = some e) : Acts P E n st a w g hold o e := by
  obtain ⟨hok, i, z, hi, hiz, hsh, hzc⟩ := hP.zero t hz
  refine Acts.mk (v := .pointer (some ⟨w.heap.size, 0, none⟩)) (fun _ => ⟨w.alloc (.cells z.cells t), ?_, ?_⟩) (lay_shape he)
  · simp [execOp, hop, Instr.alloc, zeroValue, typeInfo, hi, hiz, newVar, newRow]
  · have hgr := Gr.alloc w z.cells t
    refine fresh_ok (look := st.rt) (es := []) hP.wf h (fun _ _ h => h) mvOk_nil' (fun x hx => by cases hx) he hd hd9 hgr (g₁ := fg [] d g w (.hd d)) (fun b hb _ => fg_old hb) (fun b hb => fg_free hb)
      (κ := .mem w.heap.size 0) ?_ (.inr ⟨rfl, rfl, rfl, fg_new, by rw [← hsh.1]; exact Nat.le_refl _⟩)
    refine (hP.zrep t hz w _ d []).fresh hP.wf h.bnd hgr (fun k _ => ?_)
    simp only [Place.add, Nat.zero_add, rd]
    rw [hgr.cell, ← hzc]; simp

theorem box_ok (hP : PrOk P E) (h : Inv E n st a w g hold) (hl : ∀ r R, look r = some R → st.rt r = some R) (hd : ∀ x, o.dst = some x → x < n) {fi : Fi} {t d : Nat} {x : Operand} {e : Eff}
    (hop : o.op = .box t x) {av : AV} (hv : b = true → AvOk E w g st.rt hold av (a.eval x)) (hd9 : d < 100000) (he : boxE fi E look d t b av = some e) : Acts P E n st a w g hold o e := by
  unfold boxE at he
  split at he
  rotate_left
  · cases he
  rename_i c hc
  cases hm : mvOk c.mv with
  | false => simp [hm] at he
  | true =>
    simp only [hm, cond_true] at he
    refine Acts.mk (v := .pointer (some ⟨w.heap.size, 0, none⟩)) (fun hb => ⟨w.alloc (.cells (a.eval x).cells t), ?_, ?_⟩) (lay_shape he)
    · simp [execOp, hop, Instr.box, newVar, newRow]
    · obtain ⟨hsh, hen, hsrc, hrep⟩ := take_ok hP.wf hl h.rts hc (hv hb)
      have hgr := Gr.alloc w (a.eval x).cells t
      have hen0 := hen []
      have hsrc' : ∀ x ∈ srcs (ents [] av), SrcOk E w g st.rt look hold x := by rw [hen0]; exact hsrc
      have hm' : mvOk (srcs (ents [] av)) = true := by rw [hen0]; exact hm
      refine fresh_ok (look := look) (es := ents [] av) hP.wf h hl hm' hsrc' (by rw [hen0]; exact he) hd hd9 hgr (g₁ := fg (ents [] av) d g w (.hd d)) (fun b hb _ => fg_old hb) (fun b hb => fg_free hb)
        (κ := .mem w.heap.size 0) ?_ (.inr ⟨rfl, rfl, rfl, fg_new, by rw [← hsh.1]; exact Nat.le_refl _⟩)
      refine (hrep d [] _ (fun b hb => go_frz hb) (go_tks hm')).fresh hP.wf h.bnd hgr (fun k _ => ?_)
      simp only [Place.add, Nat.zero_add, rd]
      rw [hgr.cell]; simp

/-- What grows leaves all as it was. -/
theorem Inv.grow (hE : TyWf E) (h : Inv E n st a w g hold) {w' : World} {c : Array Value} {ce : TypeId} (hgr : Gr w w' c ce) (s : Own) (hs : s = .free ∨ s = .frz) :
    Stp w g w' (fun b => if b = w.heap.size then s else g b) ∧ (∀ b, g b = .frz → SameBlk w w' b ∧ (if b = w.heap.size then s else g b) = .frz) ∧
    ∀ r, Keeps w g hold w' (fun b => if b = w.heap.size then s else g b) hold r := by
  have old : ∀ b, g b ≠ .free → b < w.heap.size := h.bnd
  refine ⟨⟨hgr.os, hgr.tape, hgr.output, by rw [hgr.size]; omega, fun b hb _ => ⟨hgr.old hb, if_neg (by omega)⟩⟩, fun b hb => ?_, fun r => ⟨rfl, fun b hb => ?_⟩⟩
  · have := old b (by rw [hb]; simp)
    exact ⟨hgr.same this, by rw [if_neg (by omega), hb]⟩
  · have := old b (by rcases hb with hb | ⟨q, hb⟩ <;> rw [hb] <;> simp)
    exact ⟨hgr.same this, if_neg (by omega)⟩

theorem pin_ok (hP : PrOk P E) (h : Inv E n st a w g hold) (hd : ∀ x, o.dst = some x → x < n) {t : Nat} {x : Operand} {e : Eff}
    (hop : o.op = .box t x) (hok : okTy E t = true) {av : AV} (hv : b = true → AvOk E w g st.rt hold av (a.eval x)) (he : pinE E t b av = some e) : Acts P E n st a w g hold o e := by
  unfold pinE at he
  cases hsh : shapeE E t av with
  | false => simp [hsh] at he
  | true =>
    simp only [hsh, cond_true, one, Option.some.injEq] at he
    subst he
    refine Acts.mk (pre := b) (v := .pointer (some ⟨w.heap.size, 0, none⟩)) (fun hb => ⟨w.alloc (.cells (a.eval x).cells t), ?_, rfl, rfl, rfl, ?_⟩) ⟨rfl, rfl, rfl⟩
    · simp [execOp, hop, Instr.box, newVar, newRow]
    · have hgr := Gr.alloc w (a.eval x).cells t
      obtain ⟨k1, k2, k3⟩ := h.grow hP.wf hgr .frz (.inr rfl)
      refine ⟨_, hold, k1, fun _ _ => rfl, h.apply hP.wf hd k2 (Surv.of hP.wf h.rts fun r R hR => .keep hR (k3 r)) (fun r R hR => (h.rts r R hR).keep hP.wf (k3 r) k2) (fun b hb => ?_) fun _ => ?_⟩
      · rw [hgr.size]
        by_cases hbs : b = w.heap.size
        · omega
        · rw [if_neg hbs] at hb; have := h.bnd b hb; omega
      · have hav := (hv hb).cut (ks := []) hP.wf k2 (Surv.of (rt' := st.rt) (ks := []) hP.wf h.rts fun r R hR => .keep hR (k3 r))
        rw [cut_nil] at hav
        exact .pv hav (shapeE_ok hP hsh (hv hb) hok) (by simp) fun k hk => by rw [Nat.zero_add]; exact hgr.cell k

theorem made_get {z : Array Value} {c i k s : Nat} (hs : s = z.size) (hi : i < c) (hk : k < s) : (madeCells z (c * s))[i * s + k]? = z[k]? := by
  have h1 : i * s + k < c * s := by
    have : (i + 1) * s ≤ c * s := Nat.mul_le_mul_right _ hi
    rw [Nat.add_mul] at this; omega
  have h2 : (i * s + k) % z.size = k := by rw [← hs, Nat.mul_comm, Nat.mul_add_mod, Nat.mod_eq_of_lt hk]
  have h3 : k < z.size := by omega
  unfold madeCells
  rw [Array.getElem?_map, Array.getElem?_range, if_pos h1]
  simp [h2, h3]

theorem makeSlice_ok (hP : PrOk P E) (h : Inv E n st a w g hold) (hd : ∀ x, o.dst = some x → x < n) {fi : Fi} {t d : Nat} {l c : Operand} {e : Eff}
    (hop : o.op = .makeSlice t l c) {al ac : AV} (hl : b = true → AvOk E w g st.rt hold al (a.eval l)) (hc : b = true → AvOk E w g st.rt hold ac (a.eval c))
    (hd9 : d < 100000) (he : makeSliceE fi E d t b al ac = some e) : Acts P E n st a w g hold o e := by
  unfold makeSliceE at he
  split at he
  rotate_left
  · cases he
  rename_i et b0 l' b1 c' hs0 hbl hbc
  have hs : E.ty t = .sl et := by unfold isSl at hs0; split at hs0 <;> simp_all
  cases hz : E.zok et with
  | false => simp [hz] at he
  | true =>
    simp only [hz, Bool.not_true, cond_false] at he
    obtain ⟨hok, i, z, hi, hiz, hsh, hzc⟩ := hP.zero et hz
    obtain ⟨hu, _⟩ := hP.sl t et hs
    obtain ⟨i', hi', hsz, hby⟩ := hP.info et hok
    rw [hi] at hi'; cases hi'
    refine Acts.mk (v := .slice (some ⟨w.heap.size, 0, none⟩) l'.toNat c'.toNat) (fun hb => ?_) (lay_shape he)
    simp only [Bool.and_eq_true, decide_eq_true_eq] at hb
    obtain ⟨p1, p2, p3, p4, p5, p6⟩ := hb
    obtain ⟨kl, hkl⟩ := bnd_ok hP.wf hbl p2 (hl p1)
    obtain ⟨kc, hkc⟩ := bnd_ok hP.wf hbc p3 (hc p1)
    have hlim : c'.toNat ≤ 4294967296 := p6
    have hbb : (i.bytes : Int) * c' ≤ 281474976710656 := by
      have h1 : i.bytes * c'.toNat ≤ 4096 * 4294967296 := Nat.mul_le_mul hby hlim
      have h2 : ((i.bytes * c'.toNat : Nat) : Int) ≤ 281474976710656 := by omega
      rw [Int.natCast_mul] at h2
      rwa [Int.toNat_of_nonneg (by omega)] at h2
    have hrun := run_make (P := P) w t et i z hu hi hiz kl kc l' c' p4 p5 hbb (by omega)
    refine ⟨_, by simp only [execOp, hop, hkl, hkc]; exact run_valueW _ _ hrun, ?_⟩
    have hgr := Gr.alloc w (madeCells z.cells (c'.toNat * i.size)) et
    refine fresh_ok (look := st.rt) (es := []) hP.wf h (fun _ _ h => h) mvOk_nil' (fun x hx => by cases hx) he hd hd9 hgr (g₁ := fg [] d g w (.at d [])) (fun b hb _ => fg_old hb) (fun b hb => fg_free hb)
      (κ := .reg [.slice (some ⟨w.heap.size, 0, none⟩) l'.toNat c'.toNat] 0) ?_ (.inl ⟨rfl, rfl, _, _, _, et, rfl, hs⟩)
    have hcs : i.size = z.cells.size := by rw [hsz, hsh.1]
    refine .own (a := ⟨w.heap.size, 0, none⟩) (cap := c'.toNat) hs rfl (by simp [rd]) rfl (by simp only [List.length_replicate]; omega) fg_new ?_ fun j x hj => ?_
    · exact hgr.blk (by simp [size_madeCells, hsz])
    · simp only [List.getElem?_replicate] at hj
      split at hj
      · rename_i hjl
        cases hj
        refine (hP.zrep et hz w _ d ([] ++ [.idx j])).fresh hP.wf h.bnd hgr (fun k hk => ?_)
        simp only [Place.add, Nat.zero_add, rd]
        rw [hgr.cell, ← hzc, hcs, ← hsz, hcs, made_get rfl (by omega) (by rw [← hcs, hsz]; exact hk)]; simp
      · cases hj
end
end Go.Proofs.YtfelodpbejdhlaaDoor.Ra
/- Rows: literals of slices. -/
namespace Go.Proofs.YtfelodpbejdhlaaDoor.Ra
open Go Go.RowKit

mutual
theorem le_refl : ∀ (o : O), o.live = true → O.le o o = true
  | .fz, _ => rfl
  | .dp, _ => rfl
  | .dead, h => by simp [O.live] at h
  | .sl o, h => by simp only [O.le, O.own, cond_true, O.elem]; exact le_refl o (by simpa [O.live] using h)
  | .st os, h => by simp only [O.le]; exact les_refl os (by simpa [O.live] using h)
theorem les_refl : ∀ (os : List O), O.lives os = true → O.les os os = true
  | [], _ => rfl
  | o :: os, h => by
    simp only [O.lives, Bool.and_eq_true] at h
    simp only [O.les, Bool.and_eq_true]
    exact ⟨le_refl o h.1, les_refl os h.2⟩
end
theorem meet_le {a b : O} (ha : a.live = true) (hb : b.live = true) : O.le (O.meet a b) a = true ∧ O.le (O.meet a b) b = true := by
  unfold O.meet
  cases h1 : O.le a b with
  | true => exact ⟨le_refl a ha, h1⟩
  | false =>
    cases h2 : O.le b a with
    | true => exact ⟨h2, le_refl b hb⟩
    | false => exact ⟨by simpa [O.le] using ha, by simpa [O.le] using hb⟩
theorem meets_le {os : List O} (h : ∀ o ∈ os, o.live = true) : ∀ o ∈ os, O.le (meets os) o = true := by
  intro o ho
  unfold meets
  cases ha : os.all (O.le (meets0 os)) with
  | true => exact List.all_eq_true.1 ha o ho
  | false => simpa [O.le] using h o ho

theorem lives_of {os : List O} (h : ∀ o ∈ os, o.live = true) : O.lives os = true := by
  induction os with
  | nil => rfl
  | cons o os ih => simp only [O.lives, Bool.and_eq_true]; exact ⟨h o (by simp), ih fun o ho => h o (by simp [ho])⟩
mutual
theorem take_live {E : Env} {look : Nat → Option Rt} : ∀ {av : AV} {ty : Nat} {c : Taken}, take E look ty av = some c → c.o.live = true
  | .sref ty' r p, ty, c, h => by
    simp only [take] at h
    cases hlr : look r with
    | none => simp [hlr] at h
    | some R =>
      simp only [hlr] at h
      generalize hc : (Nat.beq ty' ty && ((R.o.get p).own && (R.o.get p).live && noIdx p)) = bb at h
      cases bb with
      | false => simp at h
      | true =>
        simp only [Bool.and_eq_true] at hc
        simp only [cond_true, Option.some.injEq] at h; subst h
        exact hc.2.1.2
  | .sub ty' r p lo hi, ty, c, h => by
    simp only [take] at h
    cases hlr : look r with
    | none => simp [hlr] at h
    | some R =>
      simp only [hlr] at h
      generalize hc : (Nat.beq ty' ty && ((R.o.get p).own && (R.o.get p).live && noIdx p)) = bb at h
      cases bb with
      | false => simp at h
      | true =>
        simp only [Bool.and_eq_true] at hc
        simp only [cond_true, Option.some.injEq] at h; subst h
        exact hc.2.1.2
  | .nil ty', ty, c, h => by
    simp only [take] at h
    cases hb : Nat.beq ty' ty <;> simp [hb] at h
    subst h; rfl
  | .val ty' t', ty, c, h => by
    simp only [take] at h
    cases hb : Nat.beq ty' ty <;> simp [hb] at h
    subst h
    cases E.flat ty <;> rfl
  | .cst cv, ty, c, h => by
    simp only [take] at h
    split at h
    · cases h; rfl
    · cases h
  | .agg ty' l, ty, c, h => by
    simp only [take] at h
    split at h
    · cases hb : Nat.beq ty' ty with
      | false => simp [hb] at h
      | true =>
        simp only [hb, cond_true] at h
        split at h
        · rename_i ts os mv htl
          cases h
          exact takeL_live htl
        · cases h
    · cases h
  | .undef, ty, c, h => by simp [take] at h
  | .fnc _, ty, c, h => by simp [take] at h
  | .gd _ _, ty, c, h => by simp [take] at h
  | .pref _ _ _, ty, c, h => by simp [take] at h
  | .fptr _ _, ty, c, h => by simp [take] at h
  | .pv _ _, ty, c, h => by simp [take] at h
  | .tup _, ty, c, h => by simp [take] at h
theorem takeL_live {E : Env} {look : Nat → Option Rt} : ∀ {l : List AV} {fs : List Nat} {ts : List T} {os : List O} {mv : List (Nat × List Step)}, takeL E look fs l = some (ts, os, mv) → O.lives os = true
  | [], fs, ts, os, mv, h => by
    cases fs with
    | nil => simp only [takeL, Option.some.injEq, Prod.mk.injEq] at h; obtain ⟨rfl, rfl, rfl⟩ := h; rfl
    | cons f fs => simp [takeL] at h
  | a :: l, fs, ts, os, mv, h => by
    cases fs with
    | nil => simp [takeL] at h
    | cons f fs =>
      simp only [takeL] at h
      split at h
      · rename_i x ts' os' mv' h1 h2
        cases h
        simp only [O.lives, Bool.and_eq_true]
        exact ⟨take_live h1, takeL_live h2⟩
      · cases h
end

def entsE (pd : List Step) : Nat → List AV → List Ent
  | _, [] => []
  | j, a :: l => ents (pd ++ [.idx j]) a ++ entsE pd (j + 1) l

section
variable {P : Program} {E : Env} {n : Nat} {st : St} {a : Act} {w : World} {g : Gh} {hold : Nat → Place} {look rt : Nat → Option Rt} {o : Oper} {b : Bool}

theorem takes_ok (hE : TyWf E) (hl : ∀ r R, look r = some R → rt r = some R) (hr : ∀ r R, rt r = some R → RtOk E w g hold r R) {e : Nat} :
    ∀ {l : List AV} {ts : List T} {os : List O} {mv : List (Nat × List Step)}, takes E look e l = some (ts, os, mv) → ∀ {vs : List Value}, l.length = vs.length →
    (∀ (j : Nat) (a : AV) (v : Value), l[j]? = some a → vs[j]? = some v → AvOk E w g rt hold a v) →
    ts.length = l.length ∧ os.length = l.length ∧ (∀ pd j0, srcs (entsE pd j0 l) = mv) ∧ (∀ x ∈ mv, SrcOk E w g rt look hold x) ∧ (∀ o ∈ os, o.live = true) ∧
    ∀ (j : Nat) (t : T) (o : O) (v : Value), ts[j]? = some t → os[j]? = some o → vs[j]? = some v → ∀ (d : Nat) (pd : List Step) (j0 : Nat) (g' : Gh), (∀ b, g b = .frz → g' b = .frz) →
      Tks (entsE pd j0 l) d g g' → Rep E w g' e t o d (pd ++ [.idx (j0 + j)]) (.reg v.cells.toList 0)
  | [], ts, os, mv, h, vs, hlen, hv => by
    simp only [takes, Option.some.injEq, Prod.mk.injEq] at h
    obtain ⟨rfl, rfl, rfl⟩ := h
    exact ⟨rfl, rfl, fun _ _ => rfl, fun x hx => by simp at hx, fun o ho => by simp at ho, fun j t o v hf => by simp at hf⟩
  | a :: l, ts, os, mv, h, vs, hlen, hv => by
    cases vs with
    | nil => simp at hlen
    | cons v0 vs =>
      simp only [takes] at h
      split at h
      · rename_i x ts' os' mv' h1 h2
        cases h
        obtain ⟨a1, a2, a3, a4⟩ := take_ok hE hl hr h1 (hv 0 a v0 rfl rfl)
        obtain ⟨i1, i2, i3, i4, i5, i6⟩ := takes_ok hE hl hr h2 (vs := vs) (by simpa using hlen) (fun j a v b1 b2 => hv (j + 1) a v (by simpa using b1) (by simpa using b2))
        refine ⟨by simp [i1], by simp [i2], fun pd j0 => by rw [entsE, srcs, List.map_append]; exact congr (congrArg _ (a2 _)) (i3 pd (j0 + 1)), fun y hy => ?_, fun o ho => ?_, ?_⟩
        · rcases List.mem_append.1 hy with hy | hy
          · exact a3 y hy
          · exact i4 y hy
        · rcases List.mem_cons.1 ho with rfl | ho
          · exact take_live h1
          · exact i5 o ho
        · intro j t' o' v ht ho hvj d pd j0 g' hfz htk
          rw [entsE] at htk
          cases j with
          | zero =>
            simp at ht ho hvj; subst ht; subst ho; subst hvj
            exact a4 d (pd ++ [.idx j0]) g' hfz htk.left
          | succ j =>
            have := i6 j t' o' v (by simpa using ht) (by simpa using ho) (by simpa using hvj) d pd (j0 + 1) g' hfz htk.right
            rw [show j0 + 1 + j = j0 + (j + 1) by omega] at this
            exact this
      · cases h

/-- A row whose elements are held in ways of their own, as one that is held in the way of them all. -/
theorem row_of {ty e : Nat} (he : E.ty ty = .sl e) {w' : World} {g₁ : Gh} {d B x cap : Nat} {ts : List T} {o : O} (hB : g₁ B = .at d []) (hcap : ts.length ≤ cap)
    (hblk : BlkOk w' B (x + cap * E.sz e)) (hrep : ∀ (j : Nat) (t : T), ts[j]? = some t → ∃ o', O.le o o' = true ∧ Rep E w' g₁ e t o' d [.idx j] (.mem B (x + j * E.sz e))) :
    Rep E w' (wk (.sl o) d g₁) ty (.sl ts) (.sl o) d [] (.reg [.slice (some ⟨B, x, none⟩) ts.length cap] 0) := by
  have hw := wk_goes (.sl o) d g₁
  refine .own (a := ⟨B, x, none⟩) he rfl rfl rfl hcap ?_ hblk fun j t hj => ?_
  · have := hw.2 B [] (by simpa using hB)
    simpa [O.get, O.isFz] using this
  · obtain ⟨o', h1, h2⟩ := hrep j t hj
    exact h2.move h1 (hw.step (.idx j) fun q => rfl)

theorem sum_rep (x : Nat) : ∀ (n : Nat), (List.replicate n x).sum = n * x
  | 0 => by simp
  | n + 1 => by rw [List.replicate_succ, List.sum_cons, sum_rep x n, Nat.succ_mul]; omega
theorem off_replicate {e : Nat} : ∀ (n j : Nat), j ≤ n → off E (List.replicate n e) j = j * E.sz e := by
  intro n j hj
  unfold off
  rw [List.take_replicate, Nat.min_eq_left hj, List.map_replicate, sum_rep]
theorem flatV_replicate {z : Value} (n : Nat) : (flatV (List.replicate n z)).length = n * z.cells.size := by
  induction n with
  | zero => simp [flatV]
  | succ n ih => simp only [flatV, List.replicate_succ, List.flatMap_cons, List.length_append] at *; rw [ih]; simp [Nat.succ_mul]; omega
theorem made_flat {z : Value} (hE : TyWf E) {e : Nat} (hz : Shaped E e z) (n : Nat) : madeCells z.cells (n * E.sz e) = (flatV (List.replicate n z)).toArray := by
  have hs := hz.1
  apply Array.ext
  · rw [size_madeCells, List.size_toArray, flatV_replicate, hs]
  · intro m h1 h2
    apply Option.some.inj
    rw [← Array.getElem?_eq_getElem, ← Array.getElem?_eq_getElem]
    rw [size_madeCells] at h1
    have hpos : 0 < E.sz e := by
      rcases Nat.eq_zero_or_pos (E.sz e) with h | h
      · rw [h] at h1; omega
      · exact h
    have hdiv : m / E.sz e < n := by rw [Nat.div_lt_iff_lt_mul hpos]; exact h1
    have hmod : m % E.sz e < E.sz e := Nat.mod_lt _ hpos
    have hm : m = m / E.sz e * E.sz e + m % E.sz e := by rw [Nat.mul_comm]; exact (Nat.div_add_mod m (E.sz e)).symm
    rw [hm, made_get hs.symm hdiv hmod]
    have hf := flat_get (E := E) (vs := List.replicate n z) (fs := List.replicate n e) (by simp) (fun j f v h1 h2 => by
      simp only [List.getElem?_replicate] at h1 h2
      split at h1
      · rename_i hj; rw [if_pos hj] at h2; cases h1; cases h2; exact hz
      · cases h1) (j := m / E.sz e) (f := e) (v := z) (by simp [hdiv]) (by simp [hdiv]) hmod
    rw [off_replicate _ _ (by omega)] at hf
    rw [show (flatV (List.replicate n z)).toArray[m / E.sz e * E.sz e + m % E.sz e]? = (flatV (List.replicate n z))[m / E.sz e * E.sz e + m % E.sz e]? from List.getElem?_toArray .., hf]; simp

theorem buildSlice_ok (hP : PrOk P E) (h : Inv E n st a w g hold) (hl : ∀ r R, look r = some R → st.rt r = some R) (hd : ∀ x, o.dst = some x → x < n) {fi : Fi} {t d len : Nat} {ps : Array (Nat × Operand)} {e : Eff}
    (hop : o.op = .buildSlice t len ps) {ρ : Operand → AV} (hρ : ∀ x, AvOk E w g st.rt hold (ρ x) (a.eval x))
    (hd9 : d < 100000) (he : buildSliceE fi E look d t len (parts ρ ps).1 (parts ρ ps).2 = some e) : Acts P E n st a w g hold o e := by
  unfold buildSliceE at he
  split at he
  · cases he
  rename_i et hs0
  have hs : E.ty t = .sl et := by unfold isSl at hs0; split at hs0 <;> simp_all
  generalize hc : (decide (len * E.sz et ≤ 1000000) && (E.zok et && (distinct ((parts ρ ps).2.map (·.1)) && (parts ρ ps).2.all fun x => decide (x.1 < len) && shapeE E et x.2))) = c at he
  cases c with
  | false => simp at he
  | true =>
    simp only [cond_true] at he
    simp only [Bool.and_eq_true, decide_eq_true_eq] at hc
    obtain ⟨c0, c1, c2, c3⟩ := hc
    split at he
    rotate_left
    · cases he
    rename_i ts os mv htk
    cases hm : mvOk mv with
    | false => simp [hm] at he
    | true =>
      simp only [hm, cond_true] at he
      refine Acts.mk (v := .slice (some ⟨w.heap.size, 0, none⟩) len len) (fun hb => ?_) (lay_shape he)
      obtain ⟨hok, i, z, hi, hiz, hsh, hzc⟩ := hP.zero et c1
      obtain ⟨hu, _⟩ := hP.sl t et hs
      obtain ⟨i', hi', hsz, _⟩ := hP.info et hok
      rw [hi] at hi'; cases hi'
      have hpo := parts_ok hρ hb
      let vps : List (Nat × Value) := ps.toList.map fun x => (x.1, a.eval x.2)
      have hfst : vps.map (·.1) = (parts ρ ps).2.map (·.1) := by simp [vps, parts, Function.comp_def]
      have hpart : ∀ x ∈ vps, ∃ f, (List.replicate len et)[x.1]? = some f ∧ Shaped E f x.2 := by
        intro x hx
        obtain ⟨y, hy, rfl⟩ := List.mem_map.1 hx
        have hy' : (y.1, (strip (ρ y.2)).2) ∈ (parts ρ ps).2 := List.mem_map.2 ⟨y, hy, rfl⟩
        have := List.all_eq_true.1 c3 _ hy'
        simp only [Bool.and_eq_true, decide_eq_true_eq] at this
        have hq := List.all_eq_true.1 hb y hy
        exact ⟨et, by simp [this.1], shapeE_ok hP this.2 (strip_ok (hρ y.2) hq) hok⟩
      have hzs : ∀ (j f : Nat) (v : Value), (List.replicate len et)[j]? = some f → (List.replicate len z)[j]? = some v → Shaped E f v := by
        intro j f v h1 h2
        simp only [List.getElem?_replicate] at h1 h2
        split at h1
        · rename_i hj; rw [if_pos hj] at h2; cases h1; cases h2; exact hsh
        · cases h1
      have hf := fill_ok (E := E) (fs := List.replicate len et) (place := fun i => some (i * E.sz et, E.sz et)) (fun j f hf => by
        simp only [List.getElem?_replicate] at hf
        split at hf
        · rename_i hj; cases hf; rw [off_replicate _ _ (by omega)]
        · cases hf) vps (List.replicate len z) (by simp) hzs hpart
      let vs := vps.foldl (fun vs x => vs.set x.1 x.2) (List.replicate len z)
      have hvl : vs.length = len := by have := hf.2.1; simpa [vs] using this
      let cells : Array Value := (flatV vs).toArray
      have hrun : (Instr.buildSlice t len (ps.map fun (i, x) => (i, a.eval x))).run P w = .ok (.slice (some ⟨w.heap.size, 0, none⟩) len len) (w.alloc (.cells cells et)) := by
        have h24 : ¬ (16777216 < len * E.sz et) := by omega
        have hfill := hf.1
        rw [← made_flat hP.wf hsh] at hfill
        have hparts' : (ps.map fun (i, x) => (i, a.eval x)).toList = vps := by simp [vps]
        by_cases hz0 : len * E.sz et = 0
        · rw [hz0] at hfill
          have hm0 : madeCells z.cells 0 = #[] := by simp [madeCells]
          rw [hm0] at hfill
          simp only [vps] at hfill
          simp [Instr.buildSlice, run_underlying hu, sizeOf, typeInfo, hi, hsz, h24, hz0, newRow]
          rw [show (Array.map (fun x => (default : Value)) (Array.range 0)) = #[] by simp [Array.range_zero'], hfill]
          simp [cells, vs, vps]
        · simp [Instr.buildSlice, run_underlying hu, sizeOf, typeInfo, hi, hsz, h24, hz0, newRow, zeroValue, hiz]
          simp [vps, madeCells] at hfill
          simp [hfill, cells, vs, vps]
      refine ⟨_, by simp only [execOp, hop]; exact run_valueW _ _ hrun, ?_⟩
      have hvs : ∀ (j : Nat) (av : AV) (v : Value), (((List.range len).map fun j => (findPart (parts ρ ps).2 j).getD (zav E 8 et)))[j]? = some av → vs[j]? = some v → AvOk E w g st.rt hold av v := by
        intro j av v hav hv
        have hjl : j < len := by have := (List.getElem?_eq_some_iff.1 hav).1; simp at this; omega
        rw [List.getElem?_map, List.getElem?_range hjl] at hav
        simp only [Option.map_some, Option.some.injEq] at hav
        rw [show vs[j]? = _ from foldl_set_get vps (List.replicate len z) j (by rw [hfst]; exact c2) (by simpa using hjl)] at hv
        have hpj := hpo j
        unfold findPart at hav
        cases h1 : assoc (parts ρ ps).2 j with
        | some y =>
          rw [h1] at hav hpj
          cases h2 : assoc vps j with
          | some v' =>
            rw [h2] at hv
            simp only [Option.getD_some] at hav
            subst hav
            simp only [Option.some.injEq] at hv; subst hv
            rw [show assoc (ps.toList.map fun x => (x.1, a.eval x.2)) j = some v' from h2] at hpj
            exact hpj
          | none => rw [show assoc (ps.toList.map fun x => (x.1, a.eval x.2)) j = none from h2] at hpj; exact hpj.elim
        | none =>
          rw [h1] at hav hpj
          cases h2 : assoc vps j with
          | some v' => rw [show assoc (ps.toList.map fun x => (x.1, a.eval x.2)) j = some v' from h2] at hpj; exact hpj.elim
          | none =>
            rw [h2] at hv
            simp only [Option.getD_none] at hav
            subst hav
            simp [hjl] at hv; subst hv
            exact zav_ok hP 8 hsh hzc
      obtain ⟨i1, i2, i3, i4, i5, i6⟩ := takes_ok hP.wf hl h.rts htk (vs := vs) (by simp [hvl]) hvs
      let L : List AV := (List.range len).map fun j => (findPart (parts ρ ps).2 j).getD (zav E 8 et)
      have hen0 : srcs (entsE [] 0 L) = mv := i3 [] 0
      have hsrc' : ∀ x ∈ srcs (entsE [] 0 L), SrcOk E w g st.rt look hold x := by rw [hen0]; exact i4
      have hm' : mvOk (srcs (entsE [] 0 L)) = true := by rw [hen0]; exact hm
      have hgr := Gr.alloc w cells et
      have hlts : ts.length = len := by simpa using i1
      have hcells : ∀ j, j < len → ∀ v, vs[j]? = some v → ∀ k, k < E.sz et → cells[j * E.sz et + k]? = v.cells.toList[k]? := by
        intro j hj v hv k hk
        have := flat_get (E := E) (vs := vs) (fs := List.replicate len et) (by simp [hvl]) hf.2.2 (j := j) (f := et) (v := v) (by simp [hj]) hv hk
        rw [off_replicate _ _ (by omega)] at this
        rw [← this, List.getElem?_toArray]
      have hcsz : cells.size = len * E.sz et := by
        have := flatMap_len (E := E) (vs := vs) (fs := List.replicate len et) (by simp [hvl]) hf.2.2
        rw [List.map_replicate, sum_rep] at this
        simpa [cells, flatV] using this
      have hrow := row_of (E := E) (ty := t) hs (w' := w.alloc (.cells cells et)) (g₁ := fg (entsE [] 0 L) d g w (.at d [])) (d := d) (B := w.heap.size) (x := 0) (cap := len) (ts := ts) (o := meets os)
        fg_new (by omega) (hgr.blk (by rw [hcsz]; omega)) (fun j t' hj => by
          have hjl : j < len := by have := (List.getElem?_eq_some_iff.1 hj).1; omega
          obtain ⟨oj, hoj⟩ : ∃ oj, os[j]? = some oj := ⟨os[j]'(by rw [i2]; simpa using hjl), List.getElem?_eq_getElem _⟩
          obtain ⟨v, hv⟩ : ∃ v, vs[j]? = some v := ⟨vs[j]'(by omega), List.getElem?_eq_getElem _⟩
          refine ⟨oj, meets_le i5 oj (List.mem_of_getElem? hoj), ?_⟩
          have := i6 j t' oj v hj hoj hv d [] 0 (go (entsE [] 0 L) d g) (fun b hb => go_frz hb) (go_tks hm')
          rw [Nat.zero_add] at this
          refine this.fresh hP.wf h.bnd hgr fun k hk => ?_
          simp only [Place.add, rd, Nat.zero_add]
          rw [hgr.cell, hcells j hjl v hv k hk])
      rw [hlts] at hrow
      refine fresh_ok (look := look) (es := entsE [] 0 L) hP.wf h hl hm' hsrc' (by rw [hen0]; exact he) hd hd9 hgr (g₁ := wk (.sl (meets os)) d (fg (entsE [] 0 L) d g w (.at d [])))
        (fun b hb hnd => ?_) (fun b hb => fg_free (wk_free hb)) hrow (.inl ⟨rfl, rfl, _, _, _, et, rfl, hs⟩)
      rw [wk_other (by rw [fg_old hb]; exact hnd), fg_old hb]
end
end Go.Proofs.YtfelodpbejdhlaaDoor.Ra
/- append: what is appended. -/
namespace Go.Proofs.YtfelodpbejdhlaaDoor.Ra
open Go Go.RowKit

def shm (lo m : Nat) : List Step → List Step
  | .idx k :: q => .idx (m + (k - lo)) :: q
  | q => q

section
variable {P : Program} {E : Env} {n : Nat} {st : St} {a : Act} {w : World} {g : Gh} {hold : Nat → Place} {look rt : Nat → Option Rt} {o : Oper} {b : Bool}

/-- A slice's elements in memory, how they are held and where they are told. -/
def SlC (E : Env) (w : World) (g : Gh) (e : Nat) (v : Value) (t : T) (o : O) (r : Nat) (f : Nat → List Step) : Prop :=
  ∃ A cap, v = .slice A t.es.length cap ∧ t = .sl t.es ∧ t.es.length ≤ cap ∧
    (t.es = [] ∨ ∃ aa : Addr, A = some aa ∧ aa.spot = none ∧ ∀ (i : Nat) (t' : T), t.es[i]? = some t' → Rep E w g e t' o r (f i) (.mem aa.block (aa.off + i * E.sz e)))
theorem Rep.slC {ty e : Nat} {t : T} {o : O} {r : Nat} {p : List Step} {κ : Place} {v : Value} (ht : E.ty ty = .sl e) (h : Rep E w g ty t o r p κ) (hl : o.live = true) (hv : rd w κ = some v) :
    SlC E w g e v t o.elem r (fun i => p ++ [.idx i]) := by
  cases h with
  | fz0 _ h => rw [h] at hv; cases hv; exact ⟨_, _, rfl, rfl, by simp [T.es], .inl rfl⟩
  | fz b1 b2 b3 b4 b5 b6 => rw [b2] at hv; cases hv; rw [ht] at b1; cases b1; exact ⟨_, _, rfl, rfl, b4, .inr ⟨_, rfl, b3, fun i t' h => (b6 i t' h).frozen rfl (fun _ h => h) _ _⟩⟩
  | own0 _ _ h => rw [h] at hv; cases hv; exact ⟨_, _, rfl, rfl, by simp [T.es], .inl rfl⟩
  | own b1 b2 b3 b4 b5 b6 b7 b8 =>
    rw [b3] at hv; cases hv; rw [ht] at b1; cases b1
    exact ⟨_, _, rfl, rfl, b5, .inr ⟨_, rfl, b4, fun i t' h => b8 i t' h⟩⟩
  | dead => simp [O.live] at hl
  | _ => simp_all

theorem SlC.cut {e : Nat} {A : Option Addr} {len cap : Nat} {t : T} {o : O} {r : Nat} {f : Nat → List Step} (h : SlC E w g e (.slice A len cap) t o r f) {lo hi cap' : Nat} {A' : Option Addr}
    (a5 : lo ≤ hi) (a6 : hi ≤ len) (a7 : hi - lo ≤ cap')
    (a9 : (A = none ∧ A' = none) ∨ ∃ b x y, A = some ⟨b, x, none⟩ ∧ A' = some ⟨b, y, none⟩ ∧ y ≤ x + lo * E.sz e ∧ (cap' = 0 ∨ y = x + lo * E.sz e)) :
    SlC E w g e (.slice A' (hi - lo) cap') (t.cut lo hi) o r (fun i => f (lo + i)) := by
  obtain ⟨A1, c1, h1, h2, h3, h4⟩ := h
  simp only [Value.slice.injEq] at h1
  obtain ⟨rfl, rfl, rfl⟩ := h1
  have hlen : ((t.cut lo hi)).es.length = hi - lo := by simp [T.cut, T.es]; simp [T.es] at a6; omega
  refine ⟨_, _, by rw [hlen], rfl, by rw [hlen]; exact a7, ?_⟩
  by_cases hz : hi = lo
  · left; exact List.eq_nil_of_length_eq_zero (by rw [hlen, hz]; omega)
  · right
    rcases h4 with h4 | ⟨aa, rfl, s1, s2⟩
    · rw [h4] at a6; simp at a6; omega
    · rcases a9 with ⟨c1, _⟩ | ⟨bb, xx, yy, c1, c2, c3, c4⟩
      · cases c1
      · simp only [Option.some.injEq] at c1; subst c1
        have hyy : yy = xx + lo * E.sz e := by rcases c4 with c4 | c4 <;> omega
        refine ⟨_, c2, rfl, fun i t' hi' => ?_⟩
        obtain ⟨d1, _⟩ := cut_get (es := t.es) hi'
        have := s2 _ _ d1
        simp only at this ⊢
        rw [hyy, show xx + lo * E.sz e + i * E.sz e = xx + (lo + i) * E.sz e by rw [Nat.add_mul]; omega]
        exact this

/-- What is appended. -/
structure SrcOf (E : Env) (w : World) (g : Gh) (rt look : Nat → Option Rt) (hold : Nat → Place) (e : Nat) (v : Value) (c : Taken) (ens : Nat → List Ent) : Prop where
  srcs : ∀ m, srcs (ens m) = c.mv
  src : ∀ x ∈ c.mv, SrcOk E w g rt look hold x
  live : c.o.live = true
  at_ : ∃ A cap, v = .slice A c.t.es.length cap ∧ c.t = .sl c.t.es ∧ c.t.es.length ≤ cap ∧
    (c.t.es = [] ∨ ∃ aa : Addr, A = some aa ∧ aa.spot = none ∧ ∀ (i : Nat) (t' : T), c.t.es[i]? = some t' →
      (∃ o r p, o.live = true ∧ Rep E w g e t' o r p (.mem aa.block (aa.off + i * E.sz e))) ∧
      ∀ (m d : Nat) (g' : Gh), (∀ b, g b = .frz → g' b = .frz) → Tks (ens m) d g g' → Rep E w g' e t' c.o d [.idx (m + i)] (.mem aa.block (aa.off + i * E.sz e)))

theorem SlC.flat (hE : TyWf E) {e : Nat} {v : Value} {t : T} {o : O} {r : Nat} {f : Nat → List Step} (h : SlC E w g e v t o r f) (ho : o.live = true) (hf : E.flat e = true) :
    SrcOf E w g rt look hold e v ⟨t, .dp, []⟩ (fun _ => []) := by
  obtain ⟨A1, c1, h1, h2, h3, h4⟩ := h
  refine ⟨fun _ => rfl, fun x hx => by simp at hx, rfl, A1, c1, h1, h2, h3, h4.imp id fun ⟨aa, e1, e2, e3⟩ => ⟨aa, e1, e2, fun i t' hi => ⟨⟨_, _, _, ho, e3 i t' hi⟩, fun m d g' _ _ => ?_⟩⟩⟩
  exact (e3 i t' hi).flat hE ho hf fun _ _ => rfl
theorem SlC.fz {e : Nat} {v : Value} {t : T} {r : Nat} {f : Nat → List Step} (h : SlC E w g e v t .fz r f) : SrcOf E w g rt look hold e v ⟨t, .fz, []⟩ (fun _ => []) := by
  obtain ⟨A1, c1, h1, h2, h3, h4⟩ := h
  refine ⟨fun _ => rfl, fun x hx => by simp at hx, rfl, A1, c1, h1, h2, h3, h4.imp id fun ⟨aa, e1, e2, e3⟩ => ⟨aa, e1, e2, fun i t' hi => ⟨⟨_, _, _, rfl, e3 i t' hi⟩, fun m d g' hf _ => ?_⟩⟩⟩
  exact (e3 i t' hi).frozen rfl hf _ _
theorem SlC.mv {e : Nat} {v : Value} {t : T} {o : O} {r : Nat} {p : List Step} {lo : Nat} (h : SlC E w g e v t o r (fun i => p ++ [.idx (lo + i)])) (ho : o.live = true)
    (hs : SrcOk E w g rt look hold (r, p)) : SrcOf E w g rt look hold e v ⟨t, o, [(r, p)]⟩ (fun m => [(r, p, shm lo m)]) := by
  obtain ⟨A1, c1, h1, h2, h3, h4⟩ := h
  refine ⟨fun _ => rfl, fun x hx => by simp at hx; subst hx; exact hs, ho, A1, c1, h1, h2, h3, h4.imp id fun ⟨aa, e1, e2, e3⟩ => ⟨aa, e1, e2, fun i t' hi => ⟨⟨_, _, _, ho, e3 i t' hi⟩, fun m d g' hf ht => ?_⟩⟩⟩
  refine (e3 i t' hi).rekey hf fun b q hq => ?_
  have := ht _ (List.mem_singleton.2 rfl) b (.idx (lo + i) :: q) (by simp only; rw [hq]; simp)
  rw [this]; simp [shm]

theorem source_ok (hE : TyWf E) (hl : ∀ r R, look r = some R → rt r = some R) (hr : ∀ r R, rt r = some R → RtOk E w g hold r R) {ty e : Nat} (ht : E.ty ty = .sl e) {x : AV} {v : Value} {c : Taken}
    (hs : source E look ty e x = some c) (hx : AvOk E w g rt hold x v) : ∃ ens, SrcOf E w g rt look hold e v c ens := by
  have plain : ∀ {x : AV}, (vt E ty x).map (fun t => (⟨t, bif E.flat e then .dp else .fz, []⟩ : Taken)) = some c → AvOk E w g rt hold x v → ∃ ens, SrcOf E w g rt look hold e v c ens := by
    intro x hs hx
    simp only [Option.map_eq_some_iff] at hs
    obtain ⟨t, h1, rfl⟩ := hs
    obtain ⟨h2, h3⟩ := vt_ok hE h1 hx
    have hs := h3.2; rw [ht] at hs; simp only at hs
    rw [hs] at h2
    have h4 := h2.slC ht rfl rfl
    cases hf : E.flat e with
    | true => exact ⟨_, h4.flat hE rfl hf⟩
    | false => exact ⟨_, SlC.fz h4⟩
  have own : ∀ {o : O}, o.live = true → o.elem.isFz = true → o.elem = .fz := by intro o _ h; cases ho : o.elem <;> simp_all [O.isFz]
  cases x with
  | sref ty' r p =>
    simp only [source] at hs
    cases hlr : look r with
    | none => simp [hlr] at hs
    | some R =>
      simp only [hlr] at hs
      cases hc : Nat.beq ty ty' && (R.o.get p).live with
      | false => simp [hc] at hs
      | true =>
        simp only [hc, cond_true] at hs
        simp only [Bool.and_eq_true] at hc
        have := Nat.eq_of_beq_eq_true hc.1; subst this
        cases hx with
        | sref a1 a2 a3 a4 =>
          have hR' := hl r R hlr; rw [hR'] at a1; cases a1
          have hsl := (sub_rep' (hr r R hR') a3).slC ht hc.2 a4
          cases hf : E.flat e with
          | true => simp [hf] at hs; subst hs; exact ⟨_, hsl.flat hE (live_elem hc.2) hf⟩
          | false =>
            simp only [hf, cond_false] at hs
            cases hfz : (R.o.get p).elem.isFz with
            | true =>
              simp [hfz] at hs; subst hs
              rw [own hc.2 hfz] at hsl
              exact ⟨_, SlC.fz hsl⟩
            | false =>
              simp only [hfz, cond_false] at hs
              cases hn : noIdx p && (R.o.get p).own with
              | false => simp [hn] at hs
              | true =>
                simp [hn] at hs; subst hs
                simp only [Bool.and_eq_true] at hn
                exact ⟨_, SlC.mv (lo := 0) (by simpa using hsl) (live_elem hc.2) ⟨⟨R, _, e, _, hlr, hR', ht, a3, hn.2, hc.2, hn.1⟩⟩⟩
  | sub ty' r p lo hi =>
    simp only [source] at hs
    cases hlr : look r with
    | none => simp [hlr] at hs
    | some R =>
      simp only [hlr] at hs
      cases hc : Nat.beq ty ty' && (R.o.get p).live with
      | false => simp [hc] at hs
      | true =>
        simp only [hc, cond_true] at hs
        simp only [Bool.and_eq_true] at hc
        have := Nat.eq_of_beq_eq_true hc.1; subst this
        cases hx with
        | sub a1 a2 a3 a4 a5 a6 a7 a8 a9 =>
          have hR' := hl r R hlr; rw [hR'] at a1; cases a1
          rw [ht] at a2; cases a2
          have hsl := ((sub_rep' (hr r R hR') a3).slC ht hc.2 a4).cut a5 a6 a7 a9
          cases hf : E.flat e with
          | true => simp [hf] at hs; subst hs; exact ⟨_, hsl.flat hE (live_elem hc.2) hf⟩
          | false =>
            simp only [hf, cond_false] at hs
            cases hfz : (R.o.get p).elem.isFz with
            | true =>
              simp [hfz] at hs; subst hs
              rw [own hc.2 hfz] at hsl
              exact ⟨_, SlC.fz hsl⟩
            | false =>
              simp only [hfz, cond_false] at hs
              cases hn : noIdx p && (R.o.get p).own with
              | false => simp [hn] at hs
              | true =>
                simp [hn] at hs; subst hs
                simp only [Bool.and_eq_true] at hn
                exact ⟨_, SlC.mv (lo := lo) hsl (live_elem hc.2) ⟨⟨R, _, e, _, hlr, hR', ht, a3, hn.2, hc.2, hn.1⟩⟩⟩
  | undef => exact plain (by simpa only [source] using hs) hx
  | val _ _ => exact plain (by simpa only [source] using hs) hx
  | cst _ => exact plain (by simpa only [source] using hs) hx
  | nil _ => exact plain (by simpa only [source] using hs) hx
  | fnc _ => exact plain (by simpa only [source] using hs) hx
  | gd _ _ => exact plain (by simpa only [source] using hs) hx
  | pref _ _ _ => exact plain (by simpa only [source] using hs) hx
  | fptr _ _ => exact plain (by simpa only [source] using hs) hx
  | pv _ _ => exact plain (by simpa only [source] using hs) hx
  | agg _ _ => exact plain (by simpa only [source] using hs) hx
  | tup _ => exact plain (by simpa only [source] using hs) hx

theorem sz_setCells (b : Nat) : ∀ (vs : List Value) (o : Nat) (w : World), (w.setCells b o vs).heap.size = w.heap.size ∧ (w.setCells b o vs).os = w.os ∧ (w.setCells b o vs).tape = w.tape ∧ (w.setCells b o vs).output = w.output
  | [], _, _ => ⟨rfl, rfl, rfl, rfl⟩
  | v :: r, o, w => by
    rw [World.setCells]
    obtain ⟨h1, h2, h3, h4⟩ := sz_setCells b r (o + 1) (w.setCell ⟨b, o, none⟩ v)
    exact ⟨by rw [h1]; simp [World.setCell], by rw [h2]; rfl, by rw [h3]; rfl, by rw [h4]; rfl⟩
theorem blk_setCells (b m : Nat) : ∀ (vs : List Value) (o : Nat) (w : World), BlkOk w b m → BlkOk (w.setCells b o vs) b m
  | [], _, _, h => h
  | v :: r, o, w, h => by
    rw [World.setCells]
    refine blk_setCells b m r (o + 1) _ ?_
    obtain ⟨c, e, h1, h2⟩ := h
    refine ⟨c.setIfInBounds o v, e, ?_, by simpa using h2⟩
    simp only [World.setCell]
    rw [Array.getElem?_modify, h1]; simp
theorem unfrozen {w : World} {b m : Nat} (h : BlkOk w b m) (o : Nat) : w.frozen? ⟨b, o, none⟩ = false := by
  obtain ⟨c, e, h1, _⟩ := h
  simp [World.frozen?, h1]
theorem blk_cell {w : World} {b m : Nat} (h : BlkOk w b m) {o : Nat} (ho : o < m) : (w.cell? ⟨b, o, none⟩).isSome = true := by
  obtain ⟨c, e, h1, h2⟩ := h
  have : o < c.size := by omega
  simp [World.cell?, h1, this]
end
end Go.Proofs.YtfelodpbejdhlaaDoor.Ra
/- append. -/
namespace Go.Proofs.YtfelodpbejdhlaaDoor.Ra
open Go Go.RowKit

section
variable {P : Program} {E : Env} {n : Nat} {st : St} {a : Act} {w : World} {g : Gh} {hold : Nat → Place} {look rt : Nat → Option Rt} {o : Oper} {b : Bool}

theorem Rep.ones (hE : TyWf E) {ty : Nat} {t : T} {o : O} {r : Nat} {p : List Step} {κ : Place} (h : Rep E w g ty t o r p κ) :
    o.live = true → ∀ k, k < E.sz ty → ∃ v, rd w (κ.add k) = some v ∧ v.oneCell' = true := by
  induction h with
  | int h1 h2 => intro _ k hk; rw [hE.one _ (by simp [h1])] at hk; obtain rfl : k = 0 := by omega
                 exact ⟨_, by rw [Place.add_zero]; exact h2, rfl⟩
  | bool h1 h2 => intro _ k hk; rw [hE.one _ (by simp [h1])] at hk; obtain rfl : k = 0 := by omega
                  exact ⟨_, by rw [Place.add_zero]; exact h2, rfl⟩
  | str h1 h2 => intro _ k hk; rw [hE.one _ (by simp [h1])] at hk; obtain rfl : k = 0 := by omega
                 exact ⟨_, by rw [Place.add_zero]; exact h2, rfl⟩
  | fn vs cts h1 h3 h4 h5 h6 => intro _ k hk; rw [hE.one _ (by simp [h1])] at hk; obtain rfl : k = 0 := by omega
                                exact ⟨_, by rw [Place.add_zero]; exact h6, rfl⟩
  | cp h1 h2 => intro _ k hk; rw [hE.one _ (by simp [h1])] at hk; obtain rfl : k = 0 := by omega
                exact ⟨_, by rw [Place.add_zero]; exact h2, rfl⟩
  | dead => intro h; simp [O.live] at h
  | fz0 h1 h2 => intro _ k hk; rw [hE.one _ (by simp [h1])] at hk; obtain rfl : k = 0 := by omega
                 exact ⟨_, by rw [Place.add_zero]; exact h2, rfl⟩
  | fz h1 h2 => intro _ k hk; rw [hE.one _ (by simp [h1])] at hk; obtain rfl : k = 0 := by omega
                exact ⟨_, by rw [Place.add_zero]; exact h2, rfl⟩
  | own0 h1 _ h2 => intro _ k hk; rw [hE.one _ (by simp [h1])] at hk; obtain rfl : k = 0 := by omega
                    exact ⟨_, by rw [Place.add_zero]; exact h2, rfl⟩
  | own h1 _ h2 => intro _ k hk; rw [hE.one _ (by simp [h1])] at hk; obtain rfl : k = 0 := by omega
                   exact ⟨_, by rw [Place.add_zero]; exact h2, rfl⟩
  | @st ty fs ts o r p κ h1 h2 h3 ih =>
    intro hl k hk
    rw [hE.sum _ _ h1] at hk
    obtain ⟨j, f, hj, a1, a2⟩ := off_find hk
    have hj' := (List.getElem?_eq_some_iff.1 hj).1
    obtain ⟨v, hv, hv'⟩ := ih j f _ hj (fld_of (by omega)) (live_fld hl j) (k - off E fs j) (by omega)
    rw [Place.add_add, Nat.add_sub_cancel' a1] at hv
    exact ⟨v, hv, hv'⟩

theorem own_cases {ty e : Nat} {t : T} {o : O} {d : Nat} {v : Value} (h : Rep E w g ty t o d [] (.reg [v] 0)) (ht : E.ty ty = .sl e) (ho : o.own = true) :
    ∃ base cap, v = .slice base t.es.length cap ∧ t.es.length ≤ cap ∧ t = .sl t.es ∧
      ((base = none ∧ t.es = [] ∧ cap = 0) ∨ ∃ B off, base = some ⟨B, off, none⟩ ∧ g B = .at d [] ∧ BlkOk w B (off + cap * E.sz e) ∧
        ∀ (i : Nat) (t' : T), t.es[i]? = some t' → Rep E w g e t' o.elem d [.idx i] (.mem B (off + i * E.sz e))) := by
  cases h with
  | own0 b1 b2 b3 => simp [rd] at b3; exact ⟨none, 0, by rw [b3]; simp [T.es], by simp [T.es], rfl, .inl ⟨rfl, rfl, rfl⟩⟩
  | @own _ e2 _ aa cap _ _ _ _ b1 b2 b3 b4 b5 b6 b7 b8 =>
    rw [ht] at b1; cases b1
    simp [rd] at b3
    obtain ⟨B, off, sp⟩ := aa
    simp only at b4; subst b4
    refine ⟨some ⟨B, off, none⟩, cap, by rw [b3]; simp [T.es], by simpa [T.es] using b5, rfl, .inr ⟨B, off, rfl, b6, b7, fun i t' hi => by simpa using b8 i t' hi⟩⟩
  | fz0 => simp [O.own] at ho
  | fz => simp [O.own] at ho
  | dead => simp [O.own] at ho
  | _ => simp_all

/-- The cells of a slice's elements, as a list. -/
theorem elem_cells (hE : TyWf E) {e : Nat} : ∀ (es : List T) {B x : Nat}, (∀ (i : Nat) (t : T), es[i]? = some t → ∃ o r p, o.live = true ∧ Rep E w g e t o r p (.mem B (x + i * E.sz e))) →
    ∃ cs : List Value, cs.length = es.length * E.sz e ∧ (∀ j u, cs[j]? = some u → w.cell? ⟨B, x + j, none⟩ = some u) ∧ ∀ u ∈ cs, u.oneCell' = true := by
  intro es B x h
  have hc : ∀ j, j < es.length * E.sz e → ∃ u, w.cell? ⟨B, x + j, none⟩ = some u ∧ u.oneCell' = true := by
    intro j hj
    have hpos : 0 < E.sz e := by
      rcases Nat.eq_zero_or_pos (E.sz e) with h | h
      · rw [h] at hj; omega
      · exact h
    have hdiv : j / E.sz e < es.length := by rw [Nat.div_lt_iff_lt_mul hpos]; exact hj
    have hmod : j % E.sz e < E.sz e := Nat.mod_lt _ hpos
    have hm : j = j / E.sz e * E.sz e + j % E.sz e := by rw [Nat.mul_comm]; exact (Nat.div_add_mod j (E.sz e)).symm
    obtain ⟨o, r, p, ho, hr⟩ := h _ _ (List.getElem?_eq_getElem hdiv)
    obtain ⟨v, hv, hv'⟩ := hr.ones hE ho (j % E.sz e) hmod
    refine ⟨v, ?_, hv'⟩
    rw [hm, ← Nat.add_assoc]; exact hv
  refine ⟨(List.range (es.length * E.sz e)).map fun j => (w.cell? ⟨B, x + j, none⟩).getD undef, by simp, fun j u hj => ?_, fun u hu => ?_⟩
  · rw [List.getElem?_map] at hj
    have hjl : j < es.length * E.sz e := by
      rcases Nat.lt_or_ge j (es.length * E.sz e) with h | h
      · exact h
      · rw [List.getElem?_eq_none (by simpa using h)] at hj; simp at hj
    rw [List.getElem?_range hjl] at hj
    obtain ⟨v, hv, _⟩ := hc j hjl
    simp [hv] at hj; rw [hv, hj]
  · obtain ⟨j, hj, rfl⟩ := List.mem_map.1 hu
    obtain ⟨v, hv, hv'⟩ := hc j (by simpa using hj)
    simp only [hv, Option.getD_some]; exact hv'

theorem add_plain (b x k : Nat) : (⟨b, x, none⟩ : Addr).add k = ⟨b, x + k, none⟩ := addr_add rfl k

theorem append_ok (hP : PrOk P E) (h : Inv E n st a w g hold) (hl : ∀ r R, look r = some R → st.rt r = some R) (hd : ∀ x, o.dst = some x → x < n) {fi : Fi} {t d : Nat} {x y : Operand} {e : Eff}
    (hop : o.op = .call { callee := .builtin .append, args := #[x, y], argTypes := #[t, t] }) {ax ay : AV} (hx : b = true → AvOk E w g st.rt hold ax (a.eval x)) (hy : b = true → AvOk E w g st.rt hold ay (a.eval y))
    (hd9 : d < 100000) (he : appendE fi E look d t b ax ay = some e) : Acts P E n st a w g hold o e := by
  unfold appendE at he
  split at he
  · cases he
  rename_i et hs0
  have hs : E.ty t = .sl et := by unfold isSl at hs0; split at hs0 <;> simp_all
  split at he
  rotate_left
  · cases he
  rename_i A C hA hC
  cases hm0 : (A.o.own && (mvOk (A.mv ++ C.mv) && E.zok et)) with
  | false => simp [hm0] at he
  | true =>
    simp only [hm0, cond_true] at he
    simp only [Bool.and_eq_true] at hm0
    obtain ⟨hown, hm, hzok⟩ := hm0
    have hsh0 := lay_shape he
    refine ⟨hsh0.2.1, hsh0.2.2, fun hp => ?_⟩
    rw [hsh0.1] at hp
    simp only [Bool.and_eq_true, decide_eq_true_eq] at hp
    obtain ⟨hb, hlim⟩ := hp
    obtain ⟨hok, i, z, hi, hiz, hsh, hzc⟩ := hP.zero et hzok
    obtain ⟨hu, _⟩ := hP.sl t et hs
    obtain ⟨i', hi', hsz, hby⟩ := hP.info et hok
    rw [hi] at hi'; cases hi'
    obtain ⟨hshv, hen, hsrcA, hrepA⟩ := take_ok hP.wf hl h.rts hA (hx hb)
    obtain ⟨ens, hS⟩ := source_ok hP.wf hl h.rts hs hC (hy hb)
    have hliveA := take_live hA
    let n0 := A.t.es.length
    let es := ents [] ax ++ ens n0
    have hses : srcs es = A.mv ++ C.mv := by
      simp only [es, srcs, List.map_append]
      exact congr (congrArg _ (hen [])) (hS.srcs n0)
    have hm' : mvOk (srcs es) = true := by rw [hses]; exact hm
    have hsrc' : ∀ x ∈ srcs es, SrcOk E w g st.rt look hold x := by
      intro x hx; rw [hses] at hx
      rcases List.mem_append.1 hx with hx | hx
      · exact hsrcA x hx
      · exact hS.src x hx
    have htk : Tks es d g (go es d g) := go_tks hm'
    have hRA := hrepA d [] (go es d g) (fun b hb => go_frz hb) htk.left
    obtain ⟨AB, capB, hvy, hCt, hcapB, hCel⟩ := hS.at_
    let O := O.meet A.o.elem C.o
    have hmeet := meet_le (live_elem hliveA) hS.live
    -- the elements appended, where they go
    have hnew : ∀ (aa : Addr), AB = some aa → aa.spot = none → (∀ (i : Nat) (t' : T), C.t.es[i]? = some t' → Rep E w (go es d g) et t' C.o d [.idx (n0 + i)] (.mem aa.block (aa.off + i * E.sz et))) →
        True := fun _ _ _ _ => trivial
    have hC' : C.t.es = [] ∨ ∃ aa : Addr, AB = some aa ∧ aa.spot = none ∧ ∀ (i : Nat) (t' : T), C.t.es[i]? = some t' →
        (∃ o r p, o.live = true ∧ Rep E w g et t' o r p (.mem aa.block (aa.off + i * E.sz et))) ∧ Rep E w (go es d g) et t' C.o d [.idx (n0 + i)] (.mem aa.block (aa.off + i * E.sz et)) :=
      hCel.imp id fun ⟨aa, e1, e2, e3⟩ => ⟨aa, e1, e2, fun i t' hi => ⟨(e3 i t' hi).1, (e3 i t' hi).2 n0 d _ (fun b hb => go_frz hb) htk.right⟩⟩
    -- what the second argument yields
    obtain ⟨news, hnl, hnc, hsrcs⟩ : ∃ news : List Value, news.length = C.t.es.length * E.sz et ∧
        (∀ (i : Nat) (t' : T), C.t.es[i]? = some t' → ∀ k, k < E.sz et → ∃ aa : Addr, AB = some aa ∧ w.cell? ⟨aa.block, aa.off + i * E.sz et + k, none⟩ = news[i * E.sz et + k]?) ∧
        Src P i.size t (a.eval y) C.t.es.length news w := by
      rcases hC' with hnil | ⟨aa, e1, e2, e3⟩
      · refine ⟨[], by simp [hnil], fun i t' hi => by rw [hnil] at hi; simp at hi, ?_⟩
        rw [hvy, hnil]
        cases AB with
        | none => exact Src.ofNil w hu capB
        | some aa => exact Src.ofSlice w hu aa 0 capB [] (by simp) (fun j u hj => by simp at hj) (fun u hu => by cases hu)
      · obtain ⟨cs, c1, c2, c3⟩ := elem_cells hP.wf C.t.es (fun i t' hi => (e3 i t' hi).1)
        refine ⟨cs, c1, fun i t' hi k hk => ⟨aa, e1, ?_⟩, ?_⟩
        · have hil := (List.getElem?_eq_some_iff.1 hi).1
          have : i * E.sz et + k < cs.length := by
            rw [c1]
            have : (i + 1) * E.sz et ≤ C.t.es.length * E.sz et := Nat.mul_le_mul_right _ hil
            rw [Nat.succ_mul] at this; omega
          rw [List.getElem?_eq_getElem this, Nat.add_assoc]
          exact c2 _ _ (List.getElem?_eq_getElem this)
        · rw [hvy, e1]
          refine Src.ofSlice w hu aa _ capB cs (by rw [c1, hsz]) (fun j u hj => ?_) c3
          rw [addr_add e2]; exact c2 j u hj
    -- the first argument
    have hvx : ∃ base cap, a.eval x = .slice base n0 cap ∧ n0 ≤ cap ∧ A.t = .sl A.t.es ∧
        ((base = none ∧ A.t.es = [] ∧ cap = 0) ∨ ∃ B off, base = some ⟨B, off, none⟩ ∧ go es d g B = .at d [] ∧ BlkOk w B (off + cap * E.sz et) ∧
          ∀ (i : Nat) (t' : T), A.t.es[i]? = some t' → Rep E w (go es d g) et t' A.o.elem d [.idx i] (.mem B (off + i * E.sz et))) := by
      have hc := hshv.2; rw [hs] at hc; simp only at hc
      rw [hc] at hRA
      exact own_cases hRA hs hown
    obtain ⟨base, cap, hvx, hcap, hAt, hAel⟩ := hvx
    have hlenT : (A.t.es ++ C.t.es).length = n0 + C.t.es.length := by simp [n0]
    have hbnd := h.bnd
    have fin : ∀ {v : Value} {w' : World}, (Builtin.append_ #[t, t] o.type #[a.eval x, a.eval y]).run P w = .ok v w' →
        (e.pre = (b && decide (A.t.es.length + C.t.es.length ≤ LIM)) ∧ e.g = true ∧ e.req = none ∧ ∃ g' hold', Stp w g w' g' ∧ Sld hold hold' ∧ Inv E n (applyU o.dst (e.ret []) st) (a.put o.dst v) w' g' hold') →
        Does P E n st a w g hold o (e.ret []) := by
      intro v w' hrun hres
      obtain ⟨_, _, _, g', hold', k1, k2⟩ := hres
      refine ⟨.value v, w', v, g', hold', ?_, .inl rfl, k1, k2⟩
      simp [execOp, hop, resolve, invoke, builtin, hrun]
    have helt : ∀ (j : Nat) (t' : T), (A.t.es ++ C.t.es)[j]? = some t' → (j < n0 ∧ A.t.es[j]? = some t') ∨ (∃ k, j = n0 + k ∧ C.t.es[k]? = some t') := by
      intro j t' hj
      rcases Nat.lt_or_ge j n0 with h | h
      · rw [List.getElem?_append_left h] at hj; exact .inl ⟨h, hj⟩
      · rw [List.getElem?_append_right h] at hj; exact .inr ⟨j - n0, by omega, hj⟩
    -- no room
    have grow : cap < n0 + C.t.es.length → Does P E n st a w g hold o (e.ret []) := by
      intro hgr
      obtain ⟨olds, hol, hoc, hofirst⟩ : ∃ olds : List Value, olds.length = n0 * E.sz et ∧
          (∀ (i : Nat) (t' : T), A.t.es[i]? = some t' → ∃ B off, Rep E w (go es d g) et t' A.o.elem d [.idx i] (.mem B (off + i * E.sz et)) ∧ ∀ k, k < E.sz et → w.cell? ⟨B, off + i * E.sz et + k, none⟩ = olds[i * E.sz et + k]?) ∧
          (Builtin.firstCells i.size n0 (.slice base n0 cap)).run P w.drew = .ok olds.toArray w.drew := by
        rcases hAel with ⟨rfl, e2, _⟩ | ⟨B, off, rfl, e2, e3, e4⟩
        · refine ⟨[], by simp [n0, e2], fun i t' hi => by rw [e2] at hi; simp at hi, ?_⟩
          simp [n0, e2, Builtin.firstCells]
        · obtain ⟨cs, c1, c2, c3⟩ := elem_cells hP.wf A.t.es (fun i t' hi => ⟨_, _, _, live_elem hliveA, e4 i t' hi⟩)
          refine ⟨cs, c1, fun i t' hi => ⟨B, off, e4 i t' hi, fun k hk => ?_⟩, ?_⟩
          · have hil := (List.getElem?_eq_some_iff.1 hi).1
            have : i * E.sz et + k < cs.length := by
              rw [c1]
              have : (i + 1) * E.sz et ≤ A.t.es.length * E.sz et := Nat.mul_le_mul_right _ hil
              rw [Nat.succ_mul] at this; omega
            rw [List.getElem?_eq_getElem this, Nat.add_assoc]
            exact c2 _ _ (List.getElem?_eq_getElem this)
          · refine run_firstCells_some w.drew i.size n0 _ n0 cap cs (by rw [c1, hsz]) (fun j u hj => ?_)
            rw [add_plain]; simpa using c2 j u hj
      have hlim' : n0 + C.t.es.length ≤ 4294967296 := hlim
      have hfit : Builtin.nextslicecap (n0 + C.t.es.length) cap * i.bytes ≤ 281474976710656 := by
        refine growslice_fits hgr ?_
        have : (n0 + C.t.es.length) * i.bytes ≤ 4294967296 * 4096 := Nat.mul_le_mul hlim' hby
        omega
      have hrun := run_append_grow_src (P := P) w t t o.type et i z hu hi hiz base n0 cap olds hofirst (a.eval y) C.t.es.length news hsrcs hgr (by omega) hfit
      rw [← hvx] at hrun
      refine fin hrun ?_
      generalize hG : grownCap w (n0 + C.t.es.length) cap et = G
      have hGge : n0 + C.t.es.length ≤ G := by rw [← hG]; exact grownCap_ge _ _ _ _
      let cells : Array Value := (olds ++ news).toArray ++ Builtin.zeroCells z.cells (G - (n0 + C.t.es.length))
      have hgrw := Gr.drew w cells et
      have hcsz : cells.size = G * E.sz et := by
        simp only [cells, Array.size_append, List.size_toArray, List.length_append, hol, hnl, size_zeroCells, hsh.1]
        rw [← Nat.add_mul, ← Nat.add_mul]; congr 1; omega
      have hcold : ∀ m, m < n0 * E.sz et → cells[m]? = olds[m]? := by
        intro m hm
        simp only [cells]
        rw [Array.getElem?_append_left (by simp; omega)]
        simp only [List.getElem?_toArray]
        rw [List.getElem?_append_left (by omega)]
      have hcnew : ∀ m, m < C.t.es.length * E.sz et → cells[n0 * E.sz et + m]? = news[m]? := by
        intro m hm
        simp only [cells]
        rw [Array.getElem?_append_left (by simp; omega)]
        simp only [List.getElem?_toArray]
        rw [List.getElem?_append_right (by omega), hol, Nat.add_sub_cancel_left]
      have hmul : ∀ {i N k : Nat}, i < N → k < E.sz et → i * E.sz et + k < N * E.sz et := by
        intro i N k h1 h2
        have : (i + 1) * E.sz et ≤ N * E.sz et := Nat.mul_le_mul_right _ h1
        rw [Nat.succ_mul] at this; omega
      have hrow := row_of (E := E) (ty := t) hs (w' := w.drew.alloc (.cells cells et)) (g₁ := fg es d g w (.at d [])) (d := d) (B := w.heap.size) (x := 0) (cap := G) (ts := A.t.es ++ C.t.es) (o := O)
        fg_new (by rw [hlenT]; exact hGge) (hgrw.blk (by rw [hcsz]; omega)) (fun j t' hj => by
          rcases helt j t' hj with ⟨hjl, hj⟩ | ⟨k, rfl, hj2⟩
          · obtain ⟨B, off, hrB, hcB⟩ := hoc j t' hj
            refine ⟨_, hmeet.1, hrB.fresh hP.wf hbnd hgrw fun k hk => ?_⟩
            simp only [Place.add, rd, Nat.zero_add]
            rw [hgrw.cell, hcold _ (hmul hjl hk), hcB k hk]
          · rcases hC' with hnil | ⟨aa, e1, e2, e3⟩
            · rw [hnil] at hj2; simp at hj2
            · refine ⟨_, hmeet.2, (e3 k t' hj2).2.fresh hP.wf hbnd hgrw fun m hm => ?_⟩
              have hkl := (List.getElem?_eq_some_iff.1 hj2).1
              obtain ⟨aa', f1, f2⟩ := hnc k t' hj2 m hm
              rw [e1] at f1; cases f1
              simp only [Place.add, rd, Nat.zero_add]
              rw [hgrw.cell, Nat.add_mul, Nat.add_assoc, hcnew _ (hmul hkl hm), f2])
      rw [hlenT] at hrow
      refine fresh_ok (look := look) (es := es) hP.wf h hl hm' hsrc' (by rw [hses]; exact he) hd hd9 hgrw (g₁ := wk (.sl O) d (fg es d g w (.at d [])))
        (fun b hb hnd => ?_) (fun b hb => fg_free (wk_free hb)) hrow (.inl ⟨rfl, rfl, _, _, _, et, rfl, hs⟩)
      rw [wk_other (by rw [fg_old hb]; exact hnd), fg_old hb]
    rcases Nat.lt_or_ge cap (n0 + C.t.es.length) with hlt | hge
    · exact grow hlt
    rcases hAel with ⟨rfl, e2, e3⟩ | ⟨B, off, rfl, e2, e3, e4⟩
    · -- nothing is appended to nothing
      have hn0 : n0 = 0 := by simp [n0, e2]
      have hc0 : C.t.es = [] := List.eq_nil_of_length_eq_zero (by omega)
      have hnews : news = [] := List.eq_nil_of_length_eq_zero (by rw [hnl, hc0]; simp)
      rw [hc0, hnews] at hsrcs
      have hrun := run_append_nothing (P := P) w t t o.type et i hu hi none n0 cap hcap (a.eval y) hsrcs
      rw [← hvx] at hrun
      refine fin hrun ?_
      rw [hvx, hn0, e3]
      refine lay_ok (look := look) (es := es) hP.wf h hl hm' hsrc' (by rw [hses]; exact he) hd hd9 (w' := w) (g₁ := go es d g) (κ := .reg [.slice none 0 0] 0)
        (fun b _ hng _ => ⟨SameBlk.refl _ _, go_other hng⟩) (fun b hb => hbnd b (go_notfree hb)) ⟨rfl, rfl, rfl, Nat.le_refl _⟩ (fun b _ hfr => ⟨rfl, ?_⟩) ?_ (.inl ⟨rfl, rfl, _, _, _, et, rfl, hs⟩)
      · rcases hfr with hf | hf
        · rw [go_free hf, hf]
        · rw [go_frz hf, hf]
      · simp only [e2, hc0, List.append_nil]
        exact .own0 hs rfl rfl
    · -- room
      have hBn : g B ≠ .free := go_notfree (es := es) (d := d) (by rw [e2]; simp)
      have hszle : (n0 + C.t.es.length) * E.sz et ≤ cap * E.sz et := Nat.mul_le_mul_right _ hge
      have hin : ∀ j, j < news.length → off + n0 * i.size + j < off + cap * E.sz et := by
        intro j hj; rw [hnl] at hj; rw [hsz]; rw [Nat.add_mul] at hszle; omega
      have hrun := run_append_room_src (P := P) w t t o.type et i hu hi B off n0 cap (a.eval y) C.t.es.length news hsrcs hge
        (fun j hj => blk_cell e3 (hin j hj)) (fun j hj => unfrozen e3 _)
      rw [← hvx] at hrun
      refine fin hrun ?_
      let w' := w.setCells B (off + n0 * i.size) news
      obtain ⟨z1, z2, z3, z4⟩ := sz_setCells B news (off + n0 * i.size) w
      have hother : ∀ b, b < w.heap.size → b ≠ B → w'.heap[b]? = w.heap[b]? := fun b hb hne => World.heap_setCells_other w B _ news hb hne
      have hsame : ∀ b, g b ≠ .free → b ≠ B → SameBlk w w' b := fun b hb hne => .of_heap (hother b (hbnd b hb) hne)
      have hmul : ∀ {i N k : Nat}, i < N → k < E.sz et → i * E.sz et + k < N * E.sz et := by
        intro i N k h1 h2
        have : (i + 1) * E.sz et ≤ N * E.sz et := Nat.mul_le_mul_right _ h1
        rw [Nat.succ_mul] at this; omega
      have hlean : ∀ {j b : Nat}, Leans (go es d g) d [.idx j] b → SameBlk w w' b ∧ go es d g b = go es d g b := by
        intro j b hb
        refine ⟨hsame b (go_notfree hb.nf) ?_, rfl⟩
        rintro rfl
        rcases hb with hb | ⟨q, hb⟩ <;> rw [e2] at hb <;> simp at hb
      have hrow := row_of (E := E) (ty := t) hs (w' := w') (g₁ := go es d g) (d := d) (B := B) (x := off) (cap := cap) (ts := A.t.es ++ C.t.es) (o := O)
        e2 (by rw [hlenT]; exact hge) (blk_setCells B _ news _ w e3) (fun j t' hj => by
          rcases helt j t' hj with ⟨hjl, hj⟩ | ⟨k, rfl, hj2⟩
          · refine ⟨_, hmeet.1, (e4 j t' hj).reloc hP.wf (fun k hk => ?_) fun b hb => hlean hb⟩
            simp only [Place.add, rd]
            refine World.cell?_setCells_out B news _ w _ fun _ _ => .inl ?_
            have := hmul hjl hk
            rw [hsz]; simp only; omega
          · rcases hC' with hnil | ⟨aa, f1, f2, f3⟩
            · rw [hnil] at hj2; simp at hj2
            · refine ⟨_, hmeet.2, (f3 k t' hj2).2.reloc hP.wf (fun m hm => ?_) fun b hb => hlean hb⟩
              have hkl := (List.getElem?_eq_some_iff.1 hj2).1
              obtain ⟨aa', g1, g2⟩ := hnc k t' hj2 m hm
              rw [f1] at g1; cases g1
              simp only [Place.add, rd]
              have hlt : k * E.sz et + m < news.length := by rw [hnl]; exact hmul hkl hm
              have := World.cell?_setCells_in B news (off + n0 * i.size) w (fun j hj => blk_cell e3 (hin j hj)) (k * E.sz et + m) hlt
              rw [g2, List.getElem?_eq_getElem hlt, ← this, hsz, Nat.add_mul]
              simp only [w', hsz]
              congr 2
              omega)
      rw [hlenT] at hrow
      refine lay_ok (look := look) (es := es) hP.wf h hl hm' hsrc' (by rw [hses]; exact he) hd hd9 (w' := w') (g₁ := wk (.sl O) d (go es d g)) (κ := .reg [.slice (some ⟨B, off, none⟩) (n0 + C.t.es.length) cap] 0)
        (fun b hb hng hnd => ⟨hsame b hb ?_, ?_⟩) (fun b hb => ?_) ⟨z2, z3, z4, by rw [z1]; omega⟩ (fun b hbl hfr => ⟨?_, ?_⟩) hrow (.inl ⟨rfl, rfl, _, _, _, et, rfl, hs⟩)
      · rintro rfl
        rw [go_other hng] at e2; exact hnd [] e2
      · rw [wk_other (by rw [go_other hng]; exact hnd), go_other hng]
      · show b < w'.heap.size
        rw [z1]; exact hbnd b (go_notfree (wk_free hb))
      · refine hother b hbl ?_
        rintro rfl
        rcases hfr with hf | hf
        · exact hBn hf
        · rw [go_frz hf] at e2; cases e2
      · rcases hfr with hf | hf
        · rw [wk_other (by rw [go_free hf]; simp), go_free hf, hf]
        · rw [wk_other (by rw [go_frz hf]; simp), go_frz hf, hf]
end
end Go.Proofs.YtfelodpbejdhlaaDoor.Ra
/- A store. -/
namespace Go.Proofs.YtfelodpbejdhlaaDoor.Ra
open Go Go.RowKit

section
variable {P : Program} {E : Env} {n : Nat} {st : St} {a : Act} {w : World} {g : Gh} {hold : Nat → Place} {look rt : Nat → Option Rt} {o : Oper} {b : Bool}

/-- A place that may be written lies within its root's own cells or in a block that is all there. -/
theorem Sub.blk (hE : TyWf E) {r : Nat} {ty : Nat} {p : List Step} {κ : Place} {q : List Step} {ty' : Nat} {κ' : Place} (hs : Sub E w g r ty p κ q ty' κ') :
    ∀ {t : T} {o : O}, Rep E w g ty t o r p κ → o.way q = true → (allFld q = true ∧ ∃ d, κ' = κ.add d ∧ d + E.sz ty' ≤ E.sz ty) ∨ ∃ b x, κ' = .mem b x ∧ BlkOk w b (x + E.sz ty') := by
  induction hs with
  | nil => intro t o _ _; exact .inl ⟨rfl, 0, (Place.add_zero _).symm, by omega⟩
  | @fld ty fs j f p κ q ty' κ' h1 h2 _ ih =>
    intro t o h hw
    cases h with
    | st a1 a2 a3 =>
      rw [h1] at a1; cases a1
      have hj : j < fs.length := (List.getElem?_eq_some_iff.1 h2).1
      rcases ih (a3 j f _ h2 (fld_of (by omega))) (by cases o <;> simp_all [O.way]) with ⟨ha, d, hd, hd'⟩ | hr
      · refine .inl ⟨ha, off E fs j + d, by rw [hd, Place.add_add], ?_⟩
        rw [hE.sum _ _ h1]; have := off_le (E := E) h2; omega
      · exact .inr hr
    | dead => simp [O.way] at hw
    | _ => simp_all
  | @idx ty e a len cap i p κ q ty' κ' h1 h2 h3 h4 h5 _ ih =>
    intro t o h hw
    simp only [O.way, Bool.and_eq_true] at hw
    cases h with
    | own a1 a2 a3 a4 a5 a6 a7 a8 =>
      rw [h1] at a1; cases a1
      rw [h2] at a3; cases a3
      rcases ih (a8 i _ (nth_of h3)) hw.2 with ⟨ha, d, hd, hd'⟩ | hr
      · refine .inr ⟨_, _, hd, a7.mono ?_⟩
        have : (i + 1) * E.sz e ≤ cap * E.sz e := Nat.mul_le_mul_right _ (by omega)
        rw [Nat.succ_mul] at this; omega
      · exact .inr hr
    | fz a1 a2 a3 a4 a5 a6 => simp [O.own] at hw
    | fz0 a1 a2 => simp [O.own] at hw
    | own0 a1 a2 a3 => rw [h2] at a3; cases a3
    | dead => simp [O.own] at hw
    | _ => simp_all

/-- The way to a place is told as it was. -/
theorem Sub.retell {g' : Gh} {r : Nat} {ty : Nat} {p : List Step} {κ : Place} {q : List Step} {ty' : Nat} {κ' : Place} (hs : Sub E w g r ty p κ q ty' κ') :
    (∀ b q1 i q2, q = q1 ++ .idx i :: q2 → g b = .at r (p ++ q1) → g' b = g b) → Sub E w g' r ty p κ q ty' κ' := by
  induction hs with
  | nil => intro _; exact .nil
  | fld h1 h2 _ ih => intro h; exact .fld h1 h2 (ih fun b q1 i q2 hq hb => h b (_ :: q1) i q2 (by rw [hq]; rfl) (by rw [hb]; simp))
  | @idx ty e a len cap i p κ q ty' κ' h1 h2 h3 h4 h5 _ ih =>
    intro h
    exact .idx h1 h2 h3 h4 (by rw [h a.block [] i q rfl (by simpa using h5), h5]) (ih fun b q1 i' q2 hq hb => h b (.idx i :: q1) i' q2 (by rw [hq]; rfl) (by rw [hb]; simp))
/-- A way stays where no slice on it is written over. -/
theorem Sub.stay {w' : World} {r : Nat} {ty : Nat} {p : List Step} {κ : Place} {q : List Step} {ty' : Nat} {κ' : Place} (hs : Sub E w g r ty p κ q ty' κ') :
    (∀ κ A l c, rd w κ = some (.slice A l c) → rd w' κ = some (.slice A l c)) → Sub E w' g r ty p κ q ty' κ' := by
  induction hs with
  | nil => intro _; exact .nil
  | fld h1 h2 _ ih => intro h; exact .fld h1 h2 (ih h)
  | idx h1 h2 h3 h4 h5 _ ih => intro h; exact .idx h1 (h _ _ _ _ h2) h3 h4 h5 (ih h)

theorem fresh_root (g : Gh) (N : Nat) (h : ∀ b, g b ≠ .free → b < N) (r : Nat) : ∃ D, D ≠ r ∧ ∀ b q, g b ≠ .at D q := by
  have : ∀ N, ∃ D, D ≠ r ∧ ∀ D', D ≤ D' → ∀ b, b < N → ∀ q, g b ≠ .at D' q := by
    intro N
    induction N with
    | zero => exact ⟨r + 1, by omega, fun _ _ b hb => by omega⟩
    | succ N ih =>
      obtain ⟨D, h1, h2⟩ := ih
      refine ⟨D + r + 1 + (match g N with | .at k _ => k | _ => 0), by omega, fun D' hD b hb q hbq => ?_⟩
      rcases Nat.lt_or_ge b N with hlt | hge
      · exact h2 D' (by omega) b hlt q hbq
      · obtain rfl : b = N := by omega
        rw [hbq] at hD
        simp only at hD; omega
  obtain ⟨D, h1, h2⟩ := this N
  refine ⟨D, h1, fun b q hbq => ?_⟩
  exact h2 D (Nat.le_refl _) b (h b (by rw [hbq]; simp)) q hbq

/-- From a root of its own to a place of another one, held as told. -/
def into (D r : Nat) (p : List Step) (o₁ : O) (g : Gh) : Gh := fun b => match g b with
  | .at r' q => if r' = D then (if (o₁.get q).isFz then .frz else .at r (p ++ q)) else .at r' q
  | x => x
theorem into_goes (D r : Nat) (p : List Step) (o₁ : O) (g : Gh) : Goes g (into D r p o₁ g) D [] o₁ r p := by
  refine ⟨fun b hb => by simp [into, hb], fun b q hb => ?_⟩
  rw [List.nil_append] at hb
  simp [into, hb]
theorem into_other {D r : Nat} {p : List Step} {o₁ : O} {g : Gh} {b : Nat} (h : ∀ q, g b ≠ .at D q) : into D r p o₁ g b = g b := by
  unfold into
  split
  · rename_i r' q hb
    rw [if_neg, hb]
    rintro rfl; exact h q hb
  · rfl
theorem into_free {D r : Nat} {p : List Step} {o₁ : O} {g : Gh} {b : Nat} (h : into D r p o₁ g b ≠ .free) : g b ≠ .free := by
  intro hf; exact h (by rw [into_other (by rw [hf]; simp), hf])

theorem run_storeVar' (hP : PrOk P E) {t : Nat} (ht : okTy E t = true) {B x m : Nat} {v : Value} (hblk : BlkOk w B m) (hm : x + E.sz t ≤ m) (hs : v.cells.size = E.sz t) (h1 : ∀ u ∈ v.cells.toList, u.oneCell' = true) :
    (Instr.storeAt t (.pointer (some ⟨B, x, none⟩)) v).run P w = .ok () (w.setCells B x v.cells.toList) := by
  obtain ⟨i, hi, _, hsz, _⟩ := info_ok (w := w) hP ht
  have hst := run_storeCells_cells (P := P) B x v.cells.toList 0 w (fun j hj => blk_cell hblk (by simp at hj; omega)) (fun j hj => unfrozen hblk _) h1
  simp only [Nat.add_zero] at hst
  simp [Instr.storeAt, Instr.sureAddr, storeVar, hsz, hs, hst]

theorem ones_reg (hE : TyWf E) {ty : Nat} {t : T} {o : O} {r : Nat} {p : List Step} {v : Value} {g : Gh} (h : Rep E w g ty t o r p (.reg v.cells.toList 0)) (ho : o.live = true) (hs : v.cells.size = E.sz ty) :
    ∀ u ∈ v.cells.toList, u.oneCell' = true := by
  intro u hu
  obtain ⟨k, hk, rfl⟩ := List.mem_iff_getElem.1 hu
  obtain ⟨v', h1, h2⟩ := h.ones hE ho k (by rw [← hs]; simpa using hk)
  simp only [Place.add, Nat.zero_add, rd] at h1
  rw [List.getElem?_eq_getElem hk] at h1
  cases h1; exact h2
end
end Go.Proofs.YtfelodpbejdhlaaDoor.Ra
/- A store, carried out. -/
namespace Go.Proofs.YtfelodpbejdhlaaDoor.Ra
open Go Go.RowKit

section
variable {P : Program} {E : Env} {n : Nat} {st : St} {a : Act} {w : World} {g : Gh} {hold : Nat → Place} {look rt : Nat → Option Rt} {o : Oper} {b : Bool}

theorem allFld_noidx {p q1 q2 : List Step} {i : Nat} (h : allFld p = true) : p ≠ q1 ++ .idx i :: q2 := by
  induction p generalizing q1 with
  | nil => intro h'; cases q1 <;> simp at h'
  | cons s p ih =>
    intro h'
    cases q1 with
    | nil => simp at h'; obtain ⟨rfl, _⟩ := h'; simp [allFld] at h
    | cons s' q1 =>
      simp at h'
      cases s with
      | idx => simp [allFld] at h
      | fld j => exact ih (by simpa [allFld] using h) h'.2
theorem way_pre {q1 q2 : List Step} : ∀ {o : O} {i : Nat}, o.way (q1 ++ .idx i :: q2) = true → (o.get q1).own = true := by
  induction q1 with
  | nil => intro o i h; simp only [List.nil_append, O.way, Bool.and_eq_true] at h; exact h.1
  | cons s q1 ih =>
    intro o i h
    cases s with
    | idx k => simp only [List.cons_append, O.way, Bool.and_eq_true] at h; exact ih h.2
    | fld j => exact ih (o := o.fld j) (i := i) (by cases o <;> simp_all [O.way])

/-- What is written: a place of a root, its block, the world behind. -/
structure Wrt (E : Env) (w : World) (g : Gh) (hold : Nat → Place) (r : Nat) (R : Rt) (ty : Nat) (p : List Step) (B x : Nat) : Prop where
  sub : Sub E w g r R.ty [] (hold r) p ty (.mem B x)
  blk : ∃ m, BlkOk w B m ∧ x + E.sz ty ≤ m
  own : g B = .hd r ∨ ∃ q1 i q2, g B = .at r q1 ∧ p = q1 ++ .idx i :: q2

theorem wrt_of (hE : TyWf E) {r : Nat} {R : Rt} (hR : RtOk E w g hold r R) {ty : Nat} {p : List Step} {B x : Nat} (hs : Sub E w g r R.ty [] (hold r) p ty (.mem B x)) {o' : O}
    (hrep : Rep E w g R.ty R.t o' r [] (hold r)) (hw : o'.way p = true) : Wrt E w g hold r R ty p B x := by
  refine ⟨hs, ?_, ?_⟩
  · rcases hs.blk hE hrep hw with ⟨_, d, hd, hd'⟩ | ⟨b, x', h1, h2⟩
    · cases hb : R.box with
      | true =>
        obtain ⟨b, o, e1, e2, e3⟩ := hR.box hb
        rw [e1] at hd; simp only [Place.add, Place.mem.injEq] at hd
        obtain ⟨rfl, rfl⟩ := hd
        exact ⟨_, e3, by omega⟩
      | false =>
        obtain ⟨vs, e1⟩ := hR.reg hb
        rw [e1] at hd; simp [Place.add] at hd
    · cases h1; exact ⟨_, h2, Nat.le_refl _⟩
  · rcases hs.where hE with ⟨_, d, hd, _⟩ | ⟨b, o, q1, i, q2, h1, h2, h3⟩
    · cases hb : R.box with
      | true =>
        obtain ⟨b, o, e1, e2, e3⟩ := hR.box hb
        rw [e1] at hd; simp only [Place.add, Place.mem.injEq] at hd
        obtain ⟨rfl, rfl⟩ := hd
        exact .inl e2
      | false =>
        obtain ⟨vs, e1⟩ := hR.reg hb
        rw [e1] at hd; simp [Place.add] at hd
    · cases h1; exact .inr ⟨q1, i, q2, by simpa using h2, h3⟩

theorem set_same {B x : Nat} {vs : List Value} {b : Nat} (hb : b < w.heap.size) (hne : b ≠ B) : SameBlk w (w.setCells B x vs) b := .of_heap (World.heap_setCells_other w B x vs hb hne)

/-- A flat value is written: what is told of places goes on. -/
theorem store_flat (hP : PrOk P E) (h : Inv E n st a w g hold) {r : Nat} {R : Rt} (hR : st.rt r = some R) {ty : Nat} {p : List Step} {B x : Nat} (hw : Wrt E w g hold r R ty p B x)
    (hway : R.o.way p = true) (hlive : (R.o.get p).live = true) (hflat : E.flat ty = true) {v : Value} {t : T} {o' : O} (ho' : o'.live = true) (hv : Rep E w g ty t o' 0 [] (.reg v.cells.toList 0)) (hsh : Shaped E ty v) {u : Value} :
    Stp w g (w.setCells B x v.cells.toList) g ∧
      Inv E n (applyU none ⟨.undef, [(r, some { R with t := R.t.put p t })], []⟩ st) (a.put none u) (w.setCells B x v.cells.toList) g hold := by
  have hE := hP.wf
  obtain ⟨m, hblk, hm⟩ := hw.blk
  obtain ⟨z1, z2, z3, z4⟩ := sz_setCells B v.cells.toList x w
  have ok := h.rts r R hR
  have hBn : g B ≠ .free := by rcases hw.own with e | ⟨_, _, _, e, _⟩ <;> rw [e] <;> simp
  have hBf : g B ≠ .frz := by rcases hw.own with e | ⟨_, _, _, e, _⟩ <;> rw [e] <;> simp
  have hin : ∀ k, k < E.sz ty → (w.setCells B x v.cells.toList).cell? ⟨B, x + k, none⟩ = v.cells.toList[k]? := by
    intro k hk
    have := World.cell?_setCells_in B v.cells.toList x w (fun j hj => blk_cell hblk (by simp [hsh.1] at hj; omega)) k (by simpa [hsh.1] using hk)
    rw [this, List.getElem?_eq_getElem]
  have hout : ∀ b k, ¬ (b = B ∧ x ≤ k ∧ k < x + E.sz ty) → (w.setCells B x v.cells.toList).cell? ⟨b, k, none⟩ = w.cell? ⟨b, k, none⟩ := by
    intro b k hn
    refine World.cell?_setCells_out B v.cells.toList x w _ fun h1 _ => ?_
    simp only at h1; subst h1
    simp only [Array.length_toList, hsh.1]
    rcases Nat.lt_or_ge k x with h2 | h2
    · exact .inl h2
    · exact .inr (by rcases Nat.lt_or_ge k (x + E.sz ty) with h3 | h3; exact absurd ⟨rfl, h2, h3⟩ hn; exact h3)
  have hsame : ∀ b, g b ≠ .free → b ≠ B → SameBlk w (w.setCells B x v.cells.toList) b := fun b hb hne => set_same (h.bnd b hb) hne
  have hblk' : ∀ b n, BlkOk w b n → BlkOk (w.setCells B x v.cells.toList) b n := by
    intro b n hb
    by_cases hbB : b = B
    · subst hbB; exact blk_setCells b n _ _ w hb
    · obtain ⟨c, e, h1, h2⟩ := hb
      have hlt := (Array.getElem?_eq_some_iff.1 h1).1
      exact ⟨c, e, by rw [World.heap_setCells_other w B x _ hlt hbB, h1], h2⟩
  have hold1 := sub_rep' ok hw.sub
  have hslice : ∀ κ A l c, rd w κ = some (.slice A l c) → rd (w.setCells B x v.cells.toList) κ = some (.slice A l c) := by
    intro κ A l c hrd
    cases κ with
    | reg vs k => exact hrd
    | mem b k =>
      simp only [rd] at hrd ⊢
      by_cases hr : b = B ∧ x ≤ k ∧ k < x + E.sz ty
      · obtain ⟨rfl, h2, h3⟩ := hr
        obtain ⟨v', h4, h5⟩ := hold1.plain hE hlive hflat (k - x) (by omega)
        simp only [Place.add, rd] at h4
        rw [Nat.add_sub_cancel' h2, hrd] at h4
        cases h4
        rcases h5 with ⟨_, _, h5⟩ | ⟨_, h5⟩ | ⟨_, h5⟩ <;> cases h5
      · rw [hout b k hr, hrd]
  have hfrz : ∀ b, g b = .frz → SameBlk w (w.setCells B x v.cells.toList) b ∧ g b = .frz := fun b hb => ⟨hsame b (by rw [hb]; simp) (by rintro rfl; exact hBf hb), hb⟩
  have hrt : ∀ r', (applyU none ⟨.undef, [(r, some { R with t := R.t.put p t })], []⟩ st).rt r' = if r' = r then some { R with t := R.t.put p t } else st.rt r' := by
    intro r'
    simp only [applyU, assoc, nbeq]
    by_cases hr : r = r'
    · subst hr; simp
    · simp [hr, Ne.symm hr]
  refine ⟨⟨z2, z3, z4, by rw [z1]; exact Nat.le_refl _, fun b hb hf => ⟨World.heap_setCells_other w B x _ hb (by rintro rfl; rcases hf with hf | hf; exact hBn hf; exact hBf hf), rfl⟩⟩, ?_⟩
  refine h.apply hE (fun x hx => by cases hx) hfrz ?_ (fun r' R' hR' => ?_) (fun b hb => by rw [z1]; exact h.bnd b hb) (fun hx => by simp at hx)
  · intro r' R' hr'
    refine ⟨fun p' ty' e κ v' he hs hv' ⟨A, l, c, hsl⟩ _ => ?_, fun p' ty' b' o' hs _ => ?_⟩
    · subst hsl
      by_cases hrr : r' = r
      · subst hrr; rw [hR] at hr'; cases hr'
        exact ⟨{ R with t := R.t.put p t }, κ, by rw [hrt]; simp, hs.stay hslice, hslice _ _ _ _ hv'⟩
      · exact ⟨R', κ, by rw [hrt, if_neg hrr]; exact hr', hs.stay hslice, hslice _ _ _ _ hv'⟩
    · by_cases hrr : r' = r
      · subst hrr; rw [hR] at hr'; cases hr'
        exact ⟨{ R with t := R.t.put p t }, by rw [hrt]; simp, hs.stay hslice⟩
      · exact ⟨R', by rw [hrt, if_neg hrr]; exact hr', hs.stay hslice⟩
  · rw [hrt] at hR'
    by_cases hrr : r' = r
    · subst hrr
      simp at hR'; subst hR'
      refine ⟨?_, fun hb => ?_, fun hb => ok.reg hb⟩
      · have hput := OPut.self hw.sub R.o hway
        refine Rep.update hE hw.sub rfl ok.rep hway hput (t₁ := t) ?_ ?_ ?_ ?_
        · refine hv.flat hE ho' hflat fun k hk => ?_
          simp only [Place.add, rd, Nat.zero_add]
          exact hin k hk
        · intro b _
          exact ⟨rfl, fun n hn => hout b n hn, fun n hn => hblk' b n hn⟩
        · intro k _ hne
          cases hκ : hold r' with
          | reg vs k0 => rfl
          | mem b k0 =>
            rw [hκ] at hne
            simp only [Place.add, rd]
            refine hout b (k0 + k) ?_
            rintro ⟨rfl, h2, h3⟩
            exact hne (k0 + k) rfl ⟨h2, h3⟩
        · intro b k0 hκ
          cases hb : R.box with
          | true =>
            obtain ⟨b', o', e1, e2, e3⟩ := ok.box hb
            rw [hκ] at e1; cases e1
            rw [e2]; simp
          | false =>
            obtain ⟨vs, e1⟩ := ok.reg hb
            rw [hκ] at e1; cases e1
      · obtain ⟨b', o', e1, e2, e3⟩ := ok.box hb
        exact ⟨b', o', e1, e2, hblk' _ _ e3⟩
    · rw [if_neg hrr] at hR'
      refine (h.rts r' R' hR').keep hE ⟨rfl, fun b hb => ⟨hsame b ?_ ?_, rfl⟩⟩ hfrz
      · rcases hb with hb | ⟨q, hb⟩ <;> rw [hb] <;> simp
      · rintro rfl
        rcases hw.own with e | ⟨_, _, _, e, _⟩ <;> rcases hb with hb | ⟨q, hb⟩ <;> rw [hb] at e <;> cases e <;> exact hrr rfl

/-- A value that is moved is written. -/
theorem store_deep (hP : PrOk P E) (h : Inv E n st a w g hold) (hl : ∀ r R, look r = some R → st.rt r = some R) {r : Nat} {R R1 : Rt} (hR : look r = some R) {ty : Nat} {p : List Step} {B x : Nat}
    (hsub : Sub E w g r R.ty [] (hold r) p ty (.mem B x)) {av : AV} {c : Taken} {v : Value} (htk : take E look ty av = some c) (hav : AvOk E w g st.rt hold av v) (hm : mvOk c.mv = true)
    (hR1 : (bif mem r (rootsOf c.mv) then moved E c.mv r R else some R) = some R1) (hway : R1.o.way p = true) {o₁ o' : O} (hle : O.le o₁ c.o = true) (hput : OPut E R.ty R1.o p o₁ o') {u : Value} :
    (∃ m, BlkOk w B m ∧ x + E.sz ty ≤ m) ∧ Shaped E ty v ∧ (∀ u ∈ v.cells.toList, u.oneCell' = true) ∧ ∃ g', Stp w g (w.setCells B x v.cells.toList) g' ∧
      Inv E n (applyU none ⟨.undef, (r, some { R1 with t := R1.t.put p c.t, o := o' }) :: movedAll E look c.mv, (r, bif R.box then 2 else 1) :: killMv look c.mv⟩ st) (a.put none u) (w.setCells B x v.cells.toList) g' hold := by
  have hE := hP.wf
  have hRs := hl r R hR
  have ok := h.rts r R hRs
  obtain ⟨hsh, hen, hsrc, hrep⟩ := take_ok hE hl h.rts htk hav
  let es := ents [] av
  have hes : srcs es = c.mv := hen []
  have hm' : mvOk (srcs es) = true := by rw [hes]; exact hm
  have hsrc' : ∀ x ∈ srcs es, SrcOk E w g st.rt look hold x := by rw [hes]; exact hsrc
  -- what is left of the root
  have left : R1.ty = R.ty ∧ R1.t = R.t ∧ R1.box = R.box ∧ Rep E w g R.ty R.t R1.o r [] (hold r) ∧ ∀ p, (r, p) ∈ srcs es → R1.o.get p = .dead := by
    by_cases hr : r ∈ rootsOf c.mv
    · have := left_ok hE h hl hm' hsrc' hRs (by rw [hes]; exact hr)
      rw [hR, Option.bind_some, hes] at this
      rw [mem_iff.2 hr, cond_true] at hR1
      rw [hR1] at this
      obtain ⟨i1, i2, i3, i4, i5, _, _⟩ := this
      exact ⟨i1, i2, i3, i4, by rw [hes]; exact i5⟩
    · have : mem r (rootsOf c.mv) = false := by
        cases hb : mem r (rootsOf c.mv) with
        | false => rfl
        | true => exact absurd (mem_iff.1 hb) hr
      rw [this, cond_false] at hR1; cases hR1
      exact ⟨rfl, rfl, rfl, ok.rep, fun p hp => absurd (rootsOf_mem.2 ⟨p, by rw [← hes]; exact hp⟩) hr⟩
  obtain ⟨l1, l2, l3, l4, l5⟩ := left
  have hw := wrt_of hE ok hsub l4 hway
  obtain ⟨m, hblk, hm2⟩ := hw.blk
  obtain ⟨z1, z2, z3, z4⟩ := sz_setCells B v.cells.toList x w
  -- the block that is written is not moved
  have hng : ∀ q1, (∃ i q2, p = q1 ++ .idx i :: q2) → ∀ b, g b = .at r q1 → ¬ Goesw es g b := by
    rintro q1 ⟨i, q2, hp⟩ b hb ⟨e, he, q, hq⟩
    rw [hb] at hq; simp only [Own.at.injEq] at hq
    have hd := l5 e.2.1 (by rw [hq.1]; exact List.mem_map.2 ⟨e, he, rfl⟩)
    have ho := way_pre (q1 := q1) (q2 := q2) (i := i) (by rw [← hp]; exact hway)
    rw [hq.2, get_append, hd, get_dead] at ho
    simp [O.own] at ho
  obtain ⟨D, hDr, hD⟩ := fresh_root g w.heap.size h.bnd r
  let g₁ := go es D g
  have hone := ones_reg hE (hrep 0 [] (go es 0 g) (fun b hb => go_frz hb) (go_tks hm')) (take_live htk) hsh.1
  have hg₁D : ∀ b, ¬ Goesw es g b → ∀ q, g₁ b ≠ .at D q := fun b hb q => by simp only [g₁]; rw [go_other hb]; exact hD b q
  let g' := into D r p o₁ g₁
  have hg' : ∀ b, ¬ Goesw es g b → g' b = g b := fun b hb => by simp only [g']; rw [into_other (hg₁D b hb)]; exact go_other hb
  have hBng : ¬ Goesw es g B := by
    rcases hw.own with e | ⟨q1, i, q2, e, hp⟩
    · rintro ⟨_, _, q, hq⟩; rw [e] at hq; cases hq
    · exact hng q1 ⟨i, q2, hp⟩ B e
  have hBn : g B ≠ .free := by rcases hw.own with e | ⟨_, _, _, e, _⟩ <;> rw [e] <;> simp
  have hBf : g B ≠ .frz := by rcases hw.own with e | ⟨_, _, _, e, _⟩ <;> rw [e] <;> simp
  have hin : ∀ k, k < E.sz ty → (w.setCells B x v.cells.toList).cell? ⟨B, x + k, none⟩ = v.cells.toList[k]? := by
    intro k hk
    have := World.cell?_setCells_in B v.cells.toList x w (fun j hj => blk_cell hblk (by simp [hsh.1] at hj; omega)) k (by simpa [hsh.1] using hk)
    rw [this, List.getElem?_eq_getElem]
  have hout : ∀ b k, ¬ (b = B ∧ x ≤ k ∧ k < x + E.sz ty) → (w.setCells B x v.cells.toList).cell? ⟨b, k, none⟩ = w.cell? ⟨b, k, none⟩ := by
    intro b k hn
    refine World.cell?_setCells_out B v.cells.toList x w _ fun h1 _ => ?_
    simp only at h1; subst h1
    simp only [Array.length_toList, hsh.1]
    rcases Nat.lt_or_ge k x with h2 | h2
    · exact .inl h2
    · exact .inr (by rcases Nat.lt_or_ge k (x + E.sz ty) with h3 | h3; exact absurd ⟨rfl, h2, h3⟩ hn; exact h3)
  have hsame : ∀ b, g b ≠ .free → b ≠ B → SameBlk w (w.setCells B x v.cells.toList) b := fun b hb hne => set_same (h.bnd b hb) hne
  have hblk' : ∀ b n, BlkOk w b n → BlkOk (w.setCells B x v.cells.toList) b n := by
    intro b n hb
    by_cases hbB : b = B
    · subst hbB; exact blk_setCells b n _ _ w hb
    · obtain ⟨c, e, h1, h2⟩ := hb
      have hlt := (Array.getElem?_eq_some_iff.1 h1).1
      exact ⟨c, e, by rw [World.heap_setCells_other w B x _ hlt hbB, h1], h2⟩
  have hg'B : g' B = g B := hg' B hBng
  have hstp : Stp w g (w.setCells B x v.cells.toList) g' := by
    refine ⟨z2, z3, z4, by rw [z1]; exact Nat.le_refl _, fun b hb hf => ⟨World.heap_setCells_other w B x _ hb ?_, ?_⟩⟩
    · rintro rfl; rcases hf with hf | hf; exact hBn hf; exact hBf hf
    · refine hg' b ?_
      rintro ⟨e, _, q, hq⟩; rcases hf with hf | hf <;> rw [hf] at hq <;> cases hq
  -- the way, and what is left, told anew
  have hsub₁ : Sub E w g₁ r R.ty [] (hold r) p ty (.mem B x) := hsub.retell fun b q1 i q2 hp hb => go_other (hng q1 ⟨i, q2, hp⟩ b (by simpa using hb))
  have l4' : Rep E w g₁ R.ty R.t R1.o r [] (hold r) := by
    refine l4.relocO hE (fun _ _ => rfl) fun b hlo => ⟨SameBlk.refl _ _, ?_⟩
    rcases hlo with hf | ⟨q, hq, hnd⟩
    · rw [hf]; exact go_frz hf
    · refine go_other ?_
      rintro ⟨e, he, q', hq'⟩
      rw [List.nil_append] at hq
      rw [hq] at hq'; simp only [Own.at.injEq] at hq'
      obtain ⟨rfl, rfl⟩ := hq'
      apply hnd
      rw [get_append, l5 e.2.1 (List.mem_map.2 ⟨e, he, rfl⟩), get_dead]
  have hnew : Rep E (w.setCells B x v.cells.toList) g' ty c.t o₁ r p (.mem B x) := by
    have h1 := hrep D [] g₁ (fun b hb => go_frz hb) (go_tks hm')
    have h2 := h1.move hle (into_goes D r p o₁ g₁)
    refine h2.reloc hE (fun k hk => ?_) fun b hb => ⟨hsame b (go_notfree (into_free hb.nf)) ?_, rfl⟩
    · simp only [Place.add, rd, Nat.zero_add]; exact hin k hk
    · rintro rfl
      have hx : into D r p o₁ g₁ b = g b := hg'B
      rcases hb with hb | ⟨q, hb⟩
      · exact hBf (by rw [← hx]; exact hb)
      · rw [hx] at hb
        rcases hw.own with e | ⟨q1, i, q2, e, hp⟩
        · rw [e] at hb; cases hb
        · rw [e] at hb; simp only [Own.at.injEq] at hb
          have := congrArg List.length hp
          rw [hb.2] at this; simp at this
  refine ⟨hw.blk, hsh, hone, g', hstp, ?_⟩
  rw [← hes]
  refine turn_inv (look := look) (es := es) hE h hl hm' hsrc' (fun x hx => by cases hx) (fun b hb hgo hnh hna => ⟨hsame b hb ?_, hg' b hgo⟩) (fun _ _ => rfl) (fun R' hR' => ?_)
    (fun b hb => ?_) (.inr ⟨R, { R1 with t := R1.t.put p c.t, o := o' }, hRs, rfl, l1, rfl, ?_⟩) (fun hx => by simp at hx)
  · rintro rfl
    rcases hw.own with e | ⟨q1, _, _, e, _⟩
    · exact hnh e
    · exact hna q1 e
  · cases hR'
    have hhd : ∀ b k, hold r = .mem b k → g b = .hd r := by
      intro b k hκ
      cases hb : R.box with
      | true =>
        obtain ⟨b', o', e1, e2, e3⟩ := ok.box hb
        rw [hκ] at e1; cases e1; exact e2
      | false =>
        obtain ⟨vs, e1⟩ := ok.reg hb
        rw [hκ] at e1; cases e1
    refine ⟨?_, fun hb => ?_, fun hb => ok.reg (by rw [← l3]; exact hb)⟩
    · simp only [l1, l2]
      refine Rep.update hE hsub₁ rfl l4' hway hput (t₁ := c.t) (by simpa using hnew) ?_ ?_ ?_
      · intro b hb
        refine ⟨into_other fun q => ?_, fun n hn => hout b n hn, fun n hn => hblk' b n hn⟩
        rcases hb with hb | ⟨q', hb, _⟩
        · rw [hb]; simp
        · rw [hb]; simp [Ne.symm hDr]
      · intro k _ hne
        cases hκ : hold r with
        | reg vs k0 => rfl
        | mem b k0 =>
          rw [hκ] at hne
          simp only [Place.add, rd]
          refine hout b (k0 + k) ?_
          rintro ⟨rfl, h2, h3⟩
          exact hne (k0 + k) rfl ⟨h2, h3⟩
      · intro b k0 hκ
        have : g₁ b = .hd r := go_hd (hhd b k0 hκ)
        rw [this]; simp
    · obtain ⟨b', o', e1, e2, e3⟩ := ok.box (by rw [← l3]; exact hb)
      refine ⟨b', o', e1, ?_, by simp only [l1]; exact hblk' _ _ e3⟩
      rw [hg' b', e2]
      rintro ⟨e, _, q, hq⟩; rw [e2] at hq; cases hq
  · show b < _
    rw [z1]; exact h.bnd b (go_notfree (into_free hb))
  · cases hb : R.box with
    | true => exact .inr ⟨rfl, rfl⟩
    | false => exact .inl ⟨rfl, rfl⟩
end
end Go.Proofs.YtfelodpbejdhlaaDoor.Ra
/- A store: the operation. A slice that is given another name. -/
namespace Go.Proofs.YtfelodpbejdhlaaDoor.Ra
open Go Go.RowKit

section
variable {P : Program} {E : Env} {n : Nat} {st : St} {a : Act} {w : World} {g : Gh} {hold : Nat → Place} {look rt : Nat → Option Rt} {o : Oper} {b : Bool}

theorem store_ok (hP : PrOk P E) (h : Inv E n st a w g hold) (hl : ∀ r R, look r = some R → st.rt r = some R) (hdn : o.dst = none) {t : Nat} {x y : Operand} {e : Eff}
    (hop : o.op = .store t x y) {ax ay : AV} (hx : b = true → AvOk E w g st.rt hold ax (a.eval x)) (hy : b = true → AvOk E w g st.rt hold ay (a.eval y)) (hok : okTy E t = true)
    (he : storeE E look t b ax ay = some e) : Acts P E n st a w g hold o e := by
  unfold storeE at he
  split at he
  rotate_left
  · cases he
  rename_i ty r p
  split at he
  rotate_left
  · cases he
  rename_i R c hR hc
  have hRs := hl r R hR
  generalize hz : (Nat.beq t ty && (mvOk c.mv && R.o.way p)) = z at he
  cases z with
  | false => simp at he
  | true =>
    simp only [cond_true] at he
    simp only [Bool.and_eq_true] at hz
    obtain ⟨h1, h2, h3⟩ := hz
    have := Nat.eq_of_beq_eq_true h1; subst this
    have ptr : b = true → ∃ B x0, a.eval x = .pointer (some ⟨B, x0, none⟩) ∧ Sub E w g r R.ty [] (hold r) p t (.mem B x0) := by
      intro hb
      have hx := hx hb
      generalize hev : a.eval x = vx at hx
      cases hx with
      | pref a1 a2 => rw [hRs] at a1; cases a1; exact ⟨_, _, rfl, a2⟩
    have fin : ∀ {B x0 m : Nat} {u : Upd}, a.eval x = .pointer (some ⟨B, x0, none⟩) → BlkOk w B m → x0 + E.sz t ≤ m → Shaped E t (a.eval y) → (∀ u ∈ (a.eval y).cells.toList, u.oneCell' = true) →
        (∃ g', Stp w g (w.setCells B x0 (a.eval y).cells.toList) g' ∧ Inv E n (applyU none u st) (a.put none Go.undef) (w.setCells B x0 (a.eval y).cells.toList) g' hold) →
        Does P E n st a w g hold o u := by
      intro B x0 m u hev hblk hm hsh hone ⟨g', k1, k2⟩
      refine ⟨.skip, _, Go.undef, g', hold, ?_, .inr ⟨rfl, rfl⟩, k1, fun _ _ => rfl, by rw [hdn]; exact k2⟩
      have := run_storeVar' (P := P) hP hok hblk hm hsh.1 hone
      simp [execOp, hop, hev, this]
    cases hfl : E.flat t with
    | true =>
      simp only [hfl, cond_true] at he
      cases hlv : ((R.o.get p).live && c.mv.isEmpty) with
      | false => simp [hlv] at he
      | true =>
        simp only [hlv, cond_true, Option.some.injEq] at he; subst he
        simp only [Bool.and_eq_true] at hlv
        refine ⟨rfl, rfl, fun hb => ?_⟩
        obtain ⟨B, x0, hev, hsub⟩ := ptr hb
        obtain ⟨hsh, hen, hsrc, hrep⟩ := take_ok hP.wf hl h.rts hc (hy hb)
        have hmv : srcs (ents [] ay) = [] := by rw [hen]; exact List.isEmpty_iff.1 hlv.2
        have hrep0 := hrep 0 [] g (fun b hb => hb) (by
          have : ents [] ay = [] := by simpa [srcs] using hmv
          rw [this]; intro e he; cases he)
        have hw := wrt_of hP.wf (h.rts r R hRs) hsub (h.rts r R hRs).rep h3
        obtain ⟨m, hm1, hm2⟩ := hw.blk
        refine fin hev hm1 hm2 hsh (ones_reg hP.wf hrep0 (take_live hc) hsh.1) ⟨g, ?_⟩
        exact store_flat hP h hRs hw h3 hlv.1 hfl (take_live hc) hrep0 hsh
    | false =>
      simp only [hfl, cond_false] at he
      split at he
      · cases he
      rename_i R1 hR1
      cases hw1 : R1.o.way p with
      | false => simp [hw1] at he
      | true =>
        simp only [hw1, cond_true] at he
        have htys : R1.ty = R.ty := by
          cases hm : mem r (rootsOf c.mv) with
          | false => rw [hm] at hR1; simp at hR1; rw [hR1]
          | true =>
            rw [hm, cond_true, moved_eq] at hR1
            have key : ∀ (l : List (Nat × List Step)) (R0 : Option Rt), (∀ R, R0 = some R → R.ty = R.ty) → ∀ R', l.foldl (mvStep E r) R0 = some R' → ∃ R, R0 = some R ∧ R'.ty = R.ty := by
              intro l
              induction l with
              | nil => intro R0 _ R' h; exact ⟨R', h, rfl⟩
              | cons y l ih =>
                intro R0 _ R' h
                obtain ⟨R2, i1, i2⟩ := ih _ (fun _ _ => rfl) R' h
                unfold mvStep at i1
                cases hb : Nat.beq y.1 r with
                | false => rw [hb] at i1; simp at i1; exact ⟨R2, i1, i2⟩
                | true =>
                  rw [hb] at i1; simp only [cond_true] at i1
                  split at i1
                  · cases i1; exact ⟨_, rfl, i2⟩
                  · rename_i R3 _ _
                    cases hbx : R3.box <;> rw [hbx] at i1 <;> simp at i1
                    subst i1; exact ⟨_, rfl, i2⟩
                  · cases i1
            obtain ⟨R2, i1, i2⟩ := key _ _ (fun _ _ => rfl) R1 hR1
            cases i1; exact i2
        cases hn : noIdx p with
        | true =>
          simp only [hn, cond_true, Option.some.injEq] at he; subst he
          refine ⟨rfl, rfl, fun hb => ?_⟩
          obtain ⟨B, x0, hev, hsub⟩ := ptr hb
          have hput := OPut_set hsub (o := R1.o) (x := c.o) hn
          rw [← htys] at hput
          obtain ⟨⟨m, m1, m2⟩, hsh, hone, g', k1, k2⟩ := store_deep hP h hl hR hsub hc (hy hb) h2 hR1 hw1 (le_refl _ (take_live hc)) (by rw [← htys]; exact hput) (u := Go.undef)
          exact fin hev m1 m2 hsh hone ⟨g', k1, k2⟩
        | false =>
          simp only [hn, cond_false] at he
          cases hq : ((R1.o.get p).live && O.le (R1.o.get p) c.o) with
          | false => simp [hq] at he
          | true =>
            simp only [hq, cond_true, Option.some.injEq] at he; subst he
            simp only [Bool.and_eq_true] at hq
            refine ⟨rfl, rfl, fun hb => ?_⟩
            obtain ⟨B, x0, hev, hsub⟩ := ptr hb
            obtain ⟨⟨m, m1, m2⟩, hsh, hone, g', k1, k2⟩ := store_deep hP h hl hR hsub hc (hy hb) h2 hR1 hw1 hq.2 (OPut.self hsub R1.o hw1) (u := Go.undef)
            exact fin hev m1 m2 hsh hone ⟨g', k1, k2⟩

/-- A slice of a root of its own goes to another root. -/
theorem assignT_ok (hP : PrOk P E) (h : Inv E n st a w g hold) (hl : ∀ r R, look r = some R → st.rt r = some R) (hd : ∀ x, o.dst = some x → x < n) {fi : Fi} {d ty : Nat} {x : Operand} {e : Eff}
    (hop : o.op = .assign x) {av : AV} (hx : b = true → AvOk E w g st.rt hold av (a.eval x)) (hd9 : d < 100000) (hsl : (isSl E ty).isSome = true)
    (hav : ∀ v t' c, AvOk E w g st.rt hold av v → take E look ty av = some ⟨t', c, (ents [] av).map fun e => (e.1, e.2.1)⟩ → ∃ A k c, v = .slice A k c) (he : assignT fi E look d ty b av = some e) : Acts P E n st a w g hold o e := by
  have hrun : (execOp a.eval o).run P w = .ok (.value (a.eval x)) w := by simp [execOp, hop]
  obtain ⟨et, hty⟩ : ∃ et, E.ty ty = .sl et := by
    unfold isSl at hsl
    split at hsl
    · rename_i et het; exact ⟨et, het⟩
    · cases hsl
  unfold assignT at he
  split at he
  rotate_left
  · cases he
  rename_i c hc
  cases hm : mvOk c.mv with
  | false => simp [hm] at he
  | true =>
    simp only [hm, cond_true] at he
    refine Acts.mk (v := a.eval x) (fun hb => ⟨w, hrun, ?_⟩) (lay_shape he)
    obtain ⟨hsh, hen, hsrc, hrep⟩ := take_ok hP.wf hl h.rts hc (hx hb)
    have hen0 := hen []
    have hsrc' : ∀ x ∈ srcs (ents [] av), SrcOk E w g st.rt look hold x := by rw [hen0]; exact hsrc
    have hm' : mvOk (srcs (ents [] av)) = true := by rw [hen0]; exact hm
    have hsv : ∃ A k cp, a.eval x = .slice A k cp := hav (a.eval x) c.t c.o (hx hb) (by rw [hc]; congr 1; cases c; simp only [Taken.mk.injEq, true_and]; exact hen0.symm)
    obtain ⟨A, k, cp, hval⟩ := hsv
    have hr0 := hrep d [] (go (ents [] av) d g) (fun b hb => go_frz hb) (go_tks hm')
    rw [hval] at hr0
    refine lay_ok (κ := .reg [a.eval x] 0) hP.wf h hl hm' hsrc' (by rw [hen0]; exact he) hd hd9 (g₁ := go (ents [] av) d g) (fun b _ hng _ => ⟨SameBlk.refl _ _, go_other hng⟩) (fun b hb => h.bnd b (go_notfree hb))
      ⟨rfl, rfl, rfl, Nat.le_refl _⟩ (fun b _ hf => ⟨rfl, by rcases hf with hf | hf <;> rw [hf]; exact go_free hf; exact go_frz hf⟩) (by rw [hval]; exact hr0) (.inl ⟨rfl, rfl, A, k, cp, et, hval, hty⟩)

theorem assign_ok (hP : PrOk P E) (h : Inv E n st a w g hold) (hl : ∀ r R, look r = some R → st.rt r = some R) (hd : ∀ x, o.dst = some x → x < n) {fi : Fi} {d ty : Nat} {x : Operand} {e : Eff}
    (hop : o.op = .assign x) {av : AV} (hx : b = true → AvOk E w g st.rt hold av (a.eval x)) (hd9 : d < 100000) (he : assignE fi E look d ty b av = some e) : Acts P E n st a w g hold o e := by
  have plain : ∀ {av' : AV}, (b = true → AvOk E w g st.rt hold av' (a.eval x)) → one b av' = some e → Acts P E n st a w g hold o e := fun hx he => (assign_plain hop hx he).acts hP.wf h hd
  unfold assignE at he
  split at he
  · rename_i ty' r
    cases hrd : (Nat.beq r d || mem d fi.pin) with
    | true => simp only [hrd, cond_true] at he; exact plain hx he
    | false =>
      simp only [hrd, cond_false] at he
      cases hsl : (isSl E ty).isSome with
      | false => simp [hsl] at he
      | true =>
        simp only [hsl, cond_true] at he
        exact assignT_ok hP h hl hd hop hx hd9 hsl (fun v t c hv _ => by cases hv; exact ⟨_, _, _, rfl⟩) he
  · cases hsl : (isSl E ty).isSome with
    | false => simp [hsl] at he
    | true =>
      simp only [hsl, cond_true] at he
      exact assignT_ok hP h hl hd hop hx hd9 hsl (fun v t c hv _ => by cases hv; exact ⟨_, _, _, rfl⟩) he
  · cases hsl : (isSl E ty).isSome with
    | false => simp [hsl] at he
    | true =>
      simp only [hsl, cond_true] at he
      exact assignT_ok hP h hl hd hop hx hd9 hsl (fun v t c hv _ => by cases hv; exact ⟨_, _, _, rfl⟩) he
  · rename_i v
    split at he
    · rename_i t ht
      cases hsl : (isSl E ty).isSome with
      | false =>
        simp only [hsl, cond_false] at he
        exact plain (fun hb => cst_val hP.wf ht (hx hb)) he
      | true =>
        simp only [hsl, cond_true] at he
        refine assignT_ok hP h hl hd hop hx hd9 hsl (fun v' t' c hv _ => ?_) he
        cases hv
        obtain ⟨et, hty⟩ : ∃ et, E.ty ty = .sl et := by
          unfold isSl at hsl
          split at hsl
          · rename_i et het; exact ⟨et, het⟩
          · cases hsl
        rw [hty] at ht
        unfold constT at ht
        split at ht <;> simp_all
    · exact plain hx he
  · exact plain hx he
end
end Go.Proofs.YtfelodpbejdhlaaDoor.Ra
