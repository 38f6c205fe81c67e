/- A verified evaluator for the program, part RbX of this claim. -/
import Derived.Test.YtfelodpbejdhlaaDoorRa3
import Derived.Carry
import Derived.ChangeArms
import Derived.OpenShut
set_option linter.unusedSimpArgs false
set_option linter.unusedVariables false
/- The end of a function: where what goes away goes. -/
namespace Go.Proofs.YtfelodpbejdhlaaDoor.Ra
open Go Go.RowKit

/-- What goes away, each to a place of its own. -/
structure XEnt where
  r : Nat
  p : List Step
  f : List Step → Own
  h : Own
def srcX (es : List XEnt) : List (Nat × List Step) := es.map fun e => (e.r, e.p)
def XAt (es : List XEnt) (o x : Own) : Prop := ∃ e ∈ es, (∃ q, o = .at e.r (e.p ++ q) ∧ x = e.f q) ∨ (e.p = [] ∧ o = .hd e.r ∧ x = e.h)
open Classical in
noncomputable def goX (es : List XEnt) (g : Gh) : Gh := fun b => if h : ∃ x : Own, XAt es (g b) x then h.choose else g b
theorem mvOk_pairX : ∀ {es : List XEnt}, mvOk (srcX es) = true → ∀ {e e' : XEnt}, e ∈ es → e' ∈ es → e = e' ∨ e.r ≠ e'.r ∨ split e.p e'.p = true
  | [], _, _, _, h, _ => by cases h
  | x :: es, hm, e, e', h, h' => by
    obtain ⟨m1, m2⟩ := mvOk_cons (r := x.r) (p := x.p) (l := srcX es) hm
    rcases List.mem_cons.1 h with k | k
    · rcases List.mem_cons.1 h' with k' | k'
      · exact .inl (k.trans k'.symm)
      · rw [k]; exact .inr (m1 (e'.r, e'.p) (List.mem_map.2 ⟨e', k', rfl⟩))
    · rcases List.mem_cons.1 h' with k' | k'
      · rw [k']
        rcases m1 (e.r, e.p) (List.mem_map.2 ⟨e, k, rfl⟩) with h1 | h1
        · exact .inr (.inl (Ne.symm h1))
        · exact .inr (.inr (split_comm h1))
      · exact mvOk_pairX m2 k k'
theorem goX_at {es : List XEnt} {g : Gh} (hm : mvOk (srcX es) = true) {e : XEnt} (he : e ∈ es) {b : Nat} {q : List Step} (hb : g b = .at e.r (e.p ++ q)) : goX es g b = e.f q := by
  have h : ∃ x : Own, XAt es (g b) x := ⟨_, e, he, .inl ⟨q, hb, rfl⟩⟩
  unfold goX
  rw [dif_pos h]
  obtain ⟨e', h1, ⟨q', h2, h3⟩ | ⟨_, h2, _⟩⟩ := h.choose_spec
  · rw [h3]
    rw [hb] at h2
    simp only [Own.at.injEq] at h2
    obtain ⟨e1, e2⟩ := h2
    rcases mvOk_pairX hm h1 he with h' | h' | h'
    · subst h'
      rw [List.append_cancel_left e2]
    · exact absurd e1.symm h'
    · have p1 : e'.p <+: (e.p ++ q) := by rw [e2]; exact List.prefix_append _ _
      exact absurd (List.prefix_append e.p q) (split_not_pre h' p1)
  · rw [hb] at h2; cases h2
theorem goX_hd {es : List XEnt} {g : Gh} (hm : mvOk (srcX es) = true) {e : XEnt} (he : e ∈ es) (hp : e.p = []) {b : Nat} (hb : g b = .hd e.r) : goX es g b = e.h := by
  have h : ∃ x : Own, XAt es (g b) x := ⟨_, e, he, .inr ⟨hp, hb, rfl⟩⟩
  unfold goX
  rw [dif_pos h]
  obtain ⟨e', h1, ⟨q', h2, h3⟩ | ⟨hp', h2, h3⟩⟩ := h.choose_spec
  · rw [hb] at h2; cases h2
  · rw [h3]
    rw [hb] at h2
    simp only [Own.hd.injEq] at h2
    rcases mvOk_pairX hm h1 he with h' | h' | h'
    · rw [h']
    · exact absurd h2.symm h'
    · rw [hp, hp'] at h'; simp [split] at h'
theorem goX_other {es : List XEnt} {g : Gh} {b : Nat} (h : ∀ e ∈ es, (∀ q, g b ≠ .at e.r (e.p ++ q)) ∧ (e.p = [] → g b ≠ .hd e.r)) : goX es g b = g b := by
  unfold goX; rw [dif_neg]; rintro ⟨_, e, he, ⟨q, hq, _⟩ | ⟨hp, hq, _⟩⟩
  · exact (h e he).1 q hq
  · exact (h e he).2 hp hq
theorem goX_frz {es : List XEnt} {g : Gh} {b : Nat} (h : g b = .frz) : goX es g b = .frz := by
  rw [goX_other, h]; intro e _; rw [h]; exact ⟨fun _ => by simp, fun _ => by simp⟩
theorem goX_free {es : List XEnt} {g : Gh} {b : Nat} (h : g b = .free) : goX es g b = .free := by
  rw [goX_other, h]; intro e _; rw [h]; exact ⟨fun _ => by simp, fun _ => by simp⟩

def TksX (X : List XEnt) (g g' : Gh) : Prop := ∀ x ∈ X, (∀ b q, g b = .at x.r (x.p ++ q) → g' b = x.f q) ∧ (x.p = [] → ∀ b, g b = .hd x.r → g' b = x.h)
def XGood (X : List XEnt) : Prop := ∀ x ∈ X, (∀ q, x.f q = .frz ∨ ∃ j q', x.f q = .at (resRoot j) q') ∧ ∃ r, x.h = .hd r
def tgt (j : Nat) (o : O) (q : List Step) : Own := if (o.get q).isFz then .frz else .at (resRoot j) q
theorem TksX.left {a b : List XEnt} {g g' : Gh} (h : TksX (a ++ b) g g') : TksX a g g' := fun e he => h e (List.mem_append_left _ he)
theorem TksX.right {a b : List XEnt} {g g' : Gh} (h : TksX (a ++ b) g g') : TksX b g g' := fun e he => h e (List.mem_append_right _ he)
theorem XGood.append {a b : List XEnt} (h : XGood a) (h' : XGood b) : XGood (a ++ b) := fun x hx => (List.mem_append.1 hx).elim (h x) (h' x)
theorem srcX_append (a b : List XEnt) : srcX (a ++ b) = srcX a ++ srcX b := List.map_append
theorem mvOk_append : ∀ {a b : List (Nat × List Step)}, mvOk (a ++ b) = true → mvOk a = true ∧ mvOk b = true
  | [], b, h => ⟨rfl, h⟩
  | (r, p) :: a, b, h => by
    simp only [List.cons_append, mvOk, Bool.and_eq_true] at h
    obtain ⟨h1, h2⟩ := mvOk_append h.2
    refine ⟨?_, h2⟩
    simp only [mvOk, Bool.and_eq_true]
    refine ⟨?_, h1⟩
    have := h.1
    rw [List.all_append, Bool.and_eq_true] at this
    exact this.1

structure SrcE (E : Env) (w : World) (g : Gh) (rt : Nat → Option Rt) (hold : Nat → Place) (x : Nat × List Step) : Prop where
  ok : ∃ R ty κ, rt x.1 = some R ∧ Sub E w g x.1 R.ty [] (hold x.1) x.2 ty κ ∧ allFld x.2 = true ∧ R.o.get x.2 ≠ .dead
theorem SrcOk.e {E : Env} {w : World} {g : Gh} {rt look : Nat → Option Rt} {hold : Nat → Place} {x : Nat × List Step} (h : SrcOk E w g rt look hold x) : SrcE E w g rt hold x := by
  obtain ⟨R, ty, e, κ, _, h2, _, h4, h5, _, h7⟩ := h.ok
  exact ⟨R, ty, κ, h2, h4, h7, fun hd => by rw [hd] at h5; simp [O.own] at h5⟩

section
variable {P : Program} {E : Env} {n : Nat} {st : St} {a : Act} {w : World} {g : Gh} {hold : Nat → Place}

open Classical in
theorem retOne_ok (hE : TyWf E) (hI : Inv E n st a w g hold) {ty j : Nat} {k : Ret} {av : AV} {c : Taken} {v : Value} (h : retOne E st ty k av = some c) (hm : mvOk c.mv = true)
    (hv : AvOk E w g st.rt hold av v) : ∃ X, srcX X = c.mv ∧ XGood X ∧ (∀ x ∈ c.mv, SrcE E w g st.rt hold x) ∧
      ∀ g', (∀ b, g b = .frz → g' b = .frz) → TksX X g g' → ResOk E w g' j ty k c.t v := by
  cases k with
  | vl o =>
    simp only [retOne] at h
    split at h
    rotate_left
    · cases h
    rename_i c' hc'
    cases hle : O.le o c'.o with
    | false => simp [hle] at h
    | true =>
      simp only [hle, cond_true, Option.some.injEq] at h
      subst h
      obtain ⟨t1, t2, t3, t4⟩ := take_ok hE (fun _ _ h => h) hI.rts hc' hv
      have hms : mvOk (srcs (ents [] av)) = true := by rw [t2]; exact hm
      refine ⟨(ents [] av).map fun e => ⟨e.1, e.2.1, fun q => tgt j o (e.2.2 q), .hd e.1⟩, ?_, ?_, fun x hx => (t3 x hx).e, ?_⟩
      · rw [← t2 []]; simp [srcX, srcs]
      · intro x hx
        obtain ⟨e, _, rfl⟩ := List.mem_map.1 hx
        refine ⟨fun q => ?_, _, rfl⟩
        simp only [tgt]
        split
        · exact .inl rfl
        · exact .inr ⟨_, _, rfl⟩
      · intro g' hf ht
        refine ⟨?_, t1⟩
        let g1 : Gh := fun b => if Goesw (ents [] av) g b then go (ents [] av) 0 g b else if g b = .frz then .frz else .free
        have hfz1 : ∀ b, g b = .frz → g1 b = .frz := by
          intro b hb
          have : ¬ Goesw (ents [] av) g b := by rintro ⟨e, _, q, hq⟩; rw [hb] at hq; cases hq
          simp [g1, this, hb]
        have htk : Tks (ents [] av) 0 g g1 := by
          intro e he b q hb
          have : Goesw (ents [] av) g b := ⟨e, he, q, hb⟩
          simp only [g1, this, if_true]
          exact go_tks hms e he b q hb
        refine (t4 0 [] g1 hfz1 htk).move hle ⟨fun b hb => ?_, fun b q hb => ?_⟩
        · by_cases hgo : Goesw (ents [] av) g b
          · obtain ⟨e, he, q, hq⟩ := hgo
            rw [htk e he b q hq] at hb; cases hb
          · by_cases hz : g b = .frz
            · exact hf b hz
            · simp [g1, hgo, hz] at hb
        · by_cases hgo : Goesw (ents [] av) g b
          · obtain ⟨e, he, q', hq⟩ := hgo
            rw [htk e he b q' hq] at hb
            simp only [Own.at.injEq, true_and, List.nil_append] at hb
            have := (ht _ (List.mem_map.2 ⟨e, he, rfl⟩)).1 b q' hq
            rw [this, ← hb]; rfl
          · by_cases hz : g b = .frz
            · simp [g1, hgo, hz] at hb
            · simp [g1, hgo, hz] at hb
  | bx o =>
    simp only [retOne] at h
    split at h
    rotate_left
    · cases h
    rename_i ty' r
    split at h
    rotate_left
    · cases h
    rename_i R hR
    generalize hz : (R.box && (Nat.beq (boxed E ty) ty' && (O.le o R.o && (Nat.beq R.ty ty' && !R.o.isDead)))) = z at h
    cases z with
    | false => simp at h
    | true =>
      simp only [cond_true, Option.some.injEq] at h
      subst h
      simp only [Bool.and_eq_true, Bool.not_eq_true'] at hz
      obtain ⟨z1, z2, z3, z4, z5⟩ := hz
      have z2 := Nat.eq_of_beq_eq_true z2
      have z4 := Nat.eq_of_beq_eq_true z4
      have hrt := hI.rts r R hR
      refine ⟨[⟨r, [], tgt j o, .hd (resRoot j)⟩], rfl, ?_, ?_, ?_⟩
      · intro x hx
        simp only [List.mem_singleton] at hx
        subst hx
        refine ⟨fun q => ?_, _, rfl⟩
        simp only [tgt]
        split
        · exact .inl rfl
        · exact .inr ⟨_, _, rfl⟩
      · intro x hx
        simp only [List.mem_singleton] at hx
        subst hx
        exact ⟨R, R.ty, hold r, hR, .nil, rfl, fun hd => by simp only [O.get] at hd; rw [hd] at z5; simp [O.isDead] at z5⟩
      · intro g' hf ht
        obtain ⟨ht1, ht2⟩ := ht _ (List.mem_singleton.2 rfl)
        cases hv with
        | @pref _ _ _ b x R' p1 p2 =>
          rw [hR] at p1; cases p1
          obtain ⟨b', x', e1, e2, e3⟩ := hrt.box z1
          have hh : hold r = .mem b x := by
            generalize hold r = κ at p2
            generalize hq : ([] : List Step) = q at p2
            cases p2 with
            | nil => rfl
            | fld => cases hq
            | idx => cases hq
          rw [hh] at e1; cases e1
          refine ⟨b, x, rfl, ht2 rfl b e2, by rw [z2, ← z4]; exact e3, ?_⟩
          rw [z2, ← z4]
          have := hrt.rep
          rw [hh] at this
          exact this.move z3 ⟨hf, fun b q hb => by
            have := ht1 b q (by simpa using hb)
            rw [this]; rfl⟩

theorem retAll_ok (hE : TyWf E) (hI : Inv E n st a w g hold) : ∀ {rets : List (Nat × Ret)} {rs : List ResultVar} {j : Nat} {vs : List Value} {ts : List T} {mv : List (Nat × List Step)},
    retAll E st rets rs = some (ts, mv) → mvOk mv = true → vs.length = rs.length → (∀ (k : Nat) (rv : ResultVar) (v : Value), rs[k]? = some rv → vs[k]? = some v → AvOk E w g st.rt hold (resultAV E st rv) v) →
    ∃ X, srcX X = mv ∧ XGood X ∧ (∀ x ∈ mv, SrcE E w g st.rt hold x) ∧ ∀ g', (∀ b, g b = .frz → g' b = .frz) → TksX X g g' → RessOk E w g' j rets ts vs
  | [], rs, j, vs, ts, mv, h, hm, hl, hv => by
    cases rs with
    | nil =>
      simp only [retAll, Option.some.injEq, Prod.mk.injEq] at h
      obtain ⟨rfl, rfl⟩ := h
      cases vs with
      | nil => exact ⟨[], rfl, (fun x hx => by simp at hx), (fun x hx => by simp at hx), fun _ _ _ => trivial⟩
      | cons => simp at hl
    | cons => simp [retAll] at h
  | (ty, k) :: rets, rs, j, vs, ts, mv, h, hm, hl, hv => by
    cases rs with
    | nil => simp [retAll] at h
    | cons rv rs =>
      cases vs with
      | nil => simp at hl
      | cons v vs =>
        simp only [retAll] at h
        split at h
        rotate_left
        · cases h
        rename_i c ts' mv' h1 h2
        cases h
        obtain ⟨m1, m2⟩ := mvOk_append hm
        obtain ⟨X, x1, x2, x3, x4⟩ := retOne_ok (j := j) hE hI h1 m1 (hv 0 rv v rfl rfl)
        obtain ⟨Y, y1, y2, y3, y4⟩ := retAll_ok hE hI (j := j + 1) (vs := vs) h2 m2 (by simpa using hl) (fun k rv v a b => hv (k + 1) rv v (by simpa using a) (by simpa using b))
        exact ⟨X ++ Y, by rw [srcX_append, x1, y1], x2.append y2, fun x hx => (List.mem_append.1 hx).elim (x3 x) (y3 x), fun g' hf ht => ⟨x4 g' hf ht.left, y4 g' hf ht.right⟩⟩
end
end Go.Proofs.YtfelodpbejdhlaaDoor.Ra
/- A function, from its entry to its end. -/
namespace Go.Proofs.YtfelodpbejdhlaaDoor.Ra
open Go Go.RowKit

/- ---- the results' values ---- -/
def resRun (tmps : Array Value) : ResultVar → Sem Value
  | .tmp t => pure (tmps.getD t undef)
  | .cell a t => do loadVar t (← asAddr (tmps.getD a undef))

section
variable {P : Program} {E : Env} {n : Nat} {st : St} {a : Act} {w : World} {g : Gh} {hold : Nat → Place}

theorem resultAV_ok (hP : PrOk P E) (h : Inv E n st a w g hold) {rv : ResultVar} (hu : resultAV E st rv ≠ .undef) :
    ∃ v, (resRun a.tmps rv).run P w = .ok v w ∧ AvOk E w g st.rt hold (resultAV E st rv) v := by
  cases rv with
  | tmp t => exact ⟨_, rfl, h.tms t⟩
  | cell x ty =>
    have hav := h.tms x
    simp only [resultAV] at hu ⊢
    split at hu
    · rename_i ty' r p hx
      split at hu
      rotate_left
      · exact absurd rfl hu
      rename_i R hR
      generalize hc : (okTy E ty && (Nat.beq ty ty' && (R.o.get p).live)) = z at hu
      cases z with
      | false => exact absurd rfl hu
      | true =>
        simp only [Bool.and_eq_true] at hc
        obtain ⟨c1, c2, c3⟩ := hc
        have := Nat.eq_of_beq_eq_true c2; subst this
        rw [hx] at hav
        generalize hev : a.tmps.getD x undef = vx at hav
        cases hav with
        | pref a1 a2 =>
          rename_i b' o' R'
          rw [hR] at a1; cases a1
          have hrep := sub_rep (h.rts r R hR) a2
          obtain ⟨v, h1, h2⟩ := run_loadVar (P := P) hP c1 (a := ⟨b', o', none⟩) rfl (fun k hk => by simpa [rd, Place.add] using hrep.cells hP.wf c3 k hk)
          refine ⟨v, by simp [resRun, hev, asAddr, h1], ?_⟩
          exact view_ok hP hR 9 hrep c3 a2 h2 c1
    · rename_i ty' t hx
      cases hc : okTy E ty && Nat.beq ty ty' with
      | false => simp [hc] at hu
      | true =>
        simp only [Bool.and_eq_true] at hc
        obtain ⟨c1, c2⟩ := hc
        have := Nat.eq_of_beq_eq_true c2; subst this
        rw [hx] at hav
        generalize hev : a.tmps.getD x undef = vx at hav
        cases hav with
        | fptr a1 a2 a3 =>
          rename_i a'
          obtain ⟨v', h1, h2⟩ := run_loadVar (P := P) hP c1 a1 (fun k hk => by simpa [rd, Place.add] using a3.cells hP.wf rfl k hk)
          refine ⟨v', by simp [resRun, hev, asAddr, h1], ?_⟩
          exact .val (a3.place hP.wf h2.reg) h2.1
    · exact absurd rfl hu

theorem retOne_undef {ty : Nat} {k : Ret} : retOne E st ty k .undef = none := by
  cases k <;> simp [retOne, take]

theorem run_results (hP : PrOk P E) (h : Inv E n st a w g hold) : ∀ {rets : List (Nat × Ret)} {rs : List ResultVar} {ts : List T} {mv : List (Nat × List Step)}, retAll E st rets rs = some (ts, mv) →
    ∃ vs : List Value, vs.length = rs.length ∧ (rs.mapM (resRun a.tmps)).run P w = .ok vs w ∧
      ∀ (k : Nat) (rv : ResultVar) (v : Value), rs[k]? = some rv → vs[k]? = some v → AvOk E w g st.rt hold (resultAV E st rv) v
  | [], rs, ts, mv, hr => by
    cases rs with
    | nil => exact ⟨[], rfl, rfl, fun k rv v hk => by simp at hk⟩
    | cons => simp [retAll] at hr
  | (ty, k) :: rets, rs, ts, mv, hr => by
    cases rs with
    | nil => simp [retAll] at hr
    | cons rv rs =>
      simp only [retAll] at hr
      split at hr
      rotate_left
      · cases hr
      rename_i c ts' mv' h1 h2
      obtain ⟨v, e1, e2⟩ := resultAV_ok hP h (rv := rv) (by intro hu; rw [hu, retOne_undef] at h1; cases h1)
      obtain ⟨vs, f1, f2, f3⟩ := run_results hP h h2
      refine ⟨v :: vs, by simp [f1], by simp [List.mapM_cons, e1, f2], fun k rv' v' a b => ?_⟩
      cases k with
      | zero => simp at a b; subst a; subst b; exact e2
      | succ k => exact f3 k rv' v' (by simpa using a) (by simpa using b)

theorem results_ok {fn : Func} {vs : List Value} {tmps : Array Value} (h : (fn.results.toList.mapM (resRun tmps)).run P w = .ok vs w) :
    ∃ v, (results fn tmps).run P w = .ok v w ∧ VRes vs v := by
  have hf : results fn tmps = (do let vs ← fn.results.mapM (resRun tmps); pure (if h : vs.size = 1 then vs[0] else .tuple vs)) := by
    unfold results
    congr 2
  refine ⟨if h : vs.toArray.size = 1 then vs.toArray[0] else .tuple vs.toArray, ?_, ?_⟩
  · rw [hf, Array.mapM_eq_mapM_toList]
    simp [h]
  · unfold VRes
    split
    · rfl
    · rename_i hne
      cases vs with
      | nil => rfl
      | cons x l => cases l with
        | nil => exact absurd rfl (hne x)
        | cons y l => simp

/- ---- what was handed in to be turned ---- -/
def EntOk (E : Env) (hold : Nat → Place) (i ty : Nat) (m : Mode) (v : Value) : Prop :=
  match m with
  | .ro => True
  | .mu _ => (∃ e A k c, E.ty ty = .sl e ∧ v = .slice A k c) ∧ hold (parRoot i) = .reg [v] 0
  | .bx _ => ∃ b x, v = .pointer (some ⟨b, x, none⟩) ∧ hold (parRoot i) = .mem b x
def EntsOk (E : Env) (hold : Nat → Place) : Nat → List (Nat × Mode) → List Value → Prop
  | _, [], [] => True
  | i, (ty, m) :: ps, v :: vs => EntOk E hold i ty m v ∧ EntsOk E hold (i + 1) ps vs
  | _, _, _ => False

def parO (ps : List (Nat × Mode)) (r : Nat) : Option O :=
  if r < 100000 then none else match ps[r - 100000]? with
    | some (_, .mu o) => some o
    | some (_, .bx o) => some o
    | _ => none
def endG (ps : List (Nat × Mode)) (g : Gh) : Gh := fun b => match g b with
  | .at r q => match parO ps r with
    | some o => if (o.get q).isFz then .frz else .at r q
    | none => .at r q
  | x => x
theorem endG_nat {ps : List (Nat × Mode)} {g : Gh} {b : Nat} (h : ∀ r q, g b ≠ .at r q) : endG ps g b = g b := by
  unfold endG; split
  · rename_i r q hr; exact absurd hr (h r q)
  · rfl
theorem endG_at {ps : List (Nat × Mode)} {g : Gh} {b r : Nat} {q : List Step} (h : g b = .at r q) : endG ps g b = match parO ps r with
    | some o => if (o.get q).isFz then .frz else .at r q
    | none => .at r q := by unfold endG; rw [h]
theorem parO_res {ps : List (Nat × Mode)} (hp : ps.length < 1000) (j : Nat) : parO ps (resRoot j) = none := by
  unfold parO resRoot
  rw [if_neg (by omega), List.getElem?_eq_none (by omega)]
theorem parO_par {ps : List (Nat × Mode)} {i ty : Nat} {o : O} (h : ps[i]? = some (ty, .mu o) ∨ ps[i]? = some (ty, .bx o)) : parO ps (parRoot i) = some o := by
  unfold parO parRoot
  rw [if_neg (by omega), show 100000 + i - 100000 = i by omega]
  rcases h with h | h <;> rw [h]

theorem foldl_mv (mv : List (Nat × List Step)) (r : Nat) (R : Rt) : moved E mv r R = mv.foldl (mvStep E r) (some R) := moved_eq mv r R

def rtE (E : Env) (st : St) (mv : List (Nat × List Step)) : Nat → Option Rt := fun r => match assoc (movedAll E st.rt mv) r with | some x => x | none => st.rt r
theorem left_end (hI : Inv E n st a w g hold) {mv : List (Nat × List Step)} (hm : mvOk mv = true) (hs : ∀ x ∈ mv, SrcE E w g st.rt hold x) {r : Nat} {R1 : Rt} (h : rtE E st mv r = some R1) :
    ∃ R, st.rt r = some R ∧ R1.ty = R.ty ∧ R1.t = R.t ∧ R1.box = R.box ∧ Rep E w g R.ty R.t R1.o r [] (hold r) ∧ ∀ p, (r, p) ∈ mv → R1.o.get p = .dead := by
  unfold rtE at h
  rw [assoc_movedAll] at h
  by_cases hr : r ∈ rootsOf mv
  · rw [if_pos hr] at h
    simp only at h
    cases hR : st.rt r with
    | none => rw [hR] at h; cases h
    | some R =>
      rw [hR, Option.bind_some, moved_eq] at h
      have := moved_ok (E := E) (w := w) (g := g) (hold := hold) (r := r) (ty₀ := R.ty) hm (fun p hp => by
        obtain ⟨R', ty, κ, e1, e2, e3, _⟩ := (hs _ hp).ok
        simp only at e1 e2 e3
        rw [hR] at e1; cases e1
        exact ⟨e3, ty, κ, e2⟩) (R := R) rfl (hI.rts r R hR).rep (fun p hp => by
        obtain ⟨R', ty, κ, e1, e2, e3, e4⟩ := (hs _ hp).ok
        simp only at e1 e4
        rw [hR] at e1; cases e1
        exact e4)
      rw [h] at this
      obtain ⟨i1, i2, i3, i4, i5, _⟩ := this
      exact ⟨R, rfl, i1, i2, i3, by rw [← i2]; exact i4, i5⟩
  · rw [if_neg hr] at h
    simp only at h
    exact ⟨R1, h, rfl, rfl, rfl, (hI.rts r R1 h).rep, fun p hp => absurd (rootsOf_mem.2 ⟨p, hp⟩) hr⟩

theorem mus_end (hE : TyWf E) (hI : Inv E n st a w g hold) {X : List XEnt} (hm : mvOk (srcX X) = true) (hs : ∀ x ∈ srcX X, SrcE E w g st.rt hold x) {ps0 : List (Nat × Mode)}
    (hfine : ∀ x ∈ ps0, fineM x = true) : ∀ {ps : List (Nat × Mode)} {i : Nat} {vs : List Value} {ms : List T}, (∀ k, ps[k]? = ps0[i + k]?) → EntsOk E hold i ps vs → retMu E (rtE E st (srcX X)) i ps = some ms →
      MusOk E w (endG ps0 (goX X g)) i ps ms vs
  | [], i, vs, ms, hk, he, hr => by
    cases vs with
    | nil =>
      simp only [retMu, Option.some.injEq] at hr
      subst hr; exact trivial
    | cons => exact he.elim
  | (ty, m) :: ps, i, vs, ms, hk, he, hr => by
    cases vs with
    | nil => exact he.elim
    | cons v vs =>
    have hk0 : ps0[i]? = some (ty, m) := by have := hk 0; simpa using this.symm
    have hks : ∀ k, ps[k]? = ps0[i + 1 + k]? := fun k => by have := hk (k + 1); simpa [Nat.add_assoc, Nat.add_comm 1 k] using this
    obtain ⟨he1, he2⟩ := he
    have key : ∀ {o : O} {R1 : Rt}, rtE E st (srcX X) (parRoot i) = some R1 → O.le o R1.o = true → parO ps0 (parRoot i) = some o →
        Rep E w (endG ps0 (goX X g)) R1.ty R1.t o (parRoot i) [] (hold (parRoot i)) := by
      intro o R1 hR1 hle ho
      obtain ⟨R, r1, r2, r3, r4, r5, r6⟩ := left_end hI hm hs hR1
      have hx : Rep E w (goX X g) R.ty R.t R1.o (parRoot i) [] (hold (parRoot i)) := by
        refine r5.relocO hE (fun _ _ => rfl) fun b hlo => ⟨SameBlk.refl _ _, ?_⟩
        rcases hlo with hf | ⟨q, hq, hnd⟩
        · rw [goX_frz hf, hf]
        · rw [List.nil_append] at hq
          refine goX_other fun e he => ⟨fun q' hq' => ?_, fun _ h => ?_⟩
          · rw [hq] at hq'
            simp only [Own.at.injEq] at hq'
            obtain ⟨e1, rfl⟩ := hq'
            apply hnd
            rw [get_append, r6 e.p (by rw [e1]; exact List.mem_map.2 ⟨e, he, rfl⟩), get_dead]
          · rw [hq] at h; cases h
      rw [r2, r3]
      refine hx.move hle ⟨fun b hb => ?_, fun b q hb => ?_⟩
      · rw [endG_nat (by rw [hb]; simp), hb]
      · rw [List.nil_append] at hb
        rw [endG_at hb, ho]; simp
    cases m with
    | ro =>
      simp only [retMu] at hr
      unfold MusOk
      exact mus_end hE hI hm hs hfine hks he2 hr
    | mu o =>
      simp only [retMu] at hr
      split at hr
      rotate_left
      · cases hr
      rename_i R1 ts' hR1 hrec
      generalize hz : (Nat.beq R1.ty ty && (!R1.box && O.le o R1.o)) = z at hr
      cases z with
      | false => simp at hr
      | true =>
        simp only [cond_true, Option.some.injEq] at hr
        subst hr
        simp only [Bool.and_eq_true] at hz
        have := Nat.eq_of_beq_eq_true hz.1; subst this
        have hrep := key hR1 hz.2.2 (parO_par (.inl hk0))
        rw [he1.2] at hrep
        exact ⟨⟨he1.1, hrep⟩, mus_end hE hI hm hs hfine hks he2 hrec⟩
    | bx o =>
      simp only [retMu] at hr
      split at hr
      rotate_left
      · cases hr
      rename_i R1 ts' hR1 hrec
      generalize hz : (Nat.beq R1.ty (boxed E ty) && (R1.box && O.le o R1.o)) = z at hr
      cases z with
      | false => simp at hr
      | true =>
        simp only [cond_true, Option.some.injEq] at hr
        subst hr
        simp only [Bool.and_eq_true] at hz
        obtain ⟨z1, z2, z3⟩ := hz
        have z1 := Nat.eq_of_beq_eq_true z1
        have hrep := key hR1 z3 (parO_par (.inr hk0))
        obtain ⟨b, x, ev, eh⟩ := he1
        obtain ⟨R, r1, r2, r3, r4, r5, r6⟩ := left_end hI hm hs hR1
        obtain ⟨b', x', e1, e2, e3⟩ := (hI.rts _ R r1).box (by rw [← r4]; exact z2)
        rw [eh] at e1; cases e1
        refine ⟨⟨b, x, ev, ?_, by rw [← z1, r2]; exact e3, by rw [← z1, ← eh]; exact hrep⟩, mus_end hE hI hm hs hfine hks he2 hrec⟩
        have hg : goX X g b = .hd (parRoot i) := by
          rw [goX_other, e2]
          intro e he
          refine ⟨fun q => by rw [e2]; simp, fun hp hq => ?_⟩
          rw [e2] at hq
          simp only [Own.hd.injEq] at hq
          have hd := r6 [] (by rw [hq, ← hp]; exact List.mem_map.2 ⟨e, he, rfl⟩)
          simp only [O.get] at hd
          have hfn := hfine _ (List.mem_of_getElem? hk0)
          simp only [fineM] at hfn
          rw [hd] at z3
          cases o <;> simp_all [O.le, O.live, O.geDp, O.own]
        rw [endG_nat (by rw [hg]; simp), hg]

theorem fin_ok (hP : PrOk P E) (hI : Inv E n st a w g hold) {fi : Fi} {fn : Func} (hres : fn.results.toList = fi.results) (hpl : fi.params.length < 1000) (hfine : ∀ x ∈ fi.params, fineM x = true) {vs : List Value}
    (he : EntsOk E hold 0 fi.params vs) {res : List T} (h : finish fi E st = some res) :
    ∃ v g' rvs rts mts, res = rts ++ mts ∧ (results fn a.tmps).run P w = .ok v w ∧ VRes rvs v ∧ Stp w g w g' ∧ (∀ b, g' b ≠ .free → b < w.heap.size) ∧
      RessOk E w g' 0 fi.rets rts rvs ∧ MusOk E w g' 0 fi.params mts vs := by
  unfold finish at h
  split at h
  · cases h
  rename_i ts mv hret
  cases hm : mvOk mv with
  | false => simp [hm] at h
  | true =>
    simp only [hm, cond_true] at h
    split at h
    rotate_left
    · cases h
    rename_i ms hmu
    cases h
    obtain ⟨rvs, v1, v2, v3⟩ := run_results hP hI hret
    obtain ⟨v, w1, w2⟩ := results_ok (fn := fn) (by rw [hres]; exact v2)
    obtain ⟨X, rfl, x2, x3, x4⟩ := retAll_ok (j := 0) hP.wf hI hret hm v1 v3
    have hfz : ∀ b, g b = .frz → endG fi.params (goX X g) b = .frz := by
      intro b hb
      have := goX_frz (es := X) hb
      rw [endG_nat (by rw [this]; simp), this]
    have hfr : ∀ b, g b = .free → endG fi.params (goX X g) b = .free := by
      intro b hb
      have := goX_free (es := X) hb
      rw [endG_nat (by rw [this]; simp), this]
    refine ⟨v, endG fi.params (goX X g), rvs, ts, ms, rfl, w1, w2, ⟨rfl, rfl, rfl, Nat.le_refl _, fun b _ hb => ⟨rfl, ?_⟩⟩, fun b hb => hI.bnd b fun h => hb (hfr b h), ?_, ?_⟩
    · rcases hb with hb | hb
      · rw [hfr b hb, hb]
      · rw [hfz b hb, hb]
    · refine x4 _ hfz fun x hx => ⟨fun b q hb => ?_, fun hp b hb => ?_⟩
      · have hg := goX_at hm hx hb
        rcases (x2 x hx).1 q with hq | ⟨j, q', hq⟩
        · rw [endG_nat (by rw [hg, hq]; simp), hg]
        · rw [endG_at (hg.trans hq), parO_res hpl, hq]
      · have hg := goX_hd hm hx hp hb
        obtain ⟨r, hr⟩ := (x2 x hx).2
        rw [endG_nat (by rw [hg, hr]; simp), hg]
    · exact mus_end hP.wf hI hm x3 hfine (fun k => by simp) he hmu
end
end Go.Proofs.YtfelodpbejdhlaaDoor.Ra
/- A function's promise, out of its code. -/
namespace Go.Proofs.YtfelodpbejdhlaaDoor.Ra
open Go Go.RowKit

section
variable {P : Program} {E : Env}

def hold0 (ps : List (Nat × Mode)) (vs : List Value) : Nat → Place := fun r =>
  if r < 100000 then .reg [] 0 else match ps[r - 100000]?, vs[r - 100000]? with
    | some (_, .mu _), some v => .reg [v] 0
    | some (_, .bx _), some (.pointer (some ⟨b, x, none⟩)) => .mem b x
    | _, _ => .reg [] 0
theorem hold0_par {ps : List (Nat × Mode)} {vs : List Value} (i : Nat) : hold0 ps vs (parRoot i) = match ps[i]?, vs[i]? with
    | some (_, .mu _), some v => .reg [v] 0
    | some (_, .bx _), some (.pointer (some ⟨b, x, none⟩)) => .mem b x
    | _, _ => .reg [] 0 := by
  unfold hold0 parRoot
  rw [if_neg (by omega), show 100000 + i - 100000 = i by omega]

def rtOf (E : Env) (ty : Nat) (t : T) : Mode → Option Rt
  | .ro => none
  | .mu o => some ⟨ty, t, o, false⟩
  | .bx o => some ⟨boxed E ty, t, o, true⟩
theorem initL_tm : ∀ (ps : List (Nat × Mode)) (ts : List T) (i t : Nat), ts.length = ps.length → assoc (initL E i ps ts).1 t =
    if i ≤ t then (match ps[t - i]?, ts[t - i]? with | some (ty, m), some x => some (initAV E t ty x m) | _, _ => none) else none
  | [], ts, i, t, h => by
    cases ts with
    | nil => simp [initL, assoc]
    | cons => simp at h
  | (ty, m) :: ps, ts, i, t, h => by
    cases ts with
    | nil => simp at h
    | cons x ts =>
      have ih := initL_tm ps ts (i + 1) t (by simpa using h)
      simp only [initL, assoc, nbeq]
      by_cases hi : i = t
      · subst hi; simp
      · simp only [hi, decide_false, cond_false]
        rw [ih]
        by_cases hle : i ≤ t
        · rw [if_pos (by omega), if_pos hle]
          rw [show t - i = (t - (i + 1)) + 1 by omega]
          simp
        · rw [if_neg (by omega), if_neg hle]
theorem initL_rt : ∀ (ps : List (Nat × Mode)) (ts : List T) (i r : Nat), ts.length = ps.length → assoc (initL E i ps ts).2 r =
    if parRoot i ≤ r then (match ps[r - parRoot i]?, ts[r - parRoot i]? with | some (ty, m), some x => rtOf E ty x m | _, _ => none) else none
  | [], ts, i, r, h => by
    cases ts with
    | nil => simp [initL, assoc]
    | cons => simp at h
  | (ty, m) :: ps, ts, i, r, h => by
    cases ts with
    | nil => simp at h
    | cons x ts =>
      have ih := initL_rt ps ts (i + 1) r (by simpa using h)
      have hp1 : parRoot (i + 1) = parRoot i + 1 := by unfold parRoot; omega
      rw [hp1] at ih
      have tail : r ≠ parRoot i → assoc (initL E (i + 1) ps ts).2 r = if parRoot i ≤ r then (match ((ty, m) :: ps)[r - parRoot i]?, (x :: ts)[r - parRoot i]? with | some (ty, m), some x => rtOf E ty x m | _, _ => none) else none := by
        intro hne
        rw [ih]
        by_cases hle : parRoot i ≤ r
        · rw [if_pos (by omega), if_pos hle]
          rw [show r - parRoot i = (r - (parRoot i + 1)) + 1 by omega]
          simp
        · rw [if_neg (by omega), if_neg hle]
      have self : ∀ y, r = parRoot i → rtOf E ty x m = y → (if parRoot i ≤ r then (match ((ty, m) :: ps)[r - parRoot i]?, (x :: ts)[r - parRoot i]? with | some (ty, m), some x => rtOf E ty x m | _, _ => none) else none) = y := by
        intro y hr hy; subst hr; simpa using hy
      cases m with
      | ro =>
        simp only [initL]
        by_cases hi : r = parRoot i
        · rw [self none hi rfl, ih, if_neg (by omega)]
        · exact tail hi
      | mu o =>
        simp only [initL, assoc, nbeq]
        by_cases hi : r = parRoot i
        · rw [self _ hi rfl]; simp [hi, rtOf]
        · simp only [Ne.symm hi, decide_false, cond_false]; exact tail hi
      | bx o =>
        simp only [initL, assoc, nbeq]
        by_cases hi : r = parRoot i
        · rw [self _ hi rfl]; simp [hi, rtOf]
        · simp only [Ne.symm hi, decide_false, cond_false]; exact tail hi

theorem argsOk_at {w : World} {g : Gh} : ∀ {ps : List (Nat × Mode)} {ts : List T} {vs : List Value} {i : Nat}, ArgsOk E w g i ps ts vs → ts.length = ps.length ∧ vs.length = ps.length ∧
    ∀ (k ty : Nat) (m : Mode) (t : T) (v : Value), ps[k]? = some (ty, m) → ts[k]? = some t → vs[k]? = some v → ArgOk E w g (i + k) ty m t v
  | [], ts, vs, i, h => by
    cases ts with
    | nil => cases vs with
      | nil => exact ⟨rfl, rfl, fun k ty m t v hk => by simp at hk⟩
      | cons => exact h.elim
    | cons => exact h.elim
  | (ty, m) :: ps, ts, vs, i, h => by
    cases ts with
    | nil => exact h.elim
    | cons t ts => cases vs with
      | nil => exact h.elim
      | cons v vs =>
        obtain ⟨h1, h2⟩ := h
        obtain ⟨i1, i2, i3⟩ := argsOk_at h2
        refine ⟨by simp [i1], by simp [i2], fun k ty' m' t' v' a b c => ?_⟩
        cases k with
        | zero => simp at a b c; obtain ⟨rfl, rfl⟩ := a; subst b; subst c; exact h1
        | succ k =>
          have := i3 k ty' m' t' v' (by simpa using a) (by simpa using b) (by simpa using c)
          rwa [show i + 1 + k = i + (k + 1) by omega] at this

theorem ents_entry {w : World} {g : Gh} {hold : Nat → Place} : ∀ {ps : List (Nat × Mode)} {ts : List T} {vs : List Value} {i : Nat}, ArgsOk E w g i ps ts vs →
    (∀ (k ty : Nat) (o : O) (v : Value), ps[k]? = some (ty, .mu o) → vs[k]? = some v → hold (parRoot (i + k)) = .reg [v] 0) →
    (∀ (k ty : Nat) (o : O) (b x : Nat), ps[k]? = some (ty, .bx o) → vs[k]? = some (.pointer (some ⟨b, x, none⟩)) → hold (parRoot (i + k)) = .mem b x) → EntsOk E hold i ps vs
  | [], ts, vs, i, h, _, _ => by
    cases ts with
    | nil => cases vs with
      | nil => exact trivial
      | cons => exact h.elim
    | cons => exact h.elim
  | (ty, m) :: ps, ts, vs, i, h, h1, h2 => by
    cases ts with
    | nil => exact h.elim
    | cons t ts => cases vs with
      | nil => exact h.elim
      | cons v vs =>
        obtain ⟨a1, a2⟩ := h
        refine ⟨?_, ents_entry a2 (fun k ty o v b c => ?_) (fun k ty o b x c d => ?_)⟩
        · cases m with
          | ro => exact trivial
          | mu o =>
            have := h1 0 ty o v rfl rfl
            exact ⟨a1.1, by simpa using this⟩
          | bx o =>
            obtain ⟨b, x, rfl, _⟩ := a1
            have := h2 0 ty o b x rfl rfl
            exact ⟨b, x, rfl, by simpa using this⟩
        · have := h1 (k + 1) ty o v (by simpa using b) (by simpa using c)
          rwa [show i + 1 + k = i + (k + 1) by omega]
        · have := h2 (k + 1) ty o b x (by simpa using c) (by simpa using d)
          rwa [show i + 1 + k = i + (k + 1) by omega]

theorem par_inv {w : World} {g : Gh} {ps : List (Nat × Mode)} {ts : List T} {vs : List Value} {n : Nat} (hbnd : ∀ b, g b ≠ .free → b < w.heap.size) (hkn : Kn E w g) (h : ArgsOk E w g 0 ps ts vs) (hn : ps.length ≤ n) :
    Inv E n (lookCS (initL E 0 ps ts)) { tmps := vs.toArray ++ Array.replicate (n - vs.toArray.size) undef, defers := [] } w g (hold0 ps vs) := by
  obtain ⟨l1, l2, hat⟩ := argsOk_at h
  refine ⟨by simp; omega, rfl, fun t => ?_, fun r R hr => ?_, hbnd, hkn⟩
  · show AvOk E w g _ _ ((assoc (initL E 0 ps ts).1 t).getD .undef) _
    rw [initL_tm ps ts 0 t l1, if_pos (Nat.zero_le _), Nat.sub_zero]
    by_cases ht : t < ps.length
    · obtain ⟨⟨ty, m⟩, hp⟩ : ∃ x, ps[t]? = some x := ⟨_, List.getElem?_eq_getElem ht⟩
      obtain ⟨x, hx⟩ : ∃ x, ts[t]? = some x := ⟨_, List.getElem?_eq_getElem (by omega)⟩
      obtain ⟨v, hv⟩ : ∃ x, vs[t]? = some x := ⟨_, List.getElem?_eq_getElem (by omega)⟩
      have ha := hat t ty m x v hp hx hv
      rw [Nat.zero_add] at ha
      have hval : (vs.toArray ++ Array.replicate (n - vs.toArray.size) undef).getD t undef = v := by
        rw [Array.getD_eq_getD_getElem?, Array.getElem?_append_left (by simp; omega)]
        simp [hv]
      rw [hval, hp, hx]
      simp only [Option.getD_some]
      have hrt : (lookCS (initL E 0 ps ts)).rt (parRoot t) = rtOf E ty x m := by
        show assoc (initL E 0 ps ts).2 (parRoot t) = _
        rw [initL_rt ps ts 0 _ l1, if_pos (by unfold parRoot; omega), show parRoot t - parRoot 0 = t by unfold parRoot; omega, hp, hx]
      cases m with
      | ro => exact .val ha.1 ha.2
      | mu o =>
        obtain ⟨⟨e, A, k, c, he, rfl⟩, hrep⟩ := ha
        have hh : hold0 ps vs (parRoot t) = .reg [.slice A k c] 0 := by rw [hold0_par, hp, hv]
        exact .sref hrt he .nil (by rw [hh]; rfl)
      | bx o =>
        obtain ⟨b, y, rfl, h1, h2, h3⟩ := ha
        have hh : hold0 ps vs (parRoot t) = .mem b y := by rw [hold0_par, hp, hv]
        refine .pref hrt ?_
        rw [hh]; exact .nil
    · rw [List.getElem?_eq_none (by omega)]
      exact .undef
  · have hr' : assoc (initL E 0 ps ts).2 r = some R := hr
    rw [initL_rt ps ts 0 r l1] at hr'
    split at hr'
    rotate_left
    · cases hr'
    rename_i hle
    split at hr'
    rotate_left
    · cases hr'
    rename_i ty m x hp hx
    have hpr : r = parRoot (r - parRoot 0) := by unfold parRoot at *; omega
    generalize hk : r - parRoot 0 = k at *
    have hkl : k < ps.length := (List.getElem?_eq_some_iff.1 hp).1
    obtain ⟨v, hv⟩ : ∃ x, vs[k]? = some x := ⟨_, List.getElem?_eq_getElem (by omega)⟩
    have ha := hat k ty m x v hp hx hv
    rw [Nat.zero_add] at ha
    subst hpr
    cases m with
    | ro => cases hr'
    | mu o =>
      cases hr'
      have hh : hold0 ps vs (parRoot k) = .reg [v] 0 := by rw [hold0_par, hp, hv]
      exact ⟨by rw [hh]; exact ha.2, (fun h => by cases h), fun _ => ⟨_, hh⟩⟩
    | bx o =>
      cases hr'
      obtain ⟨b, y, rfl, h1, h2, h3⟩ := ha
      have hh : hold0 ps vs (parRoot k) = .mem b y := by rw [hold0_par, hp, hv]
      exact ⟨by rw [hh]; exact h3, (fun _ => ⟨b, y, hh, h1, h2⟩), (fun h => by cases h)⟩

/-- What a table of a function must say of itself. -/
def FiOk (fi : Fi) : Bool := decide (fi.ntmps ≤ 1000) && (decide (fi.params.length ≤ fi.ntmps) && (decide (fi.params.length < 1000) && fi.params.all fineM))

theorem fn_ok (hP : PrOk P E) (hF : FnsOk P E) {f : Nat} {fi : Fi} (hf : E.fn f = some fi) (hfi : FiOk fi = true) {C : List T → R} {st0 : List T → List Item → St → R}
    (hC : ∀ ts, C ts = bif Nat.beq ts.length fi.params.length then st0 ts [.code fi.body] (lookCS (initL E 0 fi.params ts)) else none)
    (hst : ∀ ts todo st r, st0 ts todo st = some r → ∀ {a : Act} {w : World} {g : Gh} {hold : Nat → Place}, Inv E fi.ntmps st a w g hold → Goal P E fi.ntmps fi r todo a w g hold) :
    FnOk P E f fi C := by
  intro ts res hres vs w g hbnd hkn hargs
  unfold FiOk at hfi
  simp only [Bool.and_eq_true, decide_eq_true_eq, List.all_eq_true] at hfi
  obtain ⟨f1, f2, f3, f4⟩ := hfi
  rw [hC] at hres
  cases hlen : Nat.beq ts.length fi.params.length with
  | false => rw [hlen] at hres; cases hres
  | true =>
    rw [hlen, cond_true] at hres
    obtain ⟨fn, hfn, hbody, _, hnt, hresults, _⟩ := hF f fi hf
    have hI := par_inv (n := fi.ntmps) hbnd hkn hargs f2
    have hents : EntsOk E (hold0 fi.params vs) 0 fi.params vs := ents_entry hargs
      (fun k ty o v a b => by rw [Nat.zero_add, hold0_par, a, b])
      (fun k ty o b x c d => by rw [Nat.zero_add, hold0_par, c, d])
    intro cs
    let b : Frame := { (default : Frame) with fn := f, kind := .normal }
    have henter : Frame.enter P f vs.toArray .normal =
        b.at { tmps := vs.toArray ++ Array.replicate (fi.ntmps - vs.toArray.size) undef, defers := [] } [.code fi.body] := by
      simp [Frame.enter, Frame.at, hfn, hbody, hnt, b]
    obtain ⟨a', w', todo', st', hsteps, hfin, g', hold', k1, k2, k3⟩ := hst ts _ _ _ hres hI b cs
    have hents' : EntsOk E hold' 0 fi.params vs := by
      have mono : ∀ {ps : List (Nat × Mode)} {vs' : List Value} {i : Nat}, EntsOk E (hold0 fi.params vs) i ps vs' → EntsOk E hold' i ps vs' := by
        intro ps
        induction ps with
        | nil => intro vs' i h; cases vs' <;> exact h
        | cons x ps ih =>
          intro vs' i h
          obtain ⟨ty, m⟩ := x
          cases vs' with
          | nil => exact h.elim
          | cons v vs' =>
            refine ⟨?_, ih h.2⟩
            have hh : hold' (parRoot i) = hold0 fi.params vs (parRoot i) := k2 _ (by unfold parRoot; omega)
            have h1 := h.1
            cases m with
            | ro => exact trivial
            | mu o => exact ⟨h1.1, by rw [hh]; exact h1.2⟩
            | bx o => obtain ⟨b, x, e1, e2⟩ := h1; exact ⟨b, x, e1, by rw [hh]; exact e2⟩
      exact mono hents
    obtain ⟨v, g'', rvs, rts, mts, e1, e2, e3, e4, e5, e6, e7⟩ := fin_ok hP k3 hresults f3 f4 hents' hfin
    rw [← henter] at hsteps
    exact ⟨.returned v, w', _, ⟨v, g'', rvs, rts, mts, e1, rfl, e3, k1.trans e4, e5, e6, e7⟩, hsteps, rfl, rfl, k3.defers, rfl, fn, hfn, e2⟩
end
end Go.Proofs.YtfelodpbejdhlaaDoor.Ra
/- All functions together. -/
namespace Go.Proofs.YtfelodpbejdhlaaDoor.Ra
open Go Go.RowKit

section
variable {P : Program} {E : Env}

/-- Every table of a function says what it must. -/
def FisOk (E : Env) : Prop := ∀ f fi, E.fn f = some fi → FiOk fi = true

theorem both_ok (hP : PrOk P E) (hF : FnsOk P E) (hT : FisOk E) (hmix : P.follows .mixedOrders = true) {X : Nat → Option (List T → R)} (hX : ∀ f k, X f = some k → ∀ fi, E.fn f = some fi → FnOk P E f fi k) :
    ∀ (m : Nat), CallsOk P E (callN E X m) ∧ ∀ f fi, E.fn f = some fi → HOk P E fi.ntmps fi (headN E X m fi) := by
  intro m
  induction m with
  | zero =>
    refine ⟨fun f fi _ ts res h => ?_, fun f fi _ body k cs r h => ?_⟩
    · simp [callN, both] at h
    · simp [headN, both] at h
  | succ m ih =>
    obtain ⟨ihC, ihH⟩ := ih
    have hex : ∀ f fi, E.fn f = some fi → ∀ (k : Nat) (todo : List Item) (st : St) (r : List T), ex fi E (headN E X m fi) (callN E X m) k todo st = some r → ∀ {a : Act} {w : World} {g : Gh} {hold : Nat → Place},
        Inv E fi.ntmps st a w g hold → Goal P E fi.ntmps fi r todo a w g hold := by
      intro f fi hf k todo st r h a w g hold hI
      have hfi := hT f fi hf
      unfold FiOk at hfi
      simp only [Bool.and_eq_true, decide_eq_true_eq] at hfi
      exact ex_ok hP hF rfl hfi.1 ihC (ihH f fi hf) hmix k todo st r h hI
    refine ⟨fun f fi hf => ?_, fun f fi hf body k cs r h a w g hold hI => ?_⟩
    · cases hx : X f with
      | some k =>
        have := hX f k hx fi hf
        intro ts res h
        rw [callN_succ, hx] at h
        exact this ts res h
      | none =>
        refine fn_ok hP hF hf (hT f fi hf) (C := callN E X (m + 1) f) (st0 := fun _ todo st => ex fi E (headN E X m fi) (callN E X m) BIG todo st) (fun ts => ?_) fun ts todo st r h a w g hold hI => hex f fi hf _ _ _ _ h hI
        rw [callN_succ, hx, hf]
        rfl
    · rw [headN_succ] at h
      unfold headE at h
      exact hex f fi hf _ _ _ _ h hI

theorem call_fn (hP : PrOk P E) (hF : FnsOk P E) (hT : FisOk E) (hmix : P.follows .mixedOrders = true) {X : Nat → Option (List T → R)} (hX : ∀ f k, X f = some k → ∀ fi, E.fn f = some fi → FnOk P E f fi k)
    {m f : Nat} {fi : Fi} (hf : E.fn f = some fi) : FnOk P E f fi (callN E X m f) := (both_ok hP hF hT hmix hX m).1 f fi hf
end
end Go.Proofs.YtfelodpbejdhlaaDoor.Ra
/- Tables of types, and what is to be asked of them. -/
namespace Go.Proofs.YtfelodpbejdhlaaDoor.Ra
open Go Go.RowKit

/-- A table by number: looked up in few steps. -/
inductive BT (α : Type) where | leaf (x : α) | node (m : Nat) (l r : BT α)
def BT.at {α : Type} : BT α → Nat → α
  | .leaf x, _ => x
  | .node m l r, n => bif Nat.ble m n then r.at n else l.at n
structure TyRow where
  ty : Ty
  sz : Nat
  flat : Bool
  nofn : Bool
  zok : Bool
  zero : T
  zc : List Value
def noTy : TyRow := ⟨.bad, 0, false, false, false, .int 0, []⟩
def tyAt (N : Nat) (b : BT TyRow) (t : Nat) : TyRow := bif Nat.ble N t then noTy else b.at t
def mkEnv (N : Nat) (b : BT TyRow) (bt : Nat) (fs : List (Nat × Fi)) (tab : List (Nat × List Value)) (told : Nat → Option (List T → R)) : Env :=
  ⟨fun t => (tyAt N b t).ty, fun t => (tyAt N b t).sz, fun t => (tyAt N b t).flat, fun t => (tyAt N b t).nofn, fun t => (tyAt N b t).zero, fun t => (tyAt N b t).zc, fun t => (tyAt N b t).zok, bt, assoc fs, tab, told⟩

/-- All loops' heads of a code. -/
def headsOf : Code → List Item → List (List Item)
  | .loop b, k => (.inLoop b :: k) :: headsOf b (.inLoop b :: k)
  | .seq a b, k => headsOf a (.code b :: k) ++ headsOf b k
  | .cond _ x y, k => headsOf x k ++ headsOf y k
  | .block id b, k => headsOf b (.inBlock id :: k)
  | .scope b, k => headsOf b (.inScope b :: k)
  | _, _ => []
def hdAt (c : Code) (i : Nat) : List Item := (headsOf c []).getD i []
/-- A call, and what follows. -/
def obind (x : R) (k : List T → R) : R := match x with | some r => k r | none => none
theorem obind_some (r : List T) (k : List T → R) : obind (some r) k = k r := rfl
theorem tb_bool (b : Bool) : (T.bool b).b = b := rfl
theorem beq_tt : (true == true) = true := rfl
theorem beq_ft : (false == true) = false := rfl
theorem beq_tf : (true == false) = false := rfl
theorem beq_ff : (false == false) = true := rfl
theorem bs : (∀ (r : List T) (k : List T → R), obind (some r) k = k r) ∧ (∀ (α : Type) (a b : α), (bif true then a else b) = a) ∧ (∀ (α : Type) (a b : α), (bif false then a else b) = b) ∧
    (∀ b, (T.bool b).b = b) ∧ ((true == true) = true) ∧ ((true == false) = false) ∧ ((false == true) = false) ∧ ((false == false) = true) ∧ ((!true) = false) ∧ ((!false) = true) ∧
    (∀ b, (true && b) = b) ∧ (∀ b, (false && b) = false) ∧ (∀ b, (true || b) = true) ∧ (∀ b, (false || b) = b) :=
  ⟨fun _ _ => rfl, fun _ _ _ => rfl, fun _ _ _ => rfl, fun _ => rfl, rfl, rfl, rfl, rfl, rfl, rfl, fun b => rfl, fun b => rfl, fun b => rfl, fun b => rfl⟩
theorem obind_congr {x : R} {k k' : List T → R} (h : ∀ r, k r = k' r) : obind x k = obind x k' := by rw [show k = k' from funext h]
def rt : List T → Nat → T
  | r, 0 => r.headD (.int 0)
  | r, n + 1 => rt r.tail n

theorem emptyS {s : ByteArray} (h : s.data.toList.isEmpty = true) : s = ⟨#[]⟩ := by
  obtain ⟨d⟩ := s
  have : d = #[] := by
    have := List.isEmpty_iff.1 h
    exact Array.toList_eq_nil_iff.1 this
  rw [this]
mutual
def zEq : T → T → Bool
  | .int a, .int b => decide (a = b)
  | .bool a, .bool b => a == b
  | .str a, .str b => a.data.toList.isEmpty && b.data.toList.isEmpty
  | .sl l, .sl m => l.isEmpty && m.isEmpty
  | .st l, .st m => zEqs l m
  | _, _ => false
def zEqs : List T → List T → Bool
  | [], [] => true
  | a :: l, b :: m => zEq a b && zEqs l m
  | _, _ => false
end
mutual
theorem zEq_ok : ∀ (a b : T), zEq a b = true → a = b
  | .int a, b, h => by cases b <;> simp_all [zEq]
  | .bool a, b, h => by cases b <;> simp_all [zEq]
  | .str a, b, h => by
    cases b <;> simp only [zEq, Bool.and_eq_true, Bool.false_eq_true] at h
    rw [emptyS h.1, emptyS h.2]
  | .sl l, b, h => by
    cases b <;> simp only [zEq, Bool.and_eq_true, Bool.false_eq_true] at h
    rw [List.isEmpty_iff.1 h.1, List.isEmpty_iff.1 h.2]
  | .st l, b, h => by
    cases b <;> simp only [zEq, Bool.false_eq_true] at h
    rw [zEqs_ok _ _ h]
  | .fn _ _, b, h => by cases b <;> simp [zEq] at h
theorem zEqs_ok : ∀ (l m : List T), zEqs l m = true → l = m
  | [], m, h => by cases m <;> simp_all [zEqs]
  | a :: l, m, h => by
    cases m with
    | nil => simp [zEqs] at h
    | cons b m =>
      simp only [zEqs, Bool.and_eq_true] at h
      rw [zEq_ok a b h.1, zEqs_ok l m h.2]
end
def vEq : Value → Value → Bool
  | .int k n, .int k' n' => decide (k = k') && decide (n = n')
  | .bool a, .bool b => a == b
  | .string a, .string b => a.data.toList.isEmpty && b.data.toList.isEmpty
  | .slice none 0 0, .slice none 0 0 => true
  | _, _ => false
theorem vEq_ok {a b : Value} (h : vEq a b = true) : a = b := by
  unfold vEq at h
  split at h <;> try (first | cases h; done | simp_all; done)
  rename_i a b
  simp only [Bool.and_eq_true] at h
  rw [emptyS h.1, emptyS h.2]
def vsEq : List Value → List Value → Bool
  | [], [] => true
  | a :: l, b :: m => vEq a b && vsEq l m
  | _, _ => false
theorem vsEq_ok : ∀ {l m : List Value}, vsEq l m = true → l = m
  | [], [], _ => rfl
  | a :: l, b :: m, h => by
    simp only [vsEq, Bool.and_eq_true] at h
    rw [vEq_ok h.1, vsEq_ok h.2]
  | [], _ :: _, h => by cases h
  | _ :: _, [], h => by cases h

def tyB (P : Program) (E : Env) (t : Nat) : Bool :=
  match E.ty t, P.underlying t with
  | .int k, some (.int k') => decide (k = k')
  | .bool, some .bool => true
  | .str, some .string => true
  | .sl e, some (.slice e') => Nat.beq e' e && okTy E e
  | .st fs, some (.struct fds) => Nat.beq fds.size fs.length && (!P.stoodInHeld t && (!P.eqGuardType P.depth t && (List.range fs.length).all fun j => match fs[j]?, fds[j]? with
      | some f, some fd => Nat.beq fd.type f && (Nat.beq fd.offset (off E fs j) && (!Nat.beq (E.sz f) 0 && (decide (fd.name ≠ "_") && okTy E f)))
      | _, _ => false))
  | .fn ps rs, some (.func ps' rs' _) => decide (ps'.toList = ps) && decide (rs'.toList = rs)
  | .ptr e, some (.pointer e') => Nat.beq e' e && okTy E e
  | .bad, _ => true
  | .cp _, _ => true
  | _, _ => false
def szB (E : Env) (t : Nat) : Bool :=
  match E.ty t with
  | .st fs => Nat.beq (E.sz t) (fs.map E.sz).sum && ((!E.flat t || fs.all E.flat) && (!E.nofn t || fs.all E.nofn))
  | .bad => true
  | .sl e => Nat.beq (E.sz t) 1 && (!E.flat t && (!E.nofn t || E.nofn e))
  | .fn _ _ => Nat.beq (E.sz t) 1 && (!E.flat t && !E.nofn t)
  | .cp _ => Nat.beq (E.sz t) 1 && (!E.flat t && !E.nofn t)
  | _ => Nat.beq (E.sz t) 1
def infoB (P : Program) (E : Env) (t : Nat) : Bool :=
  !okTy E t || (match P.info? t with | some i => Nat.beq i.size (E.sz t) && decide (i.bytes ≤ 4096) | none => false)
def shB (E : Env) (t : Nat) (v : Value) : Bool :=
  Nat.beq v.cells.size (E.sz t) && (match E.ty t with | .st _ => (match v with | .agg _ => true | _ => false) | _ => (match v with | .agg _ => false | .tuple _ => false | _ => true))
def zeroT (E : Env) (t : Nat) : Bool :=
  match E.ty t, E.zero t, E.zc t with
  | .int k, .int 0, [.int k' 0] => decide (k = k')
  | .bool, .bool false, [.bool false] => true
  | .str, .str s, [.string s'] => s.data.toList.isEmpty && s'.data.toList.isEmpty
  | .sl _, .sl [], [.slice none 0 0] => true
  | .st fs, .st ts, _ => fs.all E.zok
  | _, _, _ => false
def zeroB (P : Program) (E : Env) (t : Nat) : Bool :=
  !E.zok t || (okTy E t && ((match P.info? t with
    | some i => (match i.zero with | some z => shB E t z && vsEq z.cells.toList (E.zc t) | none => false)
    | none => false) && (zeroT E t && (match E.ty t with
    | .st fs => vsEq (E.zc t) (fs.flatMap E.zc) && zEq (E.zero t) (.st (fs.map E.zero))
    | _ => true))))
def rowB (P : Program) (E : Env) (t : Nat) : Bool := tyB P E t && (szB E t && (infoB P E t && zeroB P E t))

theorem cells_self {v : Value} (h : (match v with | .agg _ => false | .tuple _ => false | _ => true) = true) : v.cells = #[v] := by
  cases v <;> first | rfl | cases h

theorem zc_get {E : Env} : ∀ {fs : List Nat}, (∀ f ∈ fs, (E.zc f).length = E.sz f) → ∀ (j f : Nat), fs[j]? = some f → ∀ k, k < E.sz f → (fs.flatMap E.zc)[off E fs j + k]? = (E.zc f)[k]?
  | [], _, j, f, h, _, _ => by simp at h
  | f0 :: fs, hw, j, f, h, k, hk => by
    rw [List.flatMap_cons]
    cases j with
    | zero =>
      simp at h; subst h
      rw [List.getElem?_append_left (by rw [hw f0 (by simp)]; simp [off]; exact hk)]
      simp [off]
    | succ j =>
      simp only [List.getElem?_cons_succ] at h
      have ih := zc_get (fun f hf => hw f (by simp [hf])) j f h k hk
      rw [List.getElem?_append_right (by rw [hw f0 (by simp)]; simp [off]; omega), ← ih]
      congr 1
      rw [hw f0 (by simp)]
      simp [off]; omega

section
variable {P : Program} {E : Env} {N : Nat}
theorem prOk_of (hN : ∀ t, N ≤ t → E.ty t = .bad ∧ E.zok t = false) (h : (List.range N).all (rowB P E) = true) : PrOk P E := by
  have row : ∀ t, t < N → tyB P E t = true ∧ szB E t = true ∧ infoB P E t = true ∧ zeroB P E t = true := by
    intro t ht
    have := List.all_eq_true.1 h t (List.mem_range.2 ht)
    unfold rowB at this
    simp only [Bool.and_eq_true] at this
    exact this
  have lt : ∀ {t}, E.ty t ≠ .bad → t < N := fun {t} hb => Nat.lt_of_not_le fun hn => hb (hN t hn).1
  have ltz : ∀ {t}, E.zok t = true → t < N := fun {t} hz => Nat.lt_of_not_le fun hn => by rw [(hN t hn).2] at hz; cases hz
  have hzr : ∀ t, E.zok t = true → okTy E t = true ∧ (∃ i z, P.info? t = some i ∧ i.zero = some z ∧ Shaped E t z ∧ z.cells.toList = E.zc t) ∧ zeroT E t = true ∧ (∀ fs, E.ty t = .st fs → E.zc t = fs.flatMap E.zc ∧ E.zero t = .st (fs.map E.zero)) := by
    intro t hz
    have := (row t (ltz hz)).2.2.2
    unfold zeroB at this
    rw [hz] at this
    simp only [Bool.not_true, Bool.false_or, Bool.and_eq_true] at this
    obtain ⟨a1, a2, a3, a4⟩ := this
    refine ⟨a1, ?_, a3, fun fs hfs => by rw [hfs] at a4; simp only [Bool.and_eq_true] at a4; exact ⟨vsEq_ok a4.1, zEq_ok _ _ a4.2⟩⟩
    split at a2
    rotate_left
    · cases a2
    rename_i i hi
    split at a2
    rotate_left
    · cases a2
    rename_i z hz'
    rw [Bool.and_eq_true] at a2
    refine ⟨i, z, hi, hz', ?_, vsEq_ok a2.2⟩
    have hs := a2.1
    unfold shB at hs
    rw [Bool.and_eq_true] at hs
    refine ⟨Nat.eq_of_beq_eq_true hs.1, ?_⟩
    have := hs.2
    split
    · rename_i fs hfs
      rw [hfs] at this
      simp only at this
      split at this
      · exact ⟨_, rfl⟩
      · cases this
    · rename_i hne
      split at this
      · rename_i fs hfs; exact absurd hfs (hne fs)
      · exact cells_self this
  have wf : TyWf E := by
    refine ⟨?_, ?_, ?_, ?_, ?_, ?_, ?_, ?_, ?_, ?_⟩
    · intro t ht
      by_cases hb : E.ty t = .bad
      · rw [hb] at ht; exact ht.elim
      · have := (row t (lt hb)).2.1
        unfold szB at this
        split at this
        · rename_i fs hfs; rw [hfs] at ht; exact ht.elim
        · rename_i hfs; rw [hfs] at ht; exact ht.elim
        · simp only [Bool.and_eq_true] at this; exact Nat.eq_of_beq_eq_true this.1
        · simp only [Bool.and_eq_true] at this; exact Nat.eq_of_beq_eq_true this.1
        · simp only [Bool.and_eq_true] at this; exact Nat.eq_of_beq_eq_true this.1
        · exact Nat.eq_of_beq_eq_true this
    · intro t fs ht
      have := (row t (lt (by rw [ht]; simp))).2.1
      unfold szB at this; rw [ht] at this
      simp only [Bool.and_eq_true] at this
      exact Nat.eq_of_beq_eq_true this.1
    · intro t fs ht hf
      have := (row t (lt (by rw [ht]; simp))).2.1
      unfold szB at this; rw [ht] at this
      simp only [Bool.and_eq_true, hf, Bool.not_true, Bool.false_or, List.all_eq_true] at this
      exact this.2.1
    · intro t e ht
      have := (row t (lt (by rw [ht]; simp))).2.1
      unfold szB at this; rw [ht] at this
      simp only [Bool.and_eq_true, Bool.not_eq_true'] at this
      exact this.2.1
    · intro t a b ht
      have := (row t (lt (by rw [ht]; simp))).2.1
      unfold szB at this; rw [ht] at this
      simp only [Bool.and_eq_true, Bool.not_eq_true'] at this
      exact this.2.1
    · intro t e ht
      have := (row t (lt (by rw [ht]; simp))).2.1
      unfold szB at this; rw [ht] at this
      simp only [Bool.and_eq_true, Bool.not_eq_true'] at this
      exact this.2.1
    · intro t fs ht hf
      have := (row t (lt (by rw [ht]; simp))).2.1
      unfold szB at this; rw [ht] at this
      simp only [Bool.and_eq_true, hf, Bool.not_true, Bool.false_or, List.all_eq_true] at this
      exact this.2.2
    · intro t e ht hf
      have := (row t (lt (by rw [ht]; simp))).2.1
      unfold szB at this; rw [ht] at this
      simp only [Bool.and_eq_true, hf, Bool.not_true, Bool.false_or] at this
      exact this.2.2
    · intro t a b ht
      have := (row t (lt (by rw [ht]; simp))).2.1
      unfold szB at this; rw [ht] at this
      simp only [Bool.and_eq_true, Bool.not_eq_true'] at this
      exact this.2.2
    · intro t e ht
      have := (row t (lt (by rw [ht]; simp))).2.1
      unfold szB at this; rw [ht] at this
      simp only [Bool.and_eq_true, Bool.not_eq_true'] at this
      exact this.2.2
  refine { wf := wf, int := ?_, bool := ?_, str := ?_, sl := ?_, st := ?_, fn := ?_, ptr := ?_, info := ?_, zero := ?_, zc_st := ?_, zc_sl := ?_, zrep := ?_ }
  · intro t k ht
    have := (row t (lt (by rw [ht]; simp))).1
    unfold tyB at this; rw [ht] at this
    split at this <;> simp_all
  · intro t ht
    have := (row t (lt (by rw [ht]; simp))).1
    unfold tyB at this; rw [ht] at this
    split at this <;> simp_all
  · intro t ht
    have := (row t (lt (by rw [ht]; simp))).1
    unfold tyB at this; rw [ht] at this
    split at this <;> simp_all
  · intro t e ht
    have := (row t (lt (by rw [ht]; simp))).1
    unfold tyB at this; rw [ht] at this
    split at this <;> try (first | cases this; done | simp_all; done)
  · intro t fs ht
    have := (row t (lt (by rw [ht]; simp))).1
    unfold tyB at this; rw [ht] at this
    split at this <;> try (first | cases this; done | simp_all; done)
    rename_i fs' fds h1 h2
    cases h1
    simp only [Bool.and_eq_true, Bool.not_eq_true', List.all_eq_true, List.mem_range] at this
    obtain ⟨b1, b2, b3, b4⟩ := this
    refine ⟨fds, h2, Nat.eq_of_beq_eq_true b1, b2, b3, fun j f fd hf hfd => ?_⟩
    have := b4 j (List.getElem?_eq_some_iff.1 hf).1
    rw [hf, hfd] at this
    simp only [Bool.and_eq_true, Bool.not_eq_true', decide_eq_true_eq] at this
    obtain ⟨c1, c2, c3, c4, c5⟩ := this
    refine ⟨Nat.eq_of_beq_eq_true c1, Nat.eq_of_beq_eq_true c2, fun h0 => ?_, c4, c5⟩
    rw [h0] at c3; simp at c3
  · intro t ps rs ht
    have := (row t (lt (by rw [ht]; simp))).1
    unfold tyB at this; rw [ht] at this
    split at this <;> try (first | cases this; done | simp_all; done)
    rename_i a b c d e h1 h2
    cases h1
    simp only [Bool.and_eq_true, decide_eq_true_eq] at this
    exact ⟨e, by rw [h2, ← this.1, ← this.2]⟩
  · intro t e ht
    have := (row t (lt (by rw [ht]; simp))).1
    unfold tyB at this; rw [ht] at this
    split at this <;> try (first | cases this; done | simp_all; done)
  · intro t hok
    have hb : E.ty t ≠ .bad := by intro hb; simp [okTy, hb] at hok
    have := (row t (lt hb)).2.2.1
    unfold infoB at this
    rw [hok] at this
    simp only [Bool.not_true, Bool.false_or] at this
    split at this
    · rename_i i hi
      simp only [Bool.and_eq_true, decide_eq_true_eq] at this
      exact ⟨i, hi, Nat.eq_of_beq_eq_true this.1, this.2⟩
    · cases this
  · intro t hz; obtain ⟨a1, a2, _⟩ := hzr t hz; exact ⟨a1, a2⟩
  · intro t fs hz ht
    obtain ⟨_, _, a3, a4⟩ := hzr t hz
    refine ⟨(a4 fs ht).1, (a4 fs ht).2, ?_⟩
    unfold zeroT at a3; rw [ht] at a3
    split at a3 <;> simp_all
  · intro t e hz ht
    obtain ⟨_, _, a3, _⟩ := hzr t hz
    unfold zeroT at a3; rw [ht] at a3
    split at a3 <;> simp_all
  · have key : ∀ (m : Nat) (t : Nat), SizeOf.sizeOf (E.zero t) ≤ m → E.zok t = true → ∀ w g r p, Rep E w g t (E.zero t) .dp r p (.reg (E.zc t) 0) := by
      intro m
      induction m with
      | zero =>
        intro t hm
        exfalso
        cases hz : E.zero t <;> rw [hz] at hm <;> simp at hm
      | succ m ih =>
        intro t hm hz w g r p
        obtain ⟨_, _, a3, a4⟩ := hzr t hz
        have a3' := a3
        unfold zeroT at a3
        split at a3 <;> try (cases a3; done)
        · rename_i k k' h1 h2 h3
          rw [h2, h3]
          have := of_decide_eq_true a3; subst this
          exact .int h1 rfl
        · rename_i h1 h2 h3; rw [h2, h3]; exact .bool h1 rfl
        · rename_i s s' h1 h2 h3
          rw [h2, h3]
          simp only [Bool.and_eq_true] at a3
          rw [emptyS a3.1, emptyS a3.2]
          exact .str h1 rfl
        · rename_i e h1 h2 h3; rw [h2, h3]; exact .own0 h1 rfl rfl
        · rename_i fs ts h1 h2
          have hzs := (a4 fs h1).2
          have hall : ∀ f ∈ fs, E.zok f = true := by simpa [List.all_eq_true] using a3
          have hwf : ∀ f ∈ fs, (E.zc f).length = E.sz f := by
            intro f hf
            obtain ⟨_, ⟨i, z, _, _, hsh, hzc⟩, _, _⟩ := hzr f (hall f hf)
            rw [← hzc, Array.length_toList]; exact hsh.1
          rw [hzs]
          refine .st h1 (by simp) fun j f x hf hx => ?_
          have hfm := List.mem_of_getElem? hf
          simp only [List.getElem?_map, hf, Option.map_some, Option.some.injEq] at hx
          subst hx
          have hsz : SizeOf.sizeOf (E.zero f) ≤ m := by
            rw [hzs] at hm
            have hin : E.zero f ∈ fs.map E.zero := List.mem_map.2 ⟨f, hfm, rfl⟩
            have := List.sizeOf_lt_of_mem hin
            simp at hm
            omega
          refine (ih f hsz (hall f hfm) w g r (p ++ [.fld j])).place wf fun k hk => ?_
          have := zc_get hwf j f hf k hk
          rw [(a4 fs h1).1]
          simpa [Place.add, rd] using this
    exact fun t hz w g r p => key _ t (Nat.le_refl _) hz w g r p

theorem assoc_in {α : Type} : ∀ {l : List (Nat × α)} {n : Nat} {x : α}, assoc l n = some x → (n, x) ∈ l
  | [], _, _, h => by cases h
  | (k, v) :: l, n, x, h => by
    simp only [assoc, nbeq] at h
    by_cases hk : k = n
    · subst hk; simp at h; subst h; simp
    · simp only [hk, decide_false, cond_false] at h; exact List.mem_cons_of_mem _ (assoc_in h)
def FnsL (P : Program) (E : Env) : List (Nat × Fi) → Prop
  | [] => True
  | (f, fi) :: l => (∃ fn, P.funcs[f]? = some fn ∧ fn.body = some fi.body ∧ fn.name ≠ "runtime.NumGoroutine" ∧ fn.ntmps = fi.ntmps ∧ fn.results.toList = fi.results ∧ (fi.clip = true → ∃ ty m, fi.params = [(ty, m)] ∧ ClipBody fn ty fi.body) ∧
      (∀ f1 j1 f2 j2, fi.inl = [(f1, j1), (f2, j2)] → ∃ ty s1 s2 ps, fi.params = (ty, .ro) :: ps ∧ InlBody E fn ty j1 s1 f1 j2 s2 f2 fi.body)) ∧ FnsL P E l
theorem fnsL_mem : ∀ {l : List (Nat × Fi)}, FnsL P E l → ∀ f fi, (f, fi) ∈ l → ∃ fn, P.funcs[f]? = some fn ∧ fn.body = some fi.body ∧ fn.name ≠ "runtime.NumGoroutine" ∧ fn.ntmps = fi.ntmps ∧ fn.results.toList = fi.results ∧ (fi.clip = true → ∃ ty m, fi.params = [(ty, m)] ∧ ClipBody fn ty fi.body) ∧
      (∀ f1 j1 f2 j2, fi.inl = [(f1, j1), (f2, j2)] → ∃ ty s1 s2 ps, fi.params = (ty, .ro) :: ps ∧ InlBody E fn ty j1 s1 f1 j2 s2 f2 fi.body)
  | [], _, f, fi, h => by cases h
  | (f', fi') :: l, hl, f, fi, h => by
    rcases List.mem_cons.1 h with h | h
    · cases h; exact hl.1
    · exact fnsL_mem hl.2 f fi h
theorem fe {f : Nat} {fi : Fi} (h : ∃ fn, P.funcs[f]? = some fn ∧ fn.body = some fi.body ∧ fn.name ≠ "runtime.NumGoroutine" ∧ fn.ntmps = fi.ntmps ∧ fn.results.toList = fi.results) (hc : fi.clip = false) (hi : fi.inl = []) :
    ∃ fn, P.funcs[f]? = some fn ∧ fn.body = some fi.body ∧ fn.name ≠ "runtime.NumGoroutine" ∧ fn.ntmps = fi.ntmps ∧ fn.results.toList = fi.results ∧ (fi.clip = true → ∃ ty m, fi.params = [(ty, m)] ∧ ClipBody fn ty fi.body) ∧
      (∀ f1 j1 f2 j2, fi.inl = [(f1, j1), (f2, j2)] → ∃ ty s1 s2 ps, fi.params = (ty, .ro) :: ps ∧ InlBody E fn ty j1 s1 f1 j2 s2 f2 fi.body) := by
  obtain ⟨fn, h1, h2, h3, h4, h5⟩ := h
  exact ⟨fn, h1, h2, h3, h4, h5, (fun h => by rw [hc] at h; cases h), (fun f1 j1 f2 j2 h => by rw [hi] at h; cases h)⟩
theorem feClip {f : Nat} {fi : Fi} {ty : Nat} {m : Mode} {fn : Func} (h1 : P.funcs[f]? = some fn) (h2 : fn.body = some fi.body) (h3 : fn.name ≠ "runtime.NumGoroutine") (h4 : fn.ntmps = fi.ntmps) (h5 : fn.results.toList = fi.results)
    (hp : fi.params = [(ty, m)]) (hb : ClipBody fn ty fi.body) (hi : fi.inl = []) :
    ∃ fn, P.funcs[f]? = some fn ∧ fn.body = some fi.body ∧ fn.name ≠ "runtime.NumGoroutine" ∧ fn.ntmps = fi.ntmps ∧ fn.results.toList = fi.results ∧ (fi.clip = true → ∃ ty m, fi.params = [(ty, m)] ∧ ClipBody fn ty fi.body) ∧
      (∀ f1 j1 f2 j2, fi.inl = [(f1, j1), (f2, j2)] → ∃ ty s1 s2 ps, fi.params = (ty, .ro) :: ps ∧ InlBody E fn ty j1 s1 f1 j2 s2 f2 fi.body) :=
  ⟨fn, h1, h2, h3, h4, h5, fun _ => ⟨ty, m, hp, hb⟩, (fun f1 j1 f2 j2 h => by rw [hi] at h; cases h)⟩
theorem feInl {f : Nat} {fi : Fi} {ty s1 s2 f1 j1 f2 j2 : Nat} {ps : List (Nat × Mode)} {fn : Func} (h1 : P.funcs[f]? = some fn) (h2 : fn.body = some fi.body) (h3 : fn.name ≠ "runtime.NumGoroutine") (h4 : fn.ntmps = fi.ntmps) (h5 : fn.results.toList = fi.results)
    (hp : fi.params = (ty, .ro) :: ps) (hi : fi.inl = [(f1, j1), (f2, j2)]) (hb : InlBody E fn ty j1 s1 f1 j2 s2 f2 fi.body) (hc : fi.clip = false) :
    ∃ fn, P.funcs[f]? = some fn ∧ fn.body = some fi.body ∧ fn.name ≠ "runtime.NumGoroutine" ∧ fn.ntmps = fi.ntmps ∧ fn.results.toList = fi.results ∧ (fi.clip = true → ∃ ty m, fi.params = [(ty, m)] ∧ ClipBody fn ty fi.body) ∧
      (∀ f1 j1 f2 j2, fi.inl = [(f1, j1), (f2, j2)] → ∃ ty s1 s2 ps, fi.params = (ty, .ro) :: ps ∧ InlBody E fn ty j1 s1 f1 j2 s2 f2 fi.body) :=
  ⟨fn, h1, h2, h3, h4, h5, (fun h => by rw [hc] at h; cases h), (fun a b c d h => by rw [hi] at h; cases h; exact ⟨ty, s1, s2, ps, hp, hb⟩)⟩
theorem fnsOk_of {b : BT TyRow} {bt : Nat} {fs : List (Nat × Fi)} {tab : List (Nat × List Value)} {told : Nat → Option (List T → R)} (h : FnsL P (mkEnv N b bt fs tab told) fs) : FnsOk P (mkEnv N b bt fs tab told) := fun f fi hf => fnsL_mem h f fi (assoc_in hf)
theorem fisOk_of {b : BT TyRow} {bt : Nat} {fs : List (Nat × Fi)} {tab : List (Nat × List Value)} {told : Nat → Option (List T → R)} (h : (fs.all fun x => FiOk x.2) = true) : FisOk (mkEnv N b bt fs tab told) := fun f fi hf => List.all_eq_true.1 h _ (assoc_in hf)
theorem bad_of {b : BT TyRow} {bt : Nat} {fs : List (Nat × Fi)} {tab : List (Nat × List Value)} {told : Nat → Option (List T → R)} : ∀ t, N ≤ t → (mkEnv N b bt fs tab told).ty t = .bad ∧ (mkEnv N b bt fs tab told).zok t = false := by
  intro t ht
  have : Nat.ble N t = true := Nat.ble_eq_true_of_le ht
  simp [mkEnv, tyAt, this, noTy]
end
end Go.Proofs.YtfelodpbejdhlaaDoor.Ra
/- What calls yield, all in one frame of rounds; trees of a type; small laws for the plain side. -/
namespace Go.Proofs.YtfelodpbejdhlaaDoor.Ra
open Go Go.RowKit

/-- From some number of rounds on, this is what comes. -/
def Yields (x : Nat → R) (r : List T) : Prop := ∃ m, ∀ k, m ≤ k → x k = some r
theorem Yields.some (r : List T) : Yields (fun _ => some r) r := ⟨0, fun _ _ => rfl⟩
theorem Yields.obind {x : Nat → R} {K : Nat → List T → R} {r1 r : List T} (h1 : Yields x r1) (h2 : Yields (fun k => K k r1) r) : Yields (fun k => obind (x k) (K k)) r := by
  obtain ⟨m, hm⟩ := h1
  obtain ⟨n, hn⟩ := h2
  refine ⟨max m n, fun k hk => ?_⟩
  show Ra.obind (x k) (K k) = Option.some r
  rw [hm k (by omega)]
  exact hn k (by omega)
theorem Yields.tt {b : Bool} {x y : Nat → R} {r : List T} (hb : b = true) (h : Yields x r) : Yields (fun k => bif b then x k else y k) r := by
  subst hb; exact h
theorem Yields.ff {b : Bool} {x y : Nat → R} {r : List T} (hb : b = false) (h : Yields y r) : Yields (fun k => bif b then x k else y k) r := by
  subst hb; exact h
theorem Yields.ite {b : Bool} {x y : Nat → R} {r : List T} (ht : b = true → Yields x r) (hf : b = false → Yields y r) : Yields (fun k => bif b then x k else y k) r := by
  cases b with
  | true => exact ht rfl
  | false => exact hf rfl

def noX : Nat → Option (List T → R) := fun _ => none
def cl (E : Env) (k : Nat) : CallsE := callN E E.told k
def hl (E : Env) (k : Nat) (fi : Fi) : List Item → CS → R := headN E E.told k fi
theorem Yields.told {E : Env} {f : Nat} {g : List T → R} {ts r : List T} (hg : E.told f = Option.some g) (h : g ts = Option.some r) : Yields (fun k => cl E k f ts) r := by
  refine ⟨1, fun k hk => ?_⟩
  obtain ⟨k, rfl⟩ : ∃ j, k = j + 1 := ⟨k - 1, by omega⟩
  show callN E E.told (k + 1) f ts = Option.some r
  rw [callN_succ, hg]; exact h
theorem Yields.call {E : Env} {f : Nat} {fi : Fi} {ts : List T} {r : List T} (hx : E.told f = Option.none) (hf : E.fn f = Option.some fi) {Z : (List Item → CS → R) → CallsE → R} (hz : ∀ H C, enterE fi E H C ts = Z H C)
    (h : Yields (fun k => Z (hl E k fi) (cl E k)) r) : Yields (fun k => cl E k f ts) r := by
  obtain ⟨m, hm⟩ := h
  refine ⟨m + 1, fun k hk => ?_⟩
  obtain ⟨k, rfl⟩ : ∃ j, k = j + 1 := ⟨k - 1, by omega⟩
  show callN E E.told (k + 1) f ts = Option.some r
  rw [callN_succ, hx]
  simp only [hf]
  rw [show enterE fi E (headN E E.told k fi) (callN E E.told k) ts = _ from hz _ _]
  exact hm k (by omega)
theorem Yields.head {E : Env} {fi : Fi} {todo : List Item} {cs : CS} {r : List T} {Z : (List Item → CS → R) → CallsE → R} (hz : ∀ H C, headE fi E H C todo cs = Z H C)
    (h : Yields (fun k => Z (hl E k fi) (cl E k)) r) : Yields (fun k => hl E k fi todo cs) r := by
  obtain ⟨m, hm⟩ := h
  refine ⟨m + 1, fun k hk => ?_⟩
  obtain ⟨k, rfl⟩ : ∃ j, k = j + 1 := ⟨k - 1, by omega⟩
  show headN E E.told (k + 1) fi todo cs = Option.some r
  rw [headN_succ]
  rw [show headE fi E (headN E E.told k fi) (callN E E.told k) todo cs = _ from hz _ _]
  exact hm k (by omega)

/-- A tree of a type. -/
inductive Typed (E : Env) : Nat → T → Prop
  | int {ty k n} : E.ty ty = .int k → (Lit.int k n).wf = true → Typed E ty (.int n)
  | bool {ty b} : E.ty ty = .bool → Typed E ty (.bool b)
  | str {ty s} : E.ty ty = .str → s.size ≤ maxLen → Typed E ty (.str s)
  | sl {ty e es} : E.ty ty = .sl e → es.length ≤ maxLen → (∀ t ∈ es, Typed E e t) → Typed E ty (.sl es)
  | st {ty fs ts} : E.ty ty = .st fs → ts.length = fs.length → (∀ (j f : Nat) (t : T), fs[j]? = some f → ts[j]? = some t → Typed E f t) → Typed E ty (.st ts)
theorem Typed.int_inv {E : Env} {ty : Nat} {k : IntKind} {t : T} (h : Typed E ty t) (hk : E.ty ty = .int k) : ∃ n, t = .int n ∧ k.min ≤ n ∧ n ≤ k.max := by
  cases h with
  | int h1 h2 =>
    rw [h1] at hk; cases hk
    exact ⟨_, rfl, by simpa [Lit.wf] using h2⟩
  | bool h1 => rw [h1] at hk; cases hk
  | str h1 => rw [h1] at hk; cases hk
  | sl h1 => rw [h1] at hk; cases hk
  | st h1 => rw [h1] at hk; cases hk
theorem Typed.str_inv {E : Env} {ty : Nat} {t : T} (h : Typed E ty t) (hk : E.ty ty = .str) : ∃ s, t = .str s ∧ s.size ≤ maxLen := by
  cases h with
  | int h1 h2 => rw [h1] at hk; cases hk
  | bool h1 => rw [h1] at hk; cases hk
  | str h1 h2 => exact ⟨_, rfl, h2⟩
  | sl h1 => rw [h1] at hk; cases hk
  | st h1 => rw [h1] at hk; cases hk
theorem Typed.sl_inv {E : Env} {ty e : Nat} {t : T} (h : Typed E ty t) (hk : E.ty ty = .sl e) : ∃ es, t = .sl es ∧ es.length ≤ maxLen ∧ ∀ t ∈ es, Typed E e t := by
  cases h with
  | int h1 h2 => rw [h1] at hk; cases hk
  | bool h1 => rw [h1] at hk; cases hk
  | str h1 => rw [h1] at hk; cases hk
  | sl h1 h2 h3 => rw [h1] at hk; cases hk; exact ⟨_, rfl, h2, h3⟩
  | st h1 => rw [h1] at hk; cases hk
theorem Typed.st_inv {E : Env} {ty : Nat} {fs : List Nat} {t : T} (h : Typed E ty t) (hk : E.ty ty = .st fs) : ∃ ts, t = .st ts ∧ ts.length = fs.length ∧ ∀ (j f : Nat) (t : T), fs[j]? = some f → ts[j]? = some t → Typed E f t := by
  cases h with
  | int h1 h2 => rw [h1] at hk; cases hk
  | bool h1 => rw [h1] at hk; cases hk
  | str h1 => rw [h1] at hk; cases hk
  | sl h1 h2 h3 => rw [h1] at hk; cases hk
  | st h1 h2 h3 => rw [h1] at hk; cases hk; exact ⟨_, rfl, h2, h3⟩

theorem wrap64 {n : Int} (h1 : -9223372036854775808 ≤ n) (h2 : n ≤ 9223372036854775807) : IntKind.wrap .i64 n = n := by
  simp only [IntKind.wrap, IntKind.bits, IntKind.signed]
  by_cases h : n < 0
  · have e : n % 18446744073709551616 = n + 18446744073709551616 := by omega
    simp [e]; omega
  · have e : n % 18446744073709551616 = n := by omega
    simp [e]; omega
theorem nth_lt {es : List T} {i : Nat} (h : i < es.length) : (T.sl es).nth i = es[i] := by simp [T.nth, T.es, h]
theorem rt0 (a : T) (l : List T) : rt (a :: l) 0 = a := rfl
theorem rt1 (a b : T) (l : List T) : rt (a :: b :: l) 1 = b := rfl
theorem rt2 (a b c : T) (l : List T) : rt (a :: b :: c :: l) 2 = c := rfl
end Go.Proofs.YtfelodpbejdhlaaDoor.Ra
/- From a reading of the arguments to trees, and from a result back to the row. -/
namespace Go.Proofs.YtfelodpbejdhlaaDoor.Ra
open Go Go.RowKit Go.ChangeShapes

def DataB (E : Env) (dts : List Nat) : Bool := dts.all fun t => okTy E t && (match E.ty t with
  | .int _ => true
  | .bool => true
  | .str => true
  | .sl e => mem e dts && !Nat.beq (E.sz e) 0
  | .st fs => fs.all fun f => mem f dts
  | _ => false)

section
variable {P : Program} {E : Env} {H : Type} {enc : TypeId × Value → H}

theorem addr_adds (a : Addr) (m n : Nat) : (a.add m).add n = a.add (m + n) := by
  unfold Addr.add
  by_cases hm : m = 0
  · subst hm; simp
  · by_cases hn : n = 0
    · subst hn; simp
    · simp [hm, hn, Nat.add_assoc]
theorem cellsOf_eq (hP : PrOk P E) {t : Nat} (h : okTy E t = true) : P.cellsOf t = E.sz t := by
  obtain ⟨i, hi, hs, _⟩ := hP.info t h
  simp [Program.cellsOf, hi, hs]

theorem read_rep (hP : PrOk P E) {dts : List Nat} (hD : DataB E dts = true) {W : World} {g : Gh} (hg : ∀ b, b < W.heap.size → g b = .frz) :
    ∀ (n : Nat) (t : Nat) (cs : List Value) (x : DataW H × List MemPlace), t ∈ dts → DataW.trod enc P W 0 (fun _ => true) true n t cs = some x →
      ∃ y, (∀ r p, Rep E W g t y .fz r p (.reg cs 0)) ∧ Typed E t y ∧ cs.length = E.sz t := by
  have row : ∀ t ∈ dts, okTy E t = true ∧ (match E.ty t with
      | .int _ => true
      | .bool => true
      | .str => true
      | .sl e => mem e dts && !Nat.beq (E.sz e) 0
      | .st fs => fs.all fun f => mem f dts
      | _ => false) = true := by
    intro t ht
    have := List.all_eq_true.1 hD t ht
    rw [Bool.and_eq_true] at this
    exact this
  intro n
  induction n with
  | zero => intro t cs x _ h; simp [DataW.trod] at h
  | succ n ih =>
    intro t cs x ht h
    obtain ⟨hok, hr⟩ := row t ht
    cases he : E.ty t with
    | int k =>
      obtain ⟨m, rfl, _, hw⟩ := DataW.trod_int (hP.int t k he) h
      exact ⟨.int m, fun r p => .int he rfl, .int he hw, by rw [hP.wf.one t (by rw [he]; trivial)]; rfl⟩
    | bool =>
      obtain ⟨b, rfl, _⟩ := DataW.trod_bool (hP.bool t he) h
      exact ⟨.bool b, fun r p => .bool he rfl, .bool he, by rw [hP.wf.one t (by rw [he]; trivial)]; rfl⟩
    | str =>
      obtain ⟨s, rfl, _, hs⟩ := DataW.trod_string (hP.str t he) h
      exact ⟨.str s, fun r p => .str he rfl, .str he hs, by rw [hP.wf.one t (by rw [he]; trivial)]; rfl⟩
    | sl e =>
      rw [he] at hr
      simp only [Bool.and_eq_true, Bool.not_eq_true'] at hr
      have hed := mem_iff.1 hr.1
      have hsz : 0 < E.sz e := by
        have := hr.2
        rw [nbeq, decide_eq_false_iff_not] at this
        omega
      have hce := cellsOf_eq hP (row e hed).1
      have hone := hP.wf.one t (by rw [he]; trivial)
      rcases DataW.trod_slice (hP.sl t e he).1 h with ⟨rfl, _⟩ | ⟨a, len, cap, elems, rest, m, hm, rfl, _, hb, hl, hc, hlen, hel, _⟩
      · exact ⟨.sl [], fun r p => .fz0 he rfl, .sl he (Nat.zero_le _) (fun t ht => by cases ht), by rw [hone]; rfl⟩
      · cases hm
        have hsb : 0 < len → a.spot = none ∧ a.block < W.heap.size := by
          intro h0
          have h1 := hel 0 h0
          rw [List.getElem?_eq_getElem (by omega)] at h1
          obtain ⟨cs', h2, h3⟩ := Option.bind_eq_some_iff.1 h1
          rw [Nat.zero_mul, show a.add 0 = a from by simp [Addr.add]] at h2
          have hblk : a.block < W.heap.size := World.cells?_block h2 (by rw [hce]; exact hsz)
          obtain ⟨_, hl', hcell⟩ := World.cells?_some h2
          rw [hce] at hl' hcell
          have h0' := hcell 0 hsz
          rw [show a.add 0 = a from by simp [Addr.add]] at h0'
          refine ⟨?_, hblk⟩
          cases hs : a.spot with
          | none => rfl
          | some z =>
            exfalso
            obtain ⟨c0, hc0⟩ : ∃ c0, cs'[0]? = some c0 := ⟨_, List.getElem?_eq_getElem (by omega)⟩
            rw [hc0] at h0'
            unfold World.cell? at h0'
            split at h0'
            · simp [hs] at h0'
            · cases h0'
        have elem : ∀ i, i < len → ∃ y, (∀ r p, Rep E W g e y .fz r p (.mem a.block (a.off + i * E.sz e))) ∧ Typed E e y := by
          intro i hi
          have hspot := (hsb (by omega)).1
          have h1 := hel i hi
          rw [List.getElem?_eq_getElem (by omega)] at h1
          obtain ⟨cs', h2, h3⟩ := Option.bind_eq_some_iff.1 h1
          obtain ⟨_, hl', hcell⟩ := World.cells?_some h2
          obtain ⟨y, hy1, hy2, hy3⟩ := ih e cs' _ hed h3
          rw [hce] at hl' hcell
          refine ⟨y, fun r p => (hy1 r p).place hP.wf fun k hk => ?_, hy2⟩
          have := hcell k hk
          obtain ⟨ab, ao, as⟩ := a
          simp only at hspot; subst hspot
          rw [show ((⟨ab, ao, none⟩ : Addr).add (i * E.sz e)).add k = (⟨ab, ao, none⟩ : Addr).add (i * E.sz e + k) from addr_adds _ _ _] at this
          simp only [rd, Place.add, Nat.zero_add]
          rw [← this]
          congr 1
          unfold Addr.add
          split
          · rename_i hz; simp only [Addr.mk.injEq, and_true, true_and]; omega
          · simp only [Addr.mk.injEq, and_true, true_and]; omega
        have pick : ∃ ys : List T, ys.length = len ∧ ∀ i y, ys[i]? = some y → (∀ r p, Rep E W g e y .fz r p (.mem a.block (a.off + i * E.sz e))) ∧ Typed E e y := by
          have : ∀ m, m ≤ len → ∃ ys : List T, ys.length = m ∧ ∀ i y, ys[i]? = some y → (∀ r p, Rep E W g e y .fz r p (.mem a.block (a.off + i * E.sz e))) ∧ Typed E e y := by
            intro m
            induction m with
            | zero => intro _; exact ⟨[], rfl, fun i y h => by simp at h⟩
            | succ m ihm =>
              intro hm
              obtain ⟨ys, h1, h2⟩ := ihm (by omega)
              obtain ⟨y, e1, e2⟩ := elem m (by omega)
              refine ⟨ys ++ [y], by simp [h1], fun i z hz => ?_⟩
              by_cases hi : i < m
              · rw [List.getElem?_append_left (by omega)] at hz; exact h2 i z hz
              · rw [List.getElem?_append_right (by omega)] at hz
                have : i = m := by
                  have := (List.getElem?_eq_some_iff.1 hz).1
                  simp at this; omega
                subst this
                simp [h1] at hz; subst hz
                exact ⟨e1, e2⟩
          exact this len (Nat.le_refl _)
        obtain ⟨ys, hyl, hys⟩ := pick
        refine ⟨.sl ys, fun r p => ?_, .sl he (by omega) (fun y hy => ?_), by rw [hone]; rfl⟩
        · by_cases hz : len = 0
          · subst hz
            obtain rfl : ys = [] := List.length_eq_zero_iff.1 hyl
            exact .fz0 he rfl
          · obtain ⟨hsp, hbk⟩ := hsb (by omega)
            exact .fz (a := a) he (by rw [hyl]; rfl) hsp (by omega) (hg _ hbk) fun i y hy => (hys i y hy).1 r p
        · obtain ⟨i, hi⟩ := List.mem_iff_getElem?.1 hy
          exact (hys i y hi).2
    | st fs =>
      rw [he] at hr
      simp only [List.all_eq_true] at hr
      obtain ⟨fds, hu, hfs, _, _, hfd⟩ := hP.st t fs he
      obtain ⟨xs, m, hm, _, hcl, hxl, hx⟩ := DataW.trod_struct hu h
      cases hm
      rw [cellsOf_eq hP hok] at hcl
      have part : ∀ j f, fs[j]? = some f → ∃ y, (∀ r p, Rep E W g f y .fz r p (.reg cs (off E fs j))) ∧ Typed E f y := by
        intro j f hj
        have hjl := (List.getElem?_eq_some_iff.1 hj).1
        have hfdj : fds[j]? = some (fds[j]'(by omega)) := Array.getElem?_eq_getElem _
        obtain ⟨c1, c2, _, _, _⟩ := hfd j f _ hj hfdj
        have hfm := mem_iff.1 (hr f (List.mem_of_getElem? hj))
        have h1 := hx j _ hfdj
        rw [List.getElem?_eq_getElem (by omega)] at h1
        rw [c1, c2, cellsOf_eq hP (row f hfm).1] at h1
        obtain ⟨y, hy1, hy2, hy3⟩ := ih f _ _ hfm h1
        refine ⟨y, fun r p => (hy1 r p).place hP.wf fun k hk => ?_, hy2⟩
        simp only [rd, Place.add, Nat.zero_add]
        rw [List.getElem?_take_of_lt hk, List.getElem?_drop]
      have pick : ∃ ys : List T, ys.length = fs.length ∧ ∀ (j f : Nat) (y : T), fs[j]? = some f → ys[j]? = some y → (∀ r p, Rep E W g f y .fz r p (.reg cs (off E fs j))) ∧ Typed E f y := by
        have : ∀ m, m ≤ fs.length → ∃ ys : List T, ys.length = m ∧ ∀ (j f : Nat) (y : T), fs[j]? = some f → ys[j]? = some y → (∀ r p, Rep E W g f y .fz r p (.reg cs (off E fs j))) ∧ Typed E f y := by
          intro m
          induction m with
          | zero => intro _; exact ⟨[], rfl, fun i f y _ h => by simp at h⟩
          | succ m ihm =>
            intro hm
            obtain ⟨ys, h1, h2⟩ := ihm (by omega)
            obtain ⟨y, e1, e2⟩ := part m (fs[m]'(by omega)) (List.getElem?_eq_getElem _)
            refine ⟨ys ++ [y], by simp [h1], fun i f z hf hz => ?_⟩
            by_cases hi : i < m
            · rw [List.getElem?_append_left (by omega)] at hz; exact h2 i f z hf hz
            · rw [List.getElem?_append_right (by omega)] at hz
              have : i = m := by
                have := (List.getElem?_eq_some_iff.1 hz).1
                simp at this; omega
              subst this
              simp [h1] at hz; subst hz
              rw [List.getElem?_eq_getElem (by omega)] at hf
              cases hf
              exact ⟨e1, e2⟩
        exact this _ (Nat.le_refl _)
      obtain ⟨ys, hyl, hys⟩ := pick
      refine ⟨.st ys, fun r p => .st he hyl fun j f y hf hy => ?_, .st he hyl fun j f y hf hy => (hys j f y hf hy).2, hcl⟩
      have := (hys j f y hf hy).1 r (p ++ [.fld j])
      simpa [Place.add, O.fld] using this
    | ptr e => rw [he] at hr; cases hr
    | cp e => rw [he] at hr; cases hr
    | fn a b => rw [he] at hr; cases hr
    | bad => rw [he] at hr; cases hr

theorem okWide_shaped (hP : PrOk P E) {W : World} {b0 : Nat} {t : Nat} {v : Value} (hok : okTy E t = true) (hd : match E.ty t with | .ptr _ => False | .fn _ _ => False | _ => True) (h : Value.okWide P W .any b0 t v) (hl : v.cells.toList.length = E.sz t) : Shaped E t v := by
  refine ⟨by rw [← hl, Array.length_toList], ?_⟩
  cases he : E.ty t with
  | int k =>
    simp only [Value.okWide, hP.int t k he, Cell.okWide, Cell.ok] at h
    cases v <;> first | rfl | cases h
  | bool =>
    simp only [Value.okWide, hP.bool t he, Cell.okWide, Cell.ok] at h
    cases v <;> first | rfl | cases h
  | str =>
    simp only [Value.okWide, hP.str t he, Cell.okWide, Cell.ok] at h
    cases v <;> first | rfl | cases h
  | sl e =>
    simp only [Value.okWide, (hP.sl t e he).1, Cell.okWide, Cell.ok] at h
    cases v <;> first | rfl | cases h
  | st fs =>
    obtain ⟨fds, hu, _⟩ := hP.st t fs he
    simp only [Value.okWide, hu] at h
    obtain ⟨cs, rfl, _⟩ := h
    exact ⟨cs, rfl⟩
  | ptr e => rw [he] at hd; exact hd.elim
  | fn a b => rw [he] at hd; exact hd.elim
  | bad => simp [okTy, he] at hok
  | cp => simp [okTy, he] at hok

def TypedAll (E : Env) : List Nat → List T → Prop
  | [], [] => True
  | ty :: tys, t :: ts => Typed E ty t ∧ TypedAll E tys ts
  | _, _ => False

theorem args_read (hP : PrOk P E) {dts : List Nat} (hD : DataB E dts = true) {W : World} {g : Gh} (hg : ∀ b, b < W.heap.size → g b = .frz) {b0 : Nat} :
    ∀ (tys : List Nat) (i : Nat) (vs : List Value) (ds : List (DataW H)) (ps : List MemPlace), (∀ t ∈ tys, t ∈ dts) → (∀ (j : Nat) t v, tys[j]? = some t → vs[j]? = some v → Value.okWide P W .any b0 t v) →
      DataW.TrodAll enc P W 0 (fun _ => true) true tys vs ds ps → ∃ ts, TypedAll E tys ts ∧ ArgsOk E W g i (tys.map fun t => (t, Mode.ro)) ts vs
  | [], i, vs, ds, ps, _, _, h => by
    obtain ⟨rfl, _, _⟩ := trodAll_nil h
    exact ⟨[], trivial, trivial⟩
  | t :: tys, i, vs, ds, ps, hd, hv, h => by
    obtain ⟨v, vs1, d, ds1, a, b, rfl, rfl, rfl, ⟨fuel, h1⟩, h2⟩ := trodAll_cons h
    have htd := hd t (by simp)
    obtain ⟨y, hy1, hy2, hy3⟩ := read_rep hP hD hg fuel t _ _ htd h1
    obtain ⟨ts, k1, k2⟩ := args_read hP hD hg tys (i + 1) vs1 ds1 b (fun t ht => hd t (by simp [ht])) (fun j t v a b => hv (j + 1) t v (by simpa using a) (by simpa using b)) h2
    have hrow := List.all_eq_true.1 hD t htd
    rw [Bool.and_eq_true] at hrow
    refine ⟨y :: ts, ⟨hy2, k1⟩, ⟨⟨hy1 0 [], okWide_shaped hP hrow.1 ?_ (hv 0 t v rfl rfl) hy3⟩, k2⟩⟩
    cases he : E.ty t <;> first | trivial | (rw [he] at hrow; simp at hrow)

theorem args_back (hlay : laidOutB P = true) {W W' : World} (hb : Below W.heap.size W W') : ∀ (tys : List Nat) (vs : List Value) (ds : List (DataW H)) (ps : List MemPlace), (∀ t ∈ tys, P.readableRec t = true ∧ t < P.types.size) →
      DataW.TrodAll enc P W 0 (fun _ => true) true tys vs ds ps → DataW.TrodAll enc P W' 0 (fun b => decide (b < W.heap.size)) true tys vs ds ps
  | [], vs, ds, ps, _, h => by
    obtain ⟨rfl, rfl, rfl⟩ := trodAll_nil h
    exact trodAll_mk0
  | t :: tys, vs, ds, ps, ht, h => by
    have hlt := h.lt
    obtain ⟨v, vs1, d, ds1, a, b, rfl, rfl, rfl, h1, h2⟩ := trodAll_cons h
    exact ⟨a, b, Below.trod hlay (ht t (by simp)).1 (ht t (by simp)).2 h1 hb fun x hx => hlt x (List.mem_append_left _ hx), args_back hlay hb tys vs1 ds1 b (fun t h => ht t (by simp [h])) h2, rfl⟩

/-- A law: the machine answers true, and leaves all that was there as it was. -/
theorem law_calls (hP : PrOk P E) (hF : FnsOk P E) (hT : FisOk E) (hX : ∀ f k, E.told f = some k → ∀ fi, E.fn f = some fi → FnOk P E f fi k) (hmix : P.follows .mixedOrders = true) {dts : List Nat} (hD : DataB E dts = true) {f bt : Nat} {fi : Fi} {tys : List Nat} (hf : E.fn f = some fi)
    (hps : fi.params = tys.map fun t => (t, Mode.ro)) (hrs : fi.rets = [(bt, .vl .dp)]) (hbt : E.ty bt = .bool) (hdt : ∀ t ∈ tys, t ∈ dts)
    (law : ∀ ts, TypedAll E tys ts → Yields (fun k => cl E k f ts) [.bool true])
    {W : World} {b0 : Nat} {args : Array Value} {ds : List (DataW H)} {ps : List MemPlace} {pars : Array TypeId} (hkn : ∀ b cs, (b, cs) ∈ E.tab → b < W.heap.size ∧ ∀ o, W.cell? ⟨b, o, none⟩ = cs[o]?) (hpar : pars = tys.toArray) (hv0 : ∀ (j : Nat) t v, pars[j]? = some t → args[j]? = some v → Value.okWide P W .any b0 t v)
    (hA : DataW.TrodAll enc P W 0 (fun _ => true) true tys args.toList ds ps) : Calls P f args W fun e W' => e = .returned (.bool true) ∧ Below W.heap.size W W' := by
  have hv : ∀ (j : Nat) t v, tys[j]? = some t → args[j]? = some v → Value.okWide P W .any b0 t v := fun j t v hj hv => hv0 j t v (by rw [hpar]; simpa using hj) hv
  let g0 : Gh := fun b => if b < W.heap.size then .frz else .free
  have hg : ∀ b, b < W.heap.size → g0 b = .frz := fun b hb => by simp [g0, hb]
  obtain ⟨ts, h1, h2⟩ := args_read hP hD hg tys 0 args.toList ds ps hdt (fun j t v a b => hv j t v a (by simpa using b)) hA
  obtain ⟨m, hm⟩ := law ts h1
  have hk := hm m (Nat.le_refl _)
  have hfn := call_fn hP hF hT hmix (X := E.told) hX (m := m) hf
  rw [← hps] at h2
  have := hfn ts _ hk args.toList W g0 (fun b hb => by
    by_cases h : b < W.heap.size
    · exact h
    · exact absurd (by simp [g0, h]) hb) (fun b cs hb => ⟨hg b (hkn b cs hb).1, (hkn b cs hb).2⟩) h2
  rw [Array.toArray_toList] at this
  refine this.mono fun e W' => ?_
  rintro ⟨v, g', rvs, rts, mts, hres, rfl, hvr, hst, _, hress, hmus⟩
  refine ⟨?_, hst.os, hst.tape, hst.output, hst.size, fun b hb => (hst.keep b hb (.inr (hg b hb))).1⟩
  rw [hrs] at hress
  cases rts with
  | nil => cases rvs <;> exact hress.elim
  | cons t rts =>
    cases rvs with
    | nil => exact hress.elim
    | cons x rvs =>
      obtain ⟨⟨r1, r2⟩, r3⟩ := hress
      cases rvs with
      | cons => cases rts <;> exact r3.elim
      | nil =>
        simp only [List.cons_append, List.cons.injEq] at hres
        obtain ⟨rfl, _⟩ := hres
        have hx := r2.2
        rw [hbt] at hx
        simp only at hx
        rw [hx] at r1
        have hvx : v = x := hvr
        cases r1 with
        | bool _ h => simp [rd] at h; rw [hvx, h]
        | cp h => rw [hbt] at h; cases h
end
end Go.Proofs.YtfelodpbejdhlaaDoor.Ra
