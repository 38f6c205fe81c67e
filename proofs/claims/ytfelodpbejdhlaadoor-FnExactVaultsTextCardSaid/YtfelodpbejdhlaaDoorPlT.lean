/- A verified evaluator for the program, part PlT of this claim. -/
import Derived.Test.YtfelodpbejdhlaaDoorPl1
import Derived.Test.YtfelodpbejdhlaaDoorTab
set_option linter.unusedSimpArgs false
set_option linter.unusedVariables false
/- Plain side: arguments of their types are trees of this program. -/
namespace Go.Proofs.YtfelodpbejdhlaaDoor.Ra
open Go

theorem is_str {t : T} (h : Typed env Y_string t) : IsStr t := h.str_inv rfl
theorem is_val : ∀ {ty : Nat} {t : T}, Typed env ty t → (ty = Y_laws_Value → IsVal maxLen t) ∧ (ty = Y_s_laws_Value → ∃ es, t = .sl es ∧ es.length ≤ maxLen ∧ ∀ x ∈ es, IsVal maxLen x) := by
  intro ty t h
  induction h with
  | @int ty k n h1 h2 => exact ⟨fun e => by subst e; exact absurd h1 (fun h => by cases h), fun e => by subst e; exact absurd h1 (fun h => by cases h)⟩
  | @bool ty b h1 => exact ⟨fun e => by subst e; exact absurd h1 (fun h => by cases h), fun e => by subst e; exact absurd h1 (fun h => by cases h)⟩
  | @str ty s h1 h2 => exact ⟨fun e => by subst e; exact absurd h1 (fun h => by cases h), fun e => by subst e; exact absurd h1 (fun h => by cases h)⟩
  | @sl ty e es h1 h2 h3 ih =>
    refine ⟨fun e => by subst e; exact absurd h1 (fun h => by cases h), fun e => ?_⟩
    subst e
    have he : e = Y_laws_Value := by have : env.ty Y_s_laws_Value = .sl Y_laws_Value := rfl
                                     rw [this] at h1; cases h1; rfl
    exact ⟨es, rfl, h2, fun x hx => (ih x hx).1 he⟩
  | @st ty fs ts h1 h2 h3 ih =>
    refine ⟨fun e => ?_, fun e => by subst e; exact absurd h1 (fun h => by cases h)⟩
    subst e
    have hfs : fs = [Y_string, Y_int, Y_s_laws_Value, Y_s_int] := by have : env.ty Y_laws_Value = .st [Y_string, Y_int, Y_s_laws_Value, Y_s_int] := rfl
                                                                     rw [this] at h1; cases h1; rfl
    subst hfs
    match ts, h2 with
    | [a, b, c, d], _ =>
      obtain ⟨s, rfl, hs⟩ := (h3 0 _ a rfl rfl).str_inv (show env.ty Y_string = .str from rfl)
      obtain ⟨n, rfl, hn1, hn2⟩ := (h3 1 _ b rfl rfl).int_inv (show env.ty Y_int = .int .i64 from rfl)
      obtain ⟨ps, rfl, hp1, hp2⟩ := (ih 2 _ c rfl rfl).2 rfl
      obtain ⟨is, rfl, hi1, hi2⟩ := (h3 3 _ d rfl rfl).sl_inv (show env.ty Y_s_int = .sl Y_int from rfl)
      refine .mk hs hn1 hn2 hp1 hi1 (fun x hx => ?_) hp2
      obtain ⟨m, hm, _⟩ := (hi2 x hx).int_inv (show env.ty Y_int = .int .i64 from rfl)
      exact ⟨m, hm⟩
theorem is_rec {t : T} (h : Typed env Y_laws_Record t) : IsRec maxLen t := by
  obtain ⟨ts, rfl, h2, h3⟩ := h.st_inv (show env.ty Y_laws_Record = .st [Y_int, Y_s_string] from rfl)
  match ts, h2 with
  | [a, b], _ =>
    obtain ⟨n, rfl, hn1, hn2⟩ := (h3 0 _ a rfl rfl).int_inv (show env.ty Y_int = .int .i64 from rfl)
    obtain ⟨fs, rfl, hf1, hf2⟩ := (h3 1 _ b rfl rfl).sl_inv (show env.ty Y_s_string = .sl Y_string from rfl)
    exact ⟨n, fs, rfl, hn1, hn2, hf1, fun x hx => is_str (hf2 x hx)⟩
theorem is_recs {t : T} (h : Typed env Y_s_laws_Record t) : IsRecs maxLen t := by
  obtain ⟨es, rfl, h1, h2⟩ := h.sl_inv (show env.ty Y_s_laws_Record = .sl Y_laws_Record from rfl)
  exact ⟨es, rfl, h1, fun x hx => is_rec (h2 x hx)⟩
theorem is_kept {t : T} (h : Typed env Y_laws_Kept t) : IsKept maxLen t := by
  obtain ⟨ts, rfl, h2, h3⟩ := h.st_inv (show env.ty Y_laws_Kept = .st [Y_int, Y_laws_Value] from rfl)
  match ts, h2 with
  | [a, b], _ =>
    obtain ⟨n, rfl, hn1, hn2⟩ := (h3 0 _ a rfl rfl).int_inv (show env.ty Y_int = .int .i64 from rfl)
    exact ⟨n, b, rfl, hn1, hn2, (is_val (h3 1 _ b rfl rfl)).1 rfl⟩
theorem is_list {t : T} (h : Typed env Y_s_laws_Kept t) : IsList maxLen t := by
  obtain ⟨es, rfl, h1, h2⟩ := h.sl_inv (show env.ty Y_s_laws_Kept = .sl Y_laws_Kept from rfl)
  exact ⟨es, rfl, h1, fun x hx => is_kept (h2 x hx)⟩
end Go.Proofs.YtfelodpbejdhlaaDoor.Ra
/- Plain side: kinds of their type. -/
namespace Go.Proofs.YtfelodpbejdhlaaDoor.Ra
open Go

theorem is_kinds {t : T} (h : Typed env Y_ss_laws_Record t) : IsKinds maxLen t := by
  obtain ⟨es, rfl, h1, h2⟩ := h.sl_inv (show env.ty Y_ss_laws_Record = .sl Y_s_laws_Record from rfl)
  exact ⟨es, rfl, h1, fun x hx => is_recs (h2 x hx)⟩
end Go.Proofs.YtfelodpbejdhlaaDoor.Ra
