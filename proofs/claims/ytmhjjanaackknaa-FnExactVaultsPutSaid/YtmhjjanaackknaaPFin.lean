/- A verified evaluator for the program, part Fin of this claim. -/
import Derived.Test.YtmhjjanaackknaaPPl2
import Derived.Test.YtmhjjanaackknaaPPlT
import Derived.Test.YtmhjjanaackknaaRows
import Derived.WalkKit
import Derived.ProofKit
import Derived.OpenShut
import Derived.SizedLaws
set_option linter.unusedSimpArgs false
set_option linter.unusedVariables false
/- FnExactVaultsPut: the program's VaultsPut returns what the reference's returns, for all arguments: proved for every input, without a condition. -/
namespace Go.Proofs.Ytmhjjanaackknaa.Ra.put
open Go Go.ChangeShapes Go.WideShapes Go.ChangeAt Go.RowKit

theorem own : ownKnob Try.prog.godebug = none := by kernel_rfl
theorem lays : laidOutB Try.prog = true := by kernel_rfl
def dts : List Nat := [Y_int, Y_string, Y_ss_laws_Record, Y_s_laws_Record, Y_laws_Record, Y_s_string, Y_s_laws_Kept, Y_laws_Kept, Y_laws_Value, Y_s_laws_Value, Y_s_int]
theorem dataOk : DataB env dts = true := by kernel_rfl

theorem law (ts : List T) (h : TypedAll env [Y_ss_laws_Record, Y_s_laws_Kept, Y_int, Y_laws_Value] ts) : Yields (fun k => cl env k F_laws_FnExactVaultsPut ts) [.bool true] := by
  match ts, h with
  | [a, b, o, c], ⟨h1, h2, h4, h3, _⟩ =>
    obtain ⟨ow, rfl, ho1, ho2⟩ := h4.int_inv (show env.ty Y_int = .int .i64 from rfl)
    exact law_exactPut a b c ow ho1 ho2 (is_kinds h1) (is_list h2) ((is_val h3).1 rfl)

theorem contract (H : Type) (enc : TypeId × Value → H) (W : World) (base : Nat) (args : Array Value) (ds gs : List (DataW H)) (before : List MemPlace)
    (hval : ∀ (j : Nat) t v, Try.f7.params[j]? = some t → args[j]? = some v → Value.okWide Try.prog W .any base t v)
    (hW : DataW.Whole enc Try.prog Try.f7.params.toList Rows.fnExactVaultsPutSpec.vars false W args.toList ds gs before) :
    Calls Try.prog 7 args W fun e W' => ∃ v, e = .returned v ∧ Rows.fnExactVaultsPutSpec.post enc Try.prog Try.f7 false true false false W args v W' := by
  have hW' := hW
  obtain ⟨p, q, hA0, hV, rfl, hfz, hnd⟩ := hW
  have hA : DataW.TrodAll enc Try.prog W 0 (fun _ => true) true [Y_ss_laws_Record, Y_s_laws_Kept, Y_int, Y_laws_Value] args.toList ds p := hA0
  obtain ⟨rfl, rfl⟩ := trodVars_none hV
  obtain ⟨d0, d1, d2, d3, rfl⟩ : ∃ d0 d1 d2 d3, ds = [d0, d1, d2, d3] := by
    obtain ⟨v0, vs0, d0, ds0, p0, q0, _, rfl, _, _, r0⟩ := trodAll_cons hA
    obtain ⟨v1, vs1, d1, ds1, p1, q1, _, rfl, _, _, r1⟩ := trodAll_cons r0
    obtain ⟨v2, vs2, d2, ds2, p2, q2, _, rfl, _, _, r2⟩ := trodAll_cons r1
    obtain ⟨v3, vs3, d3, ds3, p3, q3, _, rfl, _, _, r3⟩ := trodAll_cons r2
    obtain ⟨_, rfl, _⟩ := trodAll_nil r3
    exact ⟨d0, d1, d2, d3, rfl⟩
  refine (law_calls (f := 7) (fi := fi_laws_FnExactVaultsPut) (bt := Y_bool) (tys := [Y_ss_laws_Record, Y_s_laws_Kept, Y_int, Y_laws_Value]) (dts := dts) prOk fnsOk fisOk mixed dataOk rfl rfl rfl rfl (by decide) law Try.params7 @hval hA).mono fun e W' ⟨he, bel⟩ => ?_
  subst he
  have back := args_back lays bel [Y_ss_laws_Record, Y_s_laws_Kept, Y_int, Y_laws_Value] args.toList _ p (by intro t ht; simp only [List.mem_cons, List.not_mem_nil, or_false] at ht; rcases ht with rfl | rfl | rfl | rfl <;> exact ⟨by kernel_rfl, of_decide_eq_true (by kernel_rfl)⟩) hA
  exact ⟨_, rfl, _, _, _, [], p, [], hW', trodAll_mk1 (shut_bool Try.underlying4 _), back, rfl, bel.frame _, fun h => by cases h⟩

set_option maxRecDepth 100000 in
theorem lifted (os : Os) (started : os.Started) (H : Type) (enc : TypeId × Value → H) :
    ReturnsInHanded {} Try.checked os 7 .any (Rows.fnExactVaultsPutSpec.pre6 enc Try.prog Try.f7 Rows.fnExactVaultsPutRow.domain false) (Rows.fnExactVaultsPutSpec.post enc Try.prog Try.f7 false true false false) := by
  refine returnsInHanded_of_change_sized (C := Try.checked) own started (by kernel_rfl) Try.func7
    (ChangeSpec.witness6 (enc := enc) (C := Try.checked) false ⟨#[], #[.slice none 0 0, .slice none 0 0, .int .i64 0, .agg #[.string ByteArray.empty, .int .i64 0, .slice none 0 0, .slice none 0 0]], []⟩ 8 (by kernel_rfl) (by kernel_rfl) (by kernel_rfl) (by kernel_rfl)) ?_
  intro W base args ds gs before hval hW _ _ _
  exact contract H enc W base args ds gs before @hval hW

theorem over : Rows.fnExactVaultsPutRow.holds Try.pinned (OpenSpec.ofChange Rows.fnExactVaultsPutSpec) :=
  OpenClaim.holds_of_wide 7 Try.f7 rfl rfl rfl rfl rfl rfl rfl ⟨rfl, rfl, rfl, rfl, rfl⟩ rfl rfl rfl rfl rfl (by kernel_rfl) Try.func7 (by kernel_rfl)
    (of_decide_eq_true (by kernel_rfl)) (by unfold Func.isWrapper; first | (rw [if_pos (by decide +kernel)]; kernel_rfl) | (rw [if_neg (by decide +kernel)]; exact ⟨rfl, rfl⟩))
    (fun os started H enc _ => lifted os started H enc)
theorem proved : Rows.FnExactVaultsPutSaid := over
end Go.Proofs.Ytmhjjanaackknaa.Ra.put
namespace Go.Proofs.Ytmhjjanaackknaa
/-- The statement, under a short name. -/
theorem exactVaultsPut_holds : Rows.FnExactVaultsPutSaid := Ra.put.proved
end Go.Proofs.Ytmhjjanaackknaa
