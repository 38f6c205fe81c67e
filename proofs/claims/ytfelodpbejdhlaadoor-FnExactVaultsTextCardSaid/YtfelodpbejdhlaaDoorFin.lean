/- A verified evaluator for the program, part Fin of this claim. -/
import Derived.Test.YtfelodpbejdhlaaDoorPl2
import Derived.Test.YtfelodpbejdhlaaDoorPlT
import Derived.Test.YtfelodpbejdhlaaDoorRows
import Derived.Test.YtfelodpbejdhlaaDoorCards
import Derived.Test.YtfelodpbejdhlaaDoorTie
import Derived.WalkKit
import Derived.ProofKit
import Derived.OpenShut
import Derived.SizedLaws
import Derived.LaidMore
import Derived.MakeChecks
import Derived.Lib.LaidTab
set_option linter.unusedSimpArgs false
set_option linter.unusedVariables false
/- FnExactVaultsText: the program's VaultsText returns what the reference's returns, for all arguments: proved for every input; strconv.Itoa and strings.Join by the kit's contracts, the table as the program's text lays it. -/
namespace Go.Proofs.YtfelodpbejdhlaaDoor.Ra.vaultsText
open Go Go.ChangeShapes Go.WideShapes Go.ChangeAt Go.RowKit

theorem own : ownKnob Tryd.prog.godebug = none := by kernel_rfl
theorem lays : laidOutB Tryd.prog = true := by kernel_rfl
def tys : List Nat := [Y_ss_laws_Record, Y_s_laws_Kept]
def dts : List Nat := [Y_int, Y_string, Y_ss_laws_Record, Y_s_laws_Record, Y_laws_Record, Y_s_string, Y_s_laws_Kept, Y_laws_Kept, Y_laws_Value, Y_s_laws_Value, Y_s_int]
theorem dataOk : DataB env dts = true := by kernel_rfl

theorem law (ts : List T) (h : TypedAll env tys ts) : Yields (fun k => cl env k F_laws_FnExactVaultsText ts) [.bool true] := by
  match ts, h with
  | [a, b], ⟨h1, h2, _⟩ => exact law_exactText a b (is_kinds h1) (is_list h2)

/- ---- the table ---- -/
def laidL : List (String × DataW Unit) := Rows.fnExactVaultsTextRow.laid
theorem gT : Tryd.prog.globalNamed "internal/strconv.uint64pow10" = some 0 := by kernel_rfl
theorem gTType : (Tryd.prog.globals[0]?).map (·.type) = some 111 := by kernel_rfl
theorem cellsE : Tryd.prog.cellsOf 100 = 1 := by kernel_rfl
theorem cells111 : Tryd.prog.cellsOf 111 = 20 := by kernel_rfl
theorem door_met (os : Os) (args : Array Value) : laidMetH Tryd.prog laidL ((World.doorLaid Tryd.prog 400 os).forCall (fun _ _ => 0) ⟨#[], args, []⟩).memory :=
  laidMetH_of_parts3 (fuel := 8) (laidMet_of_run' 8 (by kernel_rfl) (by kernel_rfl)) (by kernel_rfl) (by kernel_rfl)
theorem tab_eq : (Rows.laid_internal_strconv_uint64pow10 : DataW Unit) = Lib.tabData .u64 Lib.pow10Tab := by kernel_rfl
theorem of_laid {W : World} (h : laidMetH Tryd.prog laidL W) : ∀ b cs, (b, cs) ∈ env.tab → b < W.heap.size ∧ ∀ o, W.cell? ⟨b, o, none⟩ = cs[o]? := by
  have htab : Lib.TabIs Tryd.prog W "internal/strconv.uint64pow10" .u64 Lib.pow10Tab := by
    rw [MakeChecks.laidMetH_plain _ _ _ (by kernel_rfl)] at h
    obtain ⟨ps, ⟨g0, t0, cs0, f0, p0, q0, hg0, ht0, hv0, hd0, ⟨g1, t1, cs1, f1, p1, q1, hg1, ht1, hv1, hd1, ⟨g2, t2, cs2, f2, p2, q2, hg2, ht2, hv2, hd2, _, _⟩, _⟩, _⟩, _, _⟩ := h
    obtain rfl := Option.some.inj (gT.symm.trans hg2)
    obtain rfl := Option.some.inj (gTType.symm.trans ht2)
    rw [tab_eq] at hd2
    unfold Lib.TabIs
    rw [hv2, ← Lib.cells_of_tab Tryd.underlying111 Tryd.underlying100 cellsE cells111 hd2]
  have hcell : ∀ o, W.cell? ⟨0, o, none⟩ = pow10Cells[o]? := fun o => by
    have h1 := World.var?_cell gT htab o
    rw [h1]; simp [pow10Cells]
  intro b cs hb
  have hb' : (b, cs) ∈ [((0 : Nat), pow10Cells)] := hb
  simp only [List.mem_cons, List.not_mem_nil, or_false, Prod.mk.injEq] at hb'
  obtain ⟨rfl, rfl⟩ := hb'
  exact ⟨World.block_lt_of_cell? W _ (by rw [hcell 0]; rfl), hcell⟩

theorem contract (H : Type) (enc : TypeId × Value → H) (W : World) (base : Nat) (args : Array Value) (ds gs : List (DataW H)) (before : List MemPlace)
    (hval : ∀ (j : Nat) t v, Tryd.f3.params[j]? = some t → args[j]? = some v → Value.okWide Tryd.prog W .any base t v)
    (hW : DataW.Whole enc Tryd.prog Tryd.f3.params.toList Rows.fnExactVaultsTextSpec.vars false W args.toList ds gs before) (hL : laidMetH Tryd.prog laidL W) :
    Calls Tryd.prog 3 args W fun e W' => ∃ v, e = .returned v ∧ Rows.fnExactVaultsTextSpec.post enc Tryd.prog Tryd.f3 false true false false W args v W' := by
  have hW' := hW
  obtain ⟨p, q, hA0, hV, rfl, hfz, hnd⟩ := hW
  have hA : DataW.TrodAll enc Tryd.prog W 0 (fun _ => true) true tys args.toList ds p := hA0
  obtain ⟨rfl, rfl⟩ := trodVars_none hV
  obtain ⟨d0, d1, rfl⟩ : ∃ d0 d1, ds = [d0, d1] := by
    obtain ⟨v0, vs0, d0, ds0, p0, q0, _, rfl, _, _, r0⟩ := trodAll_cons hA
    obtain ⟨v1, vs1, d1, ds1, p1, q1, _, rfl, _, _, r1⟩ := trodAll_cons r0
    obtain ⟨_, rfl, _⟩ := trodAll_nil r1
    exact ⟨d0, d1, rfl⟩
  refine (law_calls (f := 3) (fi := fi_laws_FnExactVaultsText) (bt := Y_bool) (tys := tys) (dts := dts) prOk fnsOk fisOk toldOk mixed dataOk rfl rfl rfl rfl (by decide) law (of_laid hL) Tryd.params3 @hval hA).mono fun e W' ⟨he, bel⟩ => ?_
  subst he
  have back := args_back lays bel tys args.toList _ p (by intro t ht; simp only [tys, List.mem_cons, List.not_mem_nil, or_false] at ht; rcases ht with rfl | rfl <;> exact ⟨by kernel_rfl, of_decide_eq_true (by kernel_rfl)⟩) hA
  exact ⟨_, rfl, _, _, _, [], p, [], hW', trodAll_mk1 (shut_bool Tryd.underlying4 _), back, rfl, bel.frame _, fun h => by cases h⟩

set_option maxRecDepth 100000 in
theorem lifted (os : Os) (started : os.Started) (H : Type) (enc : TypeId × Value → H) :
    ReturnsInHanded {} Tryd.checked os 3 .any (fun w args => (Rows.fnExactVaultsTextSpec.pre enc Tryd.prog Tryd.f3 [] false w args ∧ laidMetH Tryd.prog laidL w) ∧ sizedMet enc Tryd.prog Tryd.f3 (OpenSpec.ofChange Rows.fnExactVaultsTextSpec) false w args)
      (Rows.fnExactVaultsTextSpec.post enc Tryd.prog Tryd.f3 false true false false) := by
  refine returnsInHanded_of_change_and (C := Tryd.checked) (X := fun w _ => laidMetH Tryd.prog laidL w) (fun _ _ _ hh h => h.of_heap hh) own started (by kernel_rfl) Tryd.func3
    (ChangeSpec.witness_shaped (enc := enc) (C := Tryd.checked) (os := os) (X := fun w _ => laidMetH Tryd.prog laidL w) false (World.doorLaid Tryd.prog 400 os) #[.slice none 0 0, .slice none 0 0] 8 rfl
      (World.shaped_of_RefB (by kernel_rfl) (by kernel_rfl)) (by kernel_rfl) (by kernel_rfl) (by kernel_rfl) (door_met os _)) ?_
  intro W base args ds gs before hval hW _ _ hL _
  exact contract H enc W base args ds gs before @hval hW hL

theorem over : Rows.fnExactVaultsTextRow.holds Tryd.pinned (OpenSpec.ofChange Rows.fnExactVaultsTextSpec) :=
  OpenClaim.holds_of_wide 3 Tryd.f3 rfl rfl rfl rfl rfl rfl rfl ⟨rfl, rfl, rfl, rfl, rfl⟩ rfl rfl rfl rfl rfl (by kernel_rfl) Tryd.func3 (by kernel_rfl)
    (of_decide_eq_true (by kernel_rfl)) (by unfold Func.isWrapper; first | (rw [if_pos (by decide +kernel)]; kernel_rfl) | (rw [if_neg (by decide +kernel)]; exact ⟨rfl, rfl⟩))
    (fun os started H enc _ => lifted os started H enc)

theorem proved : Rows.FnExactVaultsTextCardSaid :=
  Claim7.holds_tied_plain_at .later [] [.data, .data, .data] true (true, "c27083878115867136527fef9c7c704882072580f564f5bb0114698f10bb3345") false
    over (fun _ h => by cases h) (by kernel_rfl) (fun _ h => by cases h) fnExactVaultsText_row_tie rfl ⟨rfl, rfl⟩ (by kernel_rfl) rfl
    (fun f fn hf hfn => by
      obtain rfl : f = 3 := Option.some.inj ((show Tryd.prog.funcNamed "loop.example/heirlooms/laws.FnExactVaultsText" = some 3 by kernel_rfl).symm.trans hf) |>.symm
      obtain rfl : fn = Tryd.f3 := (Option.some.inj (Tryd.func3.symm.trans hfn)).symm
      exact ⟨by kernel_rfl, fun j t ht => by
        rw [Tryd.params3] at ht
        have hm : t ∈ tys := by simpa [tys] using Array.mem_of_getElem? ht
        have hall : (tys.all fun u => !Tryd.prog.wantsStandIn u) = true := by kernel_rfl
        exact (show Tryd.prog.wantsStandIn t = false by simpa using List.all_eq_true.1 hall t hm)⟩)
    (by kernel_rfl)
end Go.Proofs.YtfelodpbejdhlaaDoor.Ra.vaultsText
namespace Go.Proofs.YtfelodpbejdhlaaDoor
/-- The statement, under a short name. -/
theorem exactVaultsText_holds : Rows.FnExactVaultsTextCardSaid := Ra.vaultsText.proved
end Go.Proofs.YtfelodpbejdhlaaDoor
