/- A verified evaluator for the program, part Fin of this claim. -/
import Derived.Test.YtfelodpbejdhlaaGreatDoorPl2
import Derived.Test.YtfelodpbejdhlaaGreatDoorPlT
import Derived.Test.YtfelodpbejdhlaaGreatDoorRows
import Derived.Test.YtfelodpbejdhlaaGreatDoorCards
import Derived.Test.YtfelodpbejdhlaaGreatDoorTie
import Derived.WalkKit
import Derived.ProofKit
import Derived.OpenShut
import Derived.SizedLaws
import Derived.LaidMore
import Derived.MakeChecks
import Derived.Lib.LaidTab
set_option linter.unusedSimpArgs false
set_option linter.unusedVariables false
/- FnExactCallOk: the program's CallOk returns what the reference's returns, for all arguments: proved for every input; strings.Fields by the kit's contract, its table as the program's text lays it. -/
namespace Go.Proofs.YtfelodpbejdhlaaGreatDoor.Ra.callOk
open Go Go.ChangeShapes Go.WideShapes Go.ChangeAt Go.RowKit

theorem own : ownKnob Tryz.prog.godebug = none := by kernel_rfl
theorem lays : laidOutB Tryz.prog = true := by kernel_rfl
def tys : List Nat := [Y_s_laws_Module, Y_s_laws_Kept, Y_int, Y_int, Y_int, Y_s_laws_Value, Y_int]
def dts : List Nat := [Y_int, Y_string, Y_s_laws_Module, Y_laws_Module, Y_s_laws_Func, Y_laws_Func, Y_s_laws_Ins, Y_laws_Ins, Y_s_laws_Record, Y_laws_Record, Y_s_string, Y_s_laws_Kept, Y_laws_Kept, Y_laws_Value, Y_s_laws_Value, Y_s_int]
theorem dataOk : DataB env dts = true := by kernel_rfl

theorem law (ts : List T) (h : TypedAll env tys ts) : Yields (fun k => cl env k F_laws_FnExactCallOk ts) [.bool true] := by
  match ts, h with
  | [a, b, c, d, e, f, g], ⟨h1, h2, h3, h4, h5, h6, h7, _⟩ =>
    obtain ⟨ow, rfl, _, _⟩ := h3.int_inv (show env.ty Y_int = .int .i64 from rfl)
    obtain ⟨m, rfl, _, _⟩ := h4.int_inv (show env.ty Y_int = .int .i64 from rfl)
    obtain ⟨n, rfl, _, _⟩ := h5.int_inv (show env.ty Y_int = .int .i64 from rfl)
    obtain ⟨u, rfl, _, _⟩ := h7.int_inv (show env.ty Y_int = .int .i64 from rfl)
    exact law_exactCallOk a b f ow m n u (is_shelf h1) (is_list h2) (is_vals h6)

/- ---- the table ---- -/
def laidL : List (String × DataW Unit) := Rows.fnExactCallOkRow.laid
theorem gT : Tryz.prog.globalNamed "strings.asciiSpace" = some 0 := by kernel_rfl
theorem gTType : (Tryz.prog.globals[0]?).map (·.type) = some 149 := by kernel_rfl
theorem cells5 : Tryz.prog.cellsOf 5 = 1 := by kernel_rfl
theorem cells149 : Tryz.prog.cellsOf 149 = 256 := by kernel_rfl
theorem door_met (os : Os) (args : Array Value) : laidMetH Tryz.prog laidL ((World.doorLaid Tryz.prog 400 os).forCall (fun _ _ => 0) ⟨#[], args, []⟩).memory :=
  laidMetH_of_parts3 (fuel := 8) (laidMet_of_run' 8 (by kernel_rfl) (by kernel_rfl)) (by kernel_rfl) (by kernel_rfl)
theorem tab_eq : (Rows.laid_strings_asciiSpace : DataW Unit) = Lib.tabData .u8 Lib.asciiSpaceTab := by kernel_rfl
theorem of_laid {W : World} (h : laidMetH Tryz.prog laidL W) : ∀ b cs, (b, cs) ∈ env.tab → b < W.heap.size ∧ ∀ o, W.cell? ⟨b, o, none⟩ = cs[o]? := by
  have htab : Lib.TabIs Tryz.prog W "strings.asciiSpace" .u8 Lib.asciiSpaceTab := by
    rw [MakeChecks.laidMetH_plain _ _ _ (by kernel_rfl)] at h
    obtain ⟨ps, ⟨g0, t0, cs0, f0, p0, q0, hg0, ht0, hv0, hd0, ⟨g1, t1, cs1, f1, p1, q1, hg1, ht1, hv1, hd1, _, _⟩, _⟩, _, _⟩ := h
    obtain rfl := Option.some.inj (gT.symm.trans hg1)
    obtain rfl := Option.some.inj (gTType.symm.trans ht1)
    rw [tab_eq] at hd1
    unfold Lib.TabIs
    rw [hv1, ← Lib.cells_of_tab Tryz.underlying149 Tryz.underlying5 cells5 cells149 hd1]
  have hcell : ∀ o, W.cell? ⟨0, o, none⟩ = spCells[o]? := fun o => by
    have h1 := World.var?_cell gT htab o
    rw [h1]
    have : (Lib.asciiSpaceTab.map fun z => Value.int .u8 z) = spCells := by simp [spCells, Lib.asciiSpaceTab]
    rw [this]; simp
  intro b cs hb
  have hb' : (b, cs) ∈ [((0 : Nat), spCells)] := hb
  simp only [List.mem_cons, List.not_mem_nil, or_false, Prod.mk.injEq] at hb'
  obtain ⟨rfl, rfl⟩ := hb'
  exact ⟨World.block_lt_of_cell? W _ (by rw [hcell 0]; rfl), hcell⟩

theorem contract (H : Type) (enc : TypeId × Value → H) (W : World) (base : Nat) (args : Array Value) (ds gs : List (DataW H)) (before : List MemPlace)
    (hval : ∀ (j : Nat) t v, Tryz.f3.params[j]? = some t → args[j]? = some v → Value.okWide Tryz.prog W .any base t v)
    (hW : DataW.Whole enc Tryz.prog Tryz.f3.params.toList Rows.fnExactCallOkSpec.vars false W args.toList ds gs before) (hL : laidMetH Tryz.prog laidL W) :
    Calls Tryz.prog 3 args W fun e W' => ∃ v, e = .returned v ∧ Rows.fnExactCallOkSpec.post enc Tryz.prog Tryz.f3 false true false false W args v W' := by
  have hW' := hW
  obtain ⟨p, q, hA0, hV, rfl, hfz, hnd⟩ := hW
  have hA : DataW.TrodAll enc Tryz.prog W 0 (fun _ => true) true tys args.toList ds p := hA0
  obtain ⟨rfl, rfl⟩ := trodVars_none hV
  obtain ⟨d0, d1, d2, d3, d4, d5, d6, rfl⟩ : ∃ d0 d1 d2 d3 d4 d5 d6, ds = [d0, d1, d2, d3, d4, d5, d6] := by
    obtain ⟨v0, vs0, d0, ds0, p0, q0, _, rfl, _, _, r0⟩ := trodAll_cons hA
    obtain ⟨v1, vs1, d1, ds1, p1, q1, _, rfl, _, _, r1⟩ := trodAll_cons r0
    obtain ⟨v2, vs2, d2, ds2, p2, q2, _, rfl, _, _, r2⟩ := trodAll_cons r1
    obtain ⟨v3, vs3, d3, ds3, p3, q3, _, rfl, _, _, r3⟩ := trodAll_cons r2
    obtain ⟨v4, vs4, d4, ds4, p4, q4, _, rfl, _, _, r4⟩ := trodAll_cons r3
    obtain ⟨v5, vs5, d5, ds5, p5, q5, _, rfl, _, _, r5⟩ := trodAll_cons r4
    obtain ⟨v6, vs6, d6, ds6, p6, q6, _, rfl, _, _, r6⟩ := trodAll_cons r5
    obtain ⟨_, rfl, _⟩ := trodAll_nil r6
    exact ⟨d0, d1, d2, d3, d4, d5, d6, rfl⟩
  refine (law_calls (f := 3) (fi := fi_laws_FnExactCallOk) (bt := Y_bool) (tys := tys) (dts := dts) prOk fnsOk fisOk toldOk mixed dataOk rfl rfl rfl rfl (by decide) law (of_laid hL) Tryz.params3 @hval hA).mono fun e W' ⟨he, bel⟩ => ?_
  subst he
  have back := args_back lays bel tys args.toList _ p (by intro t ht; simp only [tys, List.mem_cons, List.not_mem_nil, or_false] at ht; rcases ht with rfl | rfl | rfl | rfl | rfl | rfl | rfl <;> exact ⟨by kernel_rfl, of_decide_eq_true (by kernel_rfl)⟩) hA
  exact ⟨_, rfl, _, _, _, [], p, [], hW', trodAll_mk1 (shut_bool Tryz.underlying4 _), back, rfl, bel.frame _, fun h => by cases h⟩

set_option maxRecDepth 100000 in
theorem lifted (os : Os) (started : os.Started) (H : Type) (enc : TypeId × Value → H) :
    ReturnsInHanded {} Tryz.checked os 3 .any (fun w args => (Rows.fnExactCallOkSpec.pre enc Tryz.prog Tryz.f3 [] false w args ∧ laidMetH Tryz.prog laidL w) ∧ sizedMet enc Tryz.prog Tryz.f3 (OpenSpec.ofChange Rows.fnExactCallOkSpec) false w args)
      (Rows.fnExactCallOkSpec.post enc Tryz.prog Tryz.f3 false true false false) := by
  refine returnsInHanded_of_change_and (C := Tryz.checked) (X := fun w _ => laidMetH Tryz.prog laidL w) (fun _ _ _ hh h => h.of_heap hh) own started (by kernel_rfl) Tryz.func3
    (ChangeSpec.witness_shaped (enc := enc) (C := Tryz.checked) (os := os) (X := fun w _ => laidMetH Tryz.prog laidL w) false (World.doorLaid Tryz.prog 400 os) #[.slice none 0 0, .slice none 0 0, .int .i64 0, .int .i64 0, .int .i64 0, .slice none 0 0, .int .i64 0] 8 rfl
      (World.shaped_of_RefB (by kernel_rfl) (by kernel_rfl)) (by kernel_rfl) (by kernel_rfl) (by kernel_rfl) (door_met os _)) ?_
  intro W base args ds gs before hval hW _ _ hL _
  exact contract H enc W base args ds gs before @hval hW hL

theorem over : Rows.fnExactCallOkRow.holds Tryz.pinned (OpenSpec.ofChange Rows.fnExactCallOkSpec) :=
  OpenClaim.holds_of_wide 3 Tryz.f3 rfl rfl rfl rfl rfl rfl rfl ⟨rfl, rfl, rfl, rfl, rfl⟩ rfl rfl rfl rfl rfl (by kernel_rfl) Tryz.func3 (by kernel_rfl)
    (of_decide_eq_true (by kernel_rfl)) (by unfold Func.isWrapper; first | (rw [if_pos (by decide +kernel)]; kernel_rfl) | (rw [if_neg (by decide +kernel)]; exact ⟨rfl, rfl⟩))
    (fun os started H enc _ => lifted os started H enc)

theorem proved : Rows.FnExactCallOkCardSaid :=
  Claim7.holds_tied_plain_at .later [] [.listed, .data] true (true, "c2f25fc1f73891477f9c72c14a1e7f9f746fddebcbc2a90c9450288705ca1270") false
    over (fun _ h => by cases h) (by kernel_rfl) (fun _ h => by cases h) fnExactCallOk_row_tie rfl ⟨rfl, rfl⟩ (by kernel_rfl) rfl
    (fun f fn hf hfn => by
      obtain rfl : f = 3 := Option.some.inj ((show Tryz.prog.funcNamed "loop.example/heirlooms/laws.FnExactCallOk" = some 3 by kernel_rfl).symm.trans hf) |>.symm
      obtain rfl : fn = Tryz.f3 := (Option.some.inj (Tryz.func3.symm.trans hfn)).symm
      exact ⟨by kernel_rfl, fun j t ht => by
        rw [Tryz.params3] at ht
        have hm : t ∈ tys := by simpa [tys] using Array.mem_of_getElem? ht
        have hall : (tys.all fun u => !Tryz.prog.wantsStandIn u) = true := by kernel_rfl
        exact (show Tryz.prog.wantsStandIn t = false by simpa using List.all_eq_true.1 hall t hm)⟩)
    (by kernel_rfl)
end Go.Proofs.YtfelodpbejdhlaaGreatDoor.Ra.callOk
namespace Go.Proofs.YtfelodpbejdhlaaGreatDoor
/-- The statement, under a short name. -/
theorem exactCallOk_holds : Rows.FnExactCallOkCardSaid := Ra.callOk.proved
end Go.Proofs.YtfelodpbejdhlaaGreatDoor
