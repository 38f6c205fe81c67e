/-
  No cell of these rows narrows 'for every input' (looked for: loops, veiled, ifaces, maps, wideKeys, modest, calm, conditions, laid).
  DERIVED. THE GIVEN ROWS OF THIS SEAT. 7 by the template 'for every input the law returns true; each argument reads behind the call as it read before'; 0 by the template 'total and deterministic' (their statements: YtdmgnefllclaoaaGreatTotals.lean).
  GIVEN WITH THE SEED: the statements are not yours to turn. If you find one false, say at which input.
  Laid BY PROGRAM, IN A SANDBOX (cutbox-rows.mjs): the forced cells as the released guide's own fill.sh prints them over the translation 726ae568b6a81e25… (all of the seat's roots in one cut). By AI agents, Wed Nov 11 2026. No macro, syntax, notation, axiom, sorry.
-/
import Derived.Test.YtdmgnefllclaoaaGreatChecked
import GoSem.Claim
import GoSem.ClaimJoined
import GoSem.ClaimMapViews
import Derived.JoinedTies
import Derived.KernelRfl
namespace Go.Proofs.YtdmgnefllclaoaaGreat
/- THE CELL 'sum', in the pinned program and in every row, IS THE sha256 OF THE DUMP (.gsa) THAT YtdmgnefllclaoaaGreatProg.lean LOADS. Nothing in Lean hashes anything: it is a label: what it is worth is what the hold of that sum in a sandbox is worth. -/
noncomputable def Tryz.pinned : Pinned := { name := "ytdmgnefllclaoaagreat", sum := "726ae568b6a81e258ebecb18ba0426f5e31a9eea352daebfd68e90beaa7d8554", checked := Tryz.checked }
namespace Rows
def none {H : Type} : Left H := { results := [], args := [] }

/-- 'laws.FnShapeLent': WHATEVER THE INPUT: true; the input reads as it did. -/
def fnShapeLentSpec : ChangeSpec := { name := "fnShapeLent", fn := fun _ => fun
  | [d] => { results := [.lit (.bool true)], args := [d] }
  | _ => none }
def fnShapeLentRow : OpenClaim := { program := "ytdmgnefllclaoaagreat", sum := "726ae568b6a81e258ebecb18ba0426f5e31a9eea352daebfd68e90beaa7d8554", func := "loop.example/heirlooms/laws.FnShapeLent", spec := "fnShapeLent", recurses := true, apart := false }
def FnShapeLentSaid : Prop := fnShapeLentRow.holds Tryz.pinned (OpenSpec.ofChange fnShapeLentSpec)

/-- ITS FALSE NEIGHBOUR: 'it returns false'. Refute it at one input. -/
def fnShapeLentWrong : ChangeSpec := { name := "fnShapeLent", fn := fun _ => fun
  | [d] => { results := [.lit (.bool false)], args := [d] }
  | _ => none }
def FnShapeLentWrongFalsely : Prop := fnShapeLentRow.holds Tryz.pinned (OpenSpec.ofChange fnShapeLentWrong)

/-- 'laws.FnShapeWritten': WHATEVER THE INPUT: true; the input reads as it did. -/
def fnShapeWrittenSpec : ChangeSpec := { name := "fnShapeWritten", fn := fun _ => fun
  | [d] => { results := [.lit (.bool true)], args := [d] }
  | _ => none }
def fnShapeWrittenRow : OpenClaim := { program := "ytdmgnefllclaoaagreat", sum := "726ae568b6a81e258ebecb18ba0426f5e31a9eea352daebfd68e90beaa7d8554", func := "loop.example/heirlooms/laws.FnShapeWritten", spec := "fnShapeWritten", recurses := true, apart := false }
def FnShapeWrittenSaid : Prop := fnShapeWrittenRow.holds Tryz.pinned (OpenSpec.ofChange fnShapeWrittenSpec)

/-- ITS FALSE NEIGHBOUR: 'it returns false'. Refute it at one input. -/
def fnShapeWrittenWrong : ChangeSpec := { name := "fnShapeWritten", fn := fun _ => fun
  | [d] => { results := [.lit (.bool false)], args := [d] }
  | _ => none }
def FnShapeWrittenWrongFalsely : Prop := fnShapeWrittenRow.holds Tryz.pinned (OpenSpec.ofChange fnShapeWrittenWrong)

/-- 'laws.FnVaultsCount': WHATEVER THE INPUT: true; the input reads as it did. -/
def fnVaultsCountSpec : ChangeSpec := { name := "fnVaultsCount", fn := fun _ => fun
  | [d] => { results := [.lit (.bool true)], args := [d] }
  | _ => none }
def fnVaultsCountRow : OpenClaim := { program := "ytdmgnefllclaoaagreat", sum := "726ae568b6a81e258ebecb18ba0426f5e31a9eea352daebfd68e90beaa7d8554", func := "loop.example/heirlooms/laws.FnVaultsCount", spec := "fnVaultsCount", recurses := true, apart := false }
def FnVaultsCountSaid : Prop := fnVaultsCountRow.holds Tryz.pinned (OpenSpec.ofChange fnVaultsCountSpec)

/-- ITS FALSE NEIGHBOUR: 'it returns false'. Refute it at one input. -/
def fnVaultsCountWrong : ChangeSpec := { name := "fnVaultsCount", fn := fun _ => fun
  | [d] => { results := [.lit (.bool false)], args := [d] }
  | _ => none }
def FnVaultsCountWrongFalsely : Prop := fnVaultsCountRow.holds Tryz.pinned (OpenSpec.ofChange fnVaultsCountWrong)

/-- 'laws.FnVaultsGet': WHATEVER THE INPUT: true; the input reads as it did. -/
def fnVaultsGetSpec : ChangeSpec := { name := "fnVaultsGet", fn := fun _ => fun
  | [d] => { results := [.lit (.bool true)], args := [d] }
  | _ => none }
def fnVaultsGetRow : OpenClaim := { program := "ytdmgnefllclaoaagreat", sum := "726ae568b6a81e258ebecb18ba0426f5e31a9eea352daebfd68e90beaa7d8554", func := "loop.example/heirlooms/laws.FnVaultsGet", spec := "fnVaultsGet", unfollowed := true, recurses := true, apart := false }
def FnVaultsGetSaid : Prop := fnVaultsGetRow.holds Tryz.pinned (OpenSpec.ofChange fnVaultsGetSpec)

/-- ITS FALSE NEIGHBOUR: 'it returns false'. Refute it at one input. -/
def fnVaultsGetWrong : ChangeSpec := { name := "fnVaultsGet", fn := fun _ => fun
  | [d] => { results := [.lit (.bool false)], args := [d] }
  | _ => none }
def FnVaultsGetWrongFalsely : Prop := fnVaultsGetRow.holds Tryz.pinned (OpenSpec.ofChange fnVaultsGetWrong)

/-- 'laws.FnVaultsTake': WHATEVER THE INPUT: true; the input reads as it did. -/
def fnVaultsTakeSpec : ChangeSpec := { name := "fnVaultsTake", fn := fun _ => fun
  | [d] => { results := [.lit (.bool true)], args := [d] }
  | _ => none }
def fnVaultsTakeRow : OpenClaim := { program := "ytdmgnefllclaoaagreat", sum := "726ae568b6a81e258ebecb18ba0426f5e31a9eea352daebfd68e90beaa7d8554", func := "loop.example/heirlooms/laws.FnVaultsTake", spec := "fnVaultsTake", unfollowed := true, recurses := true, apart := false }
def FnVaultsTakeSaid : Prop := fnVaultsTakeRow.holds Tryz.pinned (OpenSpec.ofChange fnVaultsTakeSpec)

/-- ITS FALSE NEIGHBOUR: 'it returns false'. Refute it at one input. -/
def fnVaultsTakeWrong : ChangeSpec := { name := "fnVaultsTake", fn := fun _ => fun
  | [d] => { results := [.lit (.bool false)], args := [d] }
  | _ => none }
def FnVaultsTakeWrongFalsely : Prop := fnVaultsTakeRow.holds Tryz.pinned (OpenSpec.ofChange fnVaultsTakeWrong)

/-- 'laws.FnVaultsPut': WHATEVER THE INPUT: true; the input reads as it did. -/
def fnVaultsPutSpec : ChangeSpec := { name := "fnVaultsPut", fn := fun _ => fun
  | [d] => { results := [.lit (.bool true)], args := [d] }
  | _ => none }
def fnVaultsPutRow : OpenClaim := { program := "ytdmgnefllclaoaagreat", sum := "726ae568b6a81e258ebecb18ba0426f5e31a9eea352daebfd68e90beaa7d8554", func := "loop.example/heirlooms/laws.FnVaultsPut", spec := "fnVaultsPut", unfollowed := true, recurses := true, apart := false }
def FnVaultsPutSaid : Prop := fnVaultsPutRow.holds Tryz.pinned (OpenSpec.ofChange fnVaultsPutSpec)

/-- ITS FALSE NEIGHBOUR: 'it returns false'. Refute it at one input. -/
def fnVaultsPutWrong : ChangeSpec := { name := "fnVaultsPut", fn := fun _ => fun
  | [d] => { results := [.lit (.bool false)], args := [d] }
  | _ => none }
def FnVaultsPutWrongFalsely : Prop := fnVaultsPutRow.holds Tryz.pinned (OpenSpec.ofChange fnVaultsPutWrong)

/-- 'laws.FnVaultsSet': WHATEVER THE INPUT: true; the input reads as it did. -/
def fnVaultsSetSpec : ChangeSpec := { name := "fnVaultsSet", fn := fun _ => fun
  | [d] => { results := [.lit (.bool true)], args := [d] }
  | _ => none }
def fnVaultsSetRow : OpenClaim := { program := "ytdmgnefllclaoaagreat", sum := "726ae568b6a81e258ebecb18ba0426f5e31a9eea352daebfd68e90beaa7d8554", func := "loop.example/heirlooms/laws.FnVaultsSet", spec := "fnVaultsSet", unfollowed := true, recurses := true, apart := false }
def FnVaultsSetSaid : Prop := fnVaultsSetRow.holds Tryz.pinned (OpenSpec.ofChange fnVaultsSetSpec)

/-- ITS FALSE NEIGHBOUR: 'it returns false'. Refute it at one input. -/
def fnVaultsSetWrong : ChangeSpec := { name := "fnVaultsSet", fn := fun _ => fun
  | [d] => { results := [.lit (.bool false)], args := [d] }
  | _ => none }
def FnVaultsSetWrongFalsely : Prop := fnVaultsSetRow.holds Tryz.pinned (OpenSpec.ofChange fnVaultsSetWrong)

/- THE SECOND FORM. 'bulk': how many values and letters a reading holds, each counted each time it is reached (what is shared counts as often as it is met; a slice's spare places count too). A statement '..UptoSaid' is the law's where the arguments, and the package variables that the reading takes, are together of bulk at most 1048576: NARROWER than '..Said'. Prove '..Said' where nothing that the law and all that it calls make is longer than what came in: it says more and counts as full. Else prove '..UptoSaid'. A law counts once. -/
mutual
def uptoBulk {H : Type} : DataW H → Nat
  | .lit (.string bytes) => bytes.length + 1
  | .lit _ => 1
  | .nil => 1
  | .ptr d => uptoBulk d + 1
  | .slice elems spare => uptoBulkAll elems + uptoBulkAll spare + 1
  | .agg parts => uptoBulkAll parts + 1
  | .iface _ d => uptoBulk d + 1
  | .map entries => uptoBulkEntries entries + 1
  | .held _ => 1
def uptoBulkAll {H : Type} : List (DataW H) → Nat
  | [] => 0
  | d :: r => uptoBulk d + uptoBulkAll r
def uptoBulkEntries {H : Type} : List (Lit × DataW H) → Nat
  | [] => 0
  | x :: r => uptoBulkEntry x + uptoBulkEntries r
def uptoBulkEntry {H : Type} : Lit × DataW H → Nat
  | (.string bytes, d) => bytes.length + uptoBulk d + 1
  | (_, d) => uptoBulk d + 1
 end
def uptoSmall : (H : Type) → List (DataW H) → Bool := fun _ ds => decide (uptoBulkAll ds ≤ 1048576)
def OpenSpec.upto (s : _root_.Go.ChangeSpec) : _root_.Go.OpenSpec := { _root_.Go.OpenSpec.ofChange s with cond := some uptoSmall }

/-- 'laws.FnShapeLent', WHERE WHAT IT READS IS OF BULK AT MOST 1048576: true; the input reads as it did. -/
def fnShapeLentUptoRow : OpenClaim := { program := "ytdmgnefllclaoaagreat", sum := "726ae568b6a81e258ebecb18ba0426f5e31a9eea352daebfd68e90beaa7d8554", func := "loop.example/heirlooms/laws.FnShapeLent", spec := "fnShapeLent", recurses := true, apart := false, narrowed := true }
def FnShapeLentUptoSaid : Prop := fnShapeLentUptoRow.holds Tryz.pinned (OpenSpec.upto fnShapeLentSpec)

/-- 'laws.FnShapeWritten', WHERE WHAT IT READS IS OF BULK AT MOST 1048576: true; the input reads as it did. -/
def fnShapeWrittenUptoRow : OpenClaim := { program := "ytdmgnefllclaoaagreat", sum := "726ae568b6a81e258ebecb18ba0426f5e31a9eea352daebfd68e90beaa7d8554", func := "loop.example/heirlooms/laws.FnShapeWritten", spec := "fnShapeWritten", recurses := true, apart := false, narrowed := true }
def FnShapeWrittenUptoSaid : Prop := fnShapeWrittenUptoRow.holds Tryz.pinned (OpenSpec.upto fnShapeWrittenSpec)

/-- 'laws.FnVaultsCount', WHERE WHAT IT READS IS OF BULK AT MOST 1048576: true; the input reads as it did. -/
def fnVaultsCountUptoRow : OpenClaim := { program := "ytdmgnefllclaoaagreat", sum := "726ae568b6a81e258ebecb18ba0426f5e31a9eea352daebfd68e90beaa7d8554", func := "loop.example/heirlooms/laws.FnVaultsCount", spec := "fnVaultsCount", recurses := true, apart := false, narrowed := true }
def FnVaultsCountUptoSaid : Prop := fnVaultsCountUptoRow.holds Tryz.pinned (OpenSpec.upto fnVaultsCountSpec)

/-- 'laws.FnVaultsGet', WHERE WHAT IT READS IS OF BULK AT MOST 1048576: true; the input reads as it did. -/
def fnVaultsGetUptoRow : OpenClaim := { program := "ytdmgnefllclaoaagreat", sum := "726ae568b6a81e258ebecb18ba0426f5e31a9eea352daebfd68e90beaa7d8554", func := "loop.example/heirlooms/laws.FnVaultsGet", spec := "fnVaultsGet", unfollowed := true, recurses := true, apart := false, narrowed := true }
def FnVaultsGetUptoSaid : Prop := fnVaultsGetUptoRow.holds Tryz.pinned (OpenSpec.upto fnVaultsGetSpec)

/-- 'laws.FnVaultsTake', WHERE WHAT IT READS IS OF BULK AT MOST 1048576: true; the input reads as it did. -/
def fnVaultsTakeUptoRow : OpenClaim := { program := "ytdmgnefllclaoaagreat", sum := "726ae568b6a81e258ebecb18ba0426f5e31a9eea352daebfd68e90beaa7d8554", func := "loop.example/heirlooms/laws.FnVaultsTake", spec := "fnVaultsTake", unfollowed := true, recurses := true, apart := false, narrowed := true }
def FnVaultsTakeUptoSaid : Prop := fnVaultsTakeUptoRow.holds Tryz.pinned (OpenSpec.upto fnVaultsTakeSpec)

/-- 'laws.FnVaultsPut', WHERE WHAT IT READS IS OF BULK AT MOST 1048576: true; the input reads as it did. -/
def fnVaultsPutUptoRow : OpenClaim := { program := "ytdmgnefllclaoaagreat", sum := "726ae568b6a81e258ebecb18ba0426f5e31a9eea352daebfd68e90beaa7d8554", func := "loop.example/heirlooms/laws.FnVaultsPut", spec := "fnVaultsPut", unfollowed := true, recurses := true, apart := false, narrowed := true }
def FnVaultsPutUptoSaid : Prop := fnVaultsPutUptoRow.holds Tryz.pinned (OpenSpec.upto fnVaultsPutSpec)

/-- 'laws.FnVaultsSet', WHERE WHAT IT READS IS OF BULK AT MOST 1048576: true; the input reads as it did. -/
def fnVaultsSetUptoRow : OpenClaim := { program := "ytdmgnefllclaoaagreat", sum := "726ae568b6a81e258ebecb18ba0426f5e31a9eea352daebfd68e90beaa7d8554", func := "loop.example/heirlooms/laws.FnVaultsSet", spec := "fnVaultsSet", unfollowed := true, recurses := true, apart := false, narrowed := true }
def FnVaultsSetUptoSaid : Prop := fnVaultsSetUptoRow.holds Tryz.pinned (OpenSpec.upto fnVaultsSetSpec)

end Rows
end Go.Proofs.YtdmgnefllclaoaaGreat
