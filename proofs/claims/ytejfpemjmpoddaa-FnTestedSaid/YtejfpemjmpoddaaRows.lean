/-
  NARROWER THAN 'FOR EVERY INPUT', by the rows' own cells (each row's printed sentence says how): FnExactPutPtr: loops · FnExactPatchOne: loops · FnExactPatchAll: loops.
  DERIVED. THE GIVEN ROWS OF THIS SEAT. 9 by the template 'for every input the law returns true; each argument reads behind the call as it read before'; 0 by the template 'total and deterministic' (their statements: YtejfpemjmpoddaaTotals.lean).
  GIVEN WITH THE SEED: the statements are not yours to turn. If you find one false, say at which input.
  Laid BY PROGRAM, IN A SANDBOX (cutbox-rows.mjs): the forced cells as the released guide's own fill.sh prints them over the translation 691ae8c90d171138… (all of the seat's roots in one cut). By AI agents, Wed Nov 11 2026. No macro, syntax, notation, axiom, sorry.
-/
import Derived.Test.YtejfpemjmpoddaaChecked
import GoSem.Claim
import GoSem.ClaimJoined
import GoSem.ClaimMapViews
import Derived.JoinedTies
import Derived.KernelRfl
namespace Go.Proofs.Ytejfpemjmpoddaa
/- THE CELL 'sum', in the pinned program and in every row, IS THE sha256 OF THE DUMP (.gsa) THAT YtejfpemjmpoddaaProg.lean LOADS. Nothing in Lean hashes anything: it is a label: what it is worth is what the hold of that sum in a sandbox is worth. -/
noncomputable def Try.pinned : Pinned := { name := "ytejfpemjmpoddaa", sum := "691ae8c90d1711384feeda53e5391033f59f319ed4352e70e35adaa29b0723f2", checked := Try.checked }
namespace Rows
def none {H : Type} : Left H := { results := [], args := [] }

/-- 'laws.FnExactPutPtr': WHATEVER THE INPUT: true; the input reads as it did. -/
def fnExactPutPtrSpec : ChangeSpec := { name := "fnExactPutPtr", fn := fun _ => fun
  | [d1, d2, d3] => { results := [.lit (.bool true)], args := [d1, d2, d3] }
  | _ => none }
def fnExactPutPtrRow : OpenClaim := { program := "ytejfpemjmpoddaa", sum := "691ae8c90d1711384feeda53e5391033f59f319ed4352e70e35adaa29b0723f2", func := "loop.example/g00465/laws.FnExactPutPtr", spec := "fnExactPutPtr", inPlace := ["slices.overlaps[string]", "slices.overlaps[loop.example/g00465/impl.Node]"], unfollowed := true, recurses := true, loops := true, apart := false }
def FnExactPutPtrSaid : Prop := fnExactPutPtrRow.holds Try.pinned (OpenSpec.ofChange fnExactPutPtrSpec)

/-- ITS FALSE NEIGHBOUR: 'it returns false'. Refute it at one input. -/
def fnExactPutPtrWrong : ChangeSpec := { name := "fnExactPutPtr", fn := fun _ => fun
  | [d1, d2, d3] => { results := [.lit (.bool false)], args := [d1, d2, d3] }
  | _ => none }
def FnExactPutPtrWrongFalsely : Prop := fnExactPutPtrRow.holds Try.pinned (OpenSpec.ofChange fnExactPutPtrWrong)

/-- 'laws.FnTested': WHATEVER THE INPUT: true; the input reads as it did. -/
def fnTestedSpec : ChangeSpec := { name := "fnTested", fn := fun _ => fun
  | [d] => { results := [.lit (.bool true)], args := [d] }
  | _ => none }
def fnTestedRow : OpenClaim := { program := "ytejfpemjmpoddaa", sum := "691ae8c90d1711384feeda53e5391033f59f319ed4352e70e35adaa29b0723f2", func := "loop.example/g00465/laws.FnTested", spec := "fnTested", inPlace := ["slices.overlaps[string]", "slices.overlaps[loop.example/g00465/impl.Node]"], unfollowed := true, recurses := true, apart := false }
def FnTestedSaid : Prop := fnTestedRow.holds Try.pinned (OpenSpec.ofChange fnTestedSpec)

/-- ITS FALSE NEIGHBOUR: 'it returns false'. Refute it at one input. -/
def fnTestedWrong : ChangeSpec := { name := "fnTested", fn := fun _ => fun
  | [d] => { results := [.lit (.bool false)], args := [d] }
  | _ => none }
def FnTestedWrongFalsely : Prop := fnTestedRow.holds Try.pinned (OpenSpec.ofChange fnTestedWrong)

/-- 'laws.FnHists': WHATEVER THE INPUT: true; the input reads as it did. -/
def fnHistsSpec : ChangeSpec := { name := "fnHists", fn := fun _ => fun
  | [d] => { results := [.lit (.bool true)], args := [d] }
  | _ => none }
def fnHistsRow : OpenClaim := { program := "ytejfpemjmpoddaa", sum := "691ae8c90d1711384feeda53e5391033f59f319ed4352e70e35adaa29b0723f2", func := "loop.example/g00465/laws.FnHists", spec := "fnHists", inPlace := ["internal/bytealg.IndexByteString"], apart := false }
def FnHistsSaid : Prop := fnHistsRow.holds Try.pinned (OpenSpec.ofChange fnHistsSpec)

/-- ITS FALSE NEIGHBOUR: 'it returns false'. Refute it at one input. -/
def fnHistsWrong : ChangeSpec := { name := "fnHists", fn := fun _ => fun
  | [d] => { results := [.lit (.bool false)], args := [d] }
  | _ => none }
def FnHistsWrongFalsely : Prop := fnHistsRow.holds Try.pinned (OpenSpec.ofChange fnHistsWrong)

/-- 'laws.FnPutThere': WHATEVER THE INPUT: true; the input reads as it did. -/
def fnPutThereSpec : ChangeSpec := { name := "fnPutThere", fn := fun _ => fun
  | [d] => { results := [.lit (.bool true)], args := [d] }
  | _ => none }
def fnPutThereRow : OpenClaim := { program := "ytejfpemjmpoddaa", sum := "691ae8c90d1711384feeda53e5391033f59f319ed4352e70e35adaa29b0723f2", func := "loop.example/g00465/laws.FnPutThere", spec := "fnPutThere", inPlace := ["slices.overlaps[string]", "slices.overlaps[loop.example/g00465/impl.Node]"], unfollowed := true, recurses := true, apart := false }
def FnPutThereSaid : Prop := fnPutThereRow.holds Try.pinned (OpenSpec.ofChange fnPutThereSpec)

/-- ITS FALSE NEIGHBOUR: 'it returns false'. Refute it at one input. -/
def fnPutThereWrong : ChangeSpec := { name := "fnPutThere", fn := fun _ => fun
  | [d] => { results := [.lit (.bool false)], args := [d] }
  | _ => none }
def FnPutThereWrongFalsely : Prop := fnPutThereRow.holds Try.pinned (OpenSpec.ofChange fnPutThereWrong)

/-- 'laws.FnExactJudgeBounds': WHATEVER THE INPUT: true; the input reads as it did. -/
def fnExactJudgeBoundsSpec : ChangeSpec := { name := "fnExactJudgeBounds", fn := fun _ => fun
  | [d] => { results := [.lit (.bool true)], args := [d] }
  | _ => none }
def fnExactJudgeBoundsRow : OpenClaim := { program := "ytejfpemjmpoddaa", sum := "691ae8c90d1711384feeda53e5391033f59f319ed4352e70e35adaa29b0723f2", func := "loop.example/g00465/laws.FnExactJudgeBounds", spec := "fnExactJudgeBounds", inPlace := ["internal/bytealg.IndexByteString"], unfollowed := true, recurses := true, apart := false }
def FnExactJudgeBoundsSaid : Prop := fnExactJudgeBoundsRow.holds Try.pinned (OpenSpec.ofChange fnExactJudgeBoundsSpec)

/-- ITS FALSE NEIGHBOUR: 'it returns false'. Refute it at one input. -/
def fnExactJudgeBoundsWrong : ChangeSpec := { name := "fnExactJudgeBounds", fn := fun _ => fun
  | [d] => { results := [.lit (.bool false)], args := [d] }
  | _ => none }
def FnExactJudgeBoundsWrongFalsely : Prop := fnExactJudgeBoundsRow.holds Try.pinned (OpenSpec.ofChange fnExactJudgeBoundsWrong)

/-- 'laws.FnExactJudgeVers': WHATEVER THE INPUT: true; the input reads as it did. -/
def fnExactJudgeVersSpec : ChangeSpec := { name := "fnExactJudgeVers", fn := fun _ => fun
  | [d] => { results := [.lit (.bool true)], args := [d] }
  | _ => none }
def fnExactJudgeVersRow : OpenClaim := { program := "ytejfpemjmpoddaa", sum := "691ae8c90d1711384feeda53e5391033f59f319ed4352e70e35adaa29b0723f2", func := "loop.example/g00465/laws.FnExactJudgeVers", spec := "fnExactJudgeVers", inPlace := ["internal/bytealg.IndexByteString"], unfollowed := true, recurses := true, apart := false }
def FnExactJudgeVersSaid : Prop := fnExactJudgeVersRow.holds Try.pinned (OpenSpec.ofChange fnExactJudgeVersSpec)

/-- ITS FALSE NEIGHBOUR: 'it returns false'. Refute it at one input. -/
def fnExactJudgeVersWrong : ChangeSpec := { name := "fnExactJudgeVers", fn := fun _ => fun
  | [d] => { results := [.lit (.bool false)], args := [d] }
  | _ => none }
def FnExactJudgeVersWrongFalsely : Prop := fnExactJudgeVersRow.holds Try.pinned (OpenSpec.ofChange fnExactJudgeVersWrong)

/-- 'laws.FnPatches': WHATEVER THE INPUT: true; the input reads as it did. -/
def fnPatchesSpec : ChangeSpec := { name := "fnPatches", fn := fun _ => fun
  | [d] => { results := [.lit (.bool true)], args := [d] }
  | _ => none }
def fnPatchesRow : OpenClaim := { program := "ytejfpemjmpoddaa", sum := "691ae8c90d1711384feeda53e5391033f59f319ed4352e70e35adaa29b0723f2", func := "loop.example/g00465/laws.FnPatches", spec := "fnPatches", inPlace := ["slices.overlaps[string]", "slices.overlaps[loop.example/g00465/impl.Node]"], unfollowed := true, recurses := true, apart := false }
def FnPatchesSaid : Prop := fnPatchesRow.holds Try.pinned (OpenSpec.ofChange fnPatchesSpec)

/-- ITS FALSE NEIGHBOUR: 'it returns false'. Refute it at one input. -/
def fnPatchesWrong : ChangeSpec := { name := "fnPatches", fn := fun _ => fun
  | [d] => { results := [.lit (.bool false)], args := [d] }
  | _ => none }
def FnPatchesWrongFalsely : Prop := fnPatchesRow.holds Try.pinned (OpenSpec.ofChange fnPatchesWrong)

/-- 'laws.FnExactPatchOne': WHATEVER THE INPUT: true; the input reads as it did. -/
def fnExactPatchOneSpec : ChangeSpec := { name := "fnExactPatchOne", fn := fun _ => fun
  | [d1, d2] => { results := [.lit (.bool true)], args := [d1, d2] }
  | _ => none }
def fnExactPatchOneRow : OpenClaim := { program := "ytejfpemjmpoddaa", sum := "691ae8c90d1711384feeda53e5391033f59f319ed4352e70e35adaa29b0723f2", func := "loop.example/g00465/laws.FnExactPatchOne", spec := "fnExactPatchOne", inPlace := ["slices.overlaps[string]", "slices.overlaps[loop.example/g00465/impl.Node]"], unfollowed := true, recurses := true, loops := true, apart := false }
def FnExactPatchOneSaid : Prop := fnExactPatchOneRow.holds Try.pinned (OpenSpec.ofChange fnExactPatchOneSpec)

/-- ITS FALSE NEIGHBOUR: 'it returns false'. Refute it at one input. -/
def fnExactPatchOneWrong : ChangeSpec := { name := "fnExactPatchOne", fn := fun _ => fun
  | [d1, d2] => { results := [.lit (.bool false)], args := [d1, d2] }
  | _ => none }
def FnExactPatchOneWrongFalsely : Prop := fnExactPatchOneRow.holds Try.pinned (OpenSpec.ofChange fnExactPatchOneWrong)

/-- 'laws.FnExactPatchAll': WHATEVER THE INPUT: true; the input reads as it did. -/
def fnExactPatchAllSpec : ChangeSpec := { name := "fnExactPatchAll", fn := fun _ => fun
  | [d1, d2] => { results := [.lit (.bool true)], args := [d1, d2] }
  | _ => none }
def fnExactPatchAllRow : OpenClaim := { program := "ytejfpemjmpoddaa", sum := "691ae8c90d1711384feeda53e5391033f59f319ed4352e70e35adaa29b0723f2", func := "loop.example/g00465/laws.FnExactPatchAll", spec := "fnExactPatchAll", inPlace := ["slices.overlaps[string]", "slices.overlaps[loop.example/g00465/impl.Node]"], unfollowed := true, recurses := true, loops := true, apart := false }
def FnExactPatchAllSaid : Prop := fnExactPatchAllRow.holds Try.pinned (OpenSpec.ofChange fnExactPatchAllSpec)

/-- ITS FALSE NEIGHBOUR: 'it returns false'. Refute it at one input. -/
def fnExactPatchAllWrong : ChangeSpec := { name := "fnExactPatchAll", fn := fun _ => fun
  | [d1, d2] => { results := [.lit (.bool false)], args := [d1, d2] }
  | _ => none }
def FnExactPatchAllWrongFalsely : Prop := fnExactPatchAllRow.holds Try.pinned (OpenSpec.ofChange fnExactPatchAllWrong)

/- THE SECOND FORM. 'bulk': how many values and letters a reading holds, each counted each time it is reached (what is shared counts as often as it is met; a slice's spare places count too). A statement '..UptoSaid' is the law's where the arguments, and the package variables that the reading takes, are together of bulk at most 1048576: NARROWER than '..Said'. Prove '..Said' where nothing that the law and all that it calls make is longer than what came in: it says more and counts as full. Else prove '..UptoSaid'. A law counts once. -/
mutual
def uptoBulk {H : Type} : DataW H → Nat
  | .lit (.string bytes) => bytes.length + 1
  | .lit _ => 1
  | .nil => 1
  | .ptr d => uptoBulk d + 1
  | .slice elems spare => uptoBulkAll elems + uptoBulkAll spare + 1
  | .agg parts => uptoBulkAll parts + 1
  | .iface _ d => uptoBulk d + 1
  | .map entries => uptoBulkEntries entries + 1
  | .held _ => 1
def uptoBulkAll {H : Type} : List (DataW H) → Nat
  | [] => 0
  | d :: r => uptoBulk d + uptoBulkAll r
def uptoBulkEntries {H : Type} : List (Lit × DataW H) → Nat
  | [] => 0
  | x :: r => uptoBulkEntry x + uptoBulkEntries r
def uptoBulkEntry {H : Type} : Lit × DataW H → Nat
  | (.string bytes, d) => bytes.length + uptoBulk d + 1
  | (_, d) => uptoBulk d + 1
 end
def uptoSmall : (H : Type) → List (DataW H) → Bool := fun _ ds => decide (uptoBulkAll ds ≤ 1048576)
def OpenSpec.upto (s : _root_.Go.ChangeSpec) : _root_.Go.OpenSpec := { _root_.Go.OpenSpec.ofChange s with cond := some uptoSmall }

/-- 'laws.FnExactPutPtr', WHERE WHAT IT READS IS OF BULK AT MOST 1048576: true; the input reads as it did. -/
def fnExactPutPtrUptoRow : OpenClaim := { program := "ytejfpemjmpoddaa", sum := "691ae8c90d1711384feeda53e5391033f59f319ed4352e70e35adaa29b0723f2", func := "loop.example/g00465/laws.FnExactPutPtr", spec := "fnExactPutPtr", inPlace := ["slices.overlaps[string]", "slices.overlaps[loop.example/g00465/impl.Node]"], unfollowed := true, recurses := true, loops := true, apart := false, narrowed := true }
def FnExactPutPtrUptoSaid : Prop := fnExactPutPtrUptoRow.holds Try.pinned (OpenSpec.upto fnExactPutPtrSpec)

/-- 'laws.FnTested', WHERE WHAT IT READS IS OF BULK AT MOST 1048576: true; the input reads as it did. -/
def fnTestedUptoRow : OpenClaim := { program := "ytejfpemjmpoddaa", sum := "691ae8c90d1711384feeda53e5391033f59f319ed4352e70e35adaa29b0723f2", func := "loop.example/g00465/laws.FnTested", spec := "fnTested", inPlace := ["slices.overlaps[string]", "slices.overlaps[loop.example/g00465/impl.Node]"], unfollowed := true, recurses := true, apart := false, narrowed := true }
def FnTestedUptoSaid : Prop := fnTestedUptoRow.holds Try.pinned (OpenSpec.upto fnTestedSpec)

/-- 'laws.FnHists', WHERE WHAT IT READS IS OF BULK AT MOST 1048576: true; the input reads as it did. -/
def fnHistsUptoRow : OpenClaim := { program := "ytejfpemjmpoddaa", sum := "691ae8c90d1711384feeda53e5391033f59f319ed4352e70e35adaa29b0723f2", func := "loop.example/g00465/laws.FnHists", spec := "fnHists", inPlace := ["internal/bytealg.IndexByteString"], apart := false, narrowed := true }
def FnHistsUptoSaid : Prop := fnHistsUptoRow.holds Try.pinned (OpenSpec.upto fnHistsSpec)

/-- 'laws.FnPutThere', WHERE WHAT IT READS IS OF BULK AT MOST 1048576: true; the input reads as it did. -/
def fnPutThereUptoRow : OpenClaim := { program := "ytejfpemjmpoddaa", sum := "691ae8c90d1711384feeda53e5391033f59f319ed4352e70e35adaa29b0723f2", func := "loop.example/g00465/laws.FnPutThere", spec := "fnPutThere", inPlace := ["slices.overlaps[string]", "slices.overlaps[loop.example/g00465/impl.Node]"], unfollowed := true, recurses := true, apart := false, narrowed := true }
def FnPutThereUptoSaid : Prop := fnPutThereUptoRow.holds Try.pinned (OpenSpec.upto fnPutThereSpec)

/-- 'laws.FnExactJudgeBounds', WHERE WHAT IT READS IS OF BULK AT MOST 1048576: true; the input reads as it did. -/
def fnExactJudgeBoundsUptoRow : OpenClaim := { program := "ytejfpemjmpoddaa", sum := "691ae8c90d1711384feeda53e5391033f59f319ed4352e70e35adaa29b0723f2", func := "loop.example/g00465/laws.FnExactJudgeBounds", spec := "fnExactJudgeBounds", inPlace := ["internal/bytealg.IndexByteString"], unfollowed := true, recurses := true, apart := false, narrowed := true }
def FnExactJudgeBoundsUptoSaid : Prop := fnExactJudgeBoundsUptoRow.holds Try.pinned (OpenSpec.upto fnExactJudgeBoundsSpec)

/-- 'laws.FnExactJudgeVers', WHERE WHAT IT READS IS OF BULK AT MOST 1048576: true; the input reads as it did. -/
def fnExactJudgeVersUptoRow : OpenClaim := { program := "ytejfpemjmpoddaa", sum := "691ae8c90d1711384feeda53e5391033f59f319ed4352e70e35adaa29b0723f2", func := "loop.example/g00465/laws.FnExactJudgeVers", spec := "fnExactJudgeVers", inPlace := ["internal/bytealg.IndexByteString"], unfollowed := true, recurses := true, apart := false, narrowed := true }
def FnExactJudgeVersUptoSaid : Prop := fnExactJudgeVersUptoRow.holds Try.pinned (OpenSpec.upto fnExactJudgeVersSpec)

/-- 'laws.FnPatches', WHERE WHAT IT READS IS OF BULK AT MOST 1048576: true; the input reads as it did. -/
def fnPatchesUptoRow : OpenClaim := { program := "ytejfpemjmpoddaa", sum := "691ae8c90d1711384feeda53e5391033f59f319ed4352e70e35adaa29b0723f2", func := "loop.example/g00465/laws.FnPatches", spec := "fnPatches", inPlace := ["slices.overlaps[string]", "slices.overlaps[loop.example/g00465/impl.Node]"], unfollowed := true, recurses := true, apart := false, narrowed := true }
def FnPatchesUptoSaid : Prop := fnPatchesUptoRow.holds Try.pinned (OpenSpec.upto fnPatchesSpec)

/-- 'laws.FnExactPatchOne', WHERE WHAT IT READS IS OF BULK AT MOST 1048576: true; the input reads as it did. -/
def fnExactPatchOneUptoRow : OpenClaim := { program := "ytejfpemjmpoddaa", sum := "691ae8c90d1711384feeda53e5391033f59f319ed4352e70e35adaa29b0723f2", func := "loop.example/g00465/laws.FnExactPatchOne", spec := "fnExactPatchOne", inPlace := ["slices.overlaps[string]", "slices.overlaps[loop.example/g00465/impl.Node]"], unfollowed := true, recurses := true, loops := true, apart := false, narrowed := true }
def FnExactPatchOneUptoSaid : Prop := fnExactPatchOneUptoRow.holds Try.pinned (OpenSpec.upto fnExactPatchOneSpec)

/-- 'laws.FnExactPatchAll', WHERE WHAT IT READS IS OF BULK AT MOST 1048576: true; the input reads as it did. -/
def fnExactPatchAllUptoRow : OpenClaim := { program := "ytejfpemjmpoddaa", sum := "691ae8c90d1711384feeda53e5391033f59f319ed4352e70e35adaa29b0723f2", func := "loop.example/g00465/laws.FnExactPatchAll", spec := "fnExactPatchAll", inPlace := ["slices.overlaps[string]", "slices.overlaps[loop.example/g00465/impl.Node]"], unfollowed := true, recurses := true, loops := true, apart := false, narrowed := true }
def FnExactPatchAllUptoSaid : Prop := fnExactPatchAllUptoRow.holds Try.pinned (OpenSpec.upto fnExactPatchAllSpec)

end Rows
end Go.Proofs.Ytejfpemjmpoddaa
