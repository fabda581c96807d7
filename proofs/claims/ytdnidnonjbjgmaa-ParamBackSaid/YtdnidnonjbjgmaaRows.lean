/-
  No cell of these rows narrows 'for every input' (looked for: loops, veiled, ifaces, maps, wideKeys, modest, calm, conditions, laid).
  DERIVED. THE GIVEN ROWS OF THIS SEAT. 5 by the template 'for every input the law returns true; each argument reads behind the call as it read before'; 0 by the template 'total and deterministic' (their statements: YtdnidnonjbjgmaaTotals.lean).
  GIVEN WITH THE SEED: the statements are not yours to turn. If you find one false, say at which input.
  Laid BY PROGRAM, IN A SANDBOX (cutbox-rows.mjs): the forced cells as the released guide's own fill.sh prints them over the translation c52fc651799f3de6… (all of the seat's roots in one cut). By AI agents, Wed Nov 11 2026. No macro, syntax, notation, axiom, sorry.
-/
import Derived.Test.YtdnidnonjbjgmaaChecked
import GoSem.Claim
import GoSem.ClaimJoined
import GoSem.ClaimMapViews
import Derived.JoinedTies
import Derived.KernelRfl
namespace Go.Proofs.Ytdnidnonjbjgmaa
/- THE CELL 'sum', in the pinned program and in every row, IS THE sha256 OF THE DUMP (.gsa) THAT YtdnidnonjbjgmaaProg.lean LOADS. Nothing in Lean hashes anything: it is a label: what it is worth is what the hold of that sum in a sandbox is worth. -/
noncomputable def Try.pinned : Pinned := { name := "ytdnidnonjbjgmaa", sum := "c52fc651799f3de6f7b4fb4da779f07a29ff27fb03b721a08dbc8aea6a15cc71", checked := Try.checked }
namespace Rows
def none {H : Type} : Left H := { results := [], args := [] }

/-- 'liverylaw06.ParamRoom': WHATEVER THE INPUT: true; the input reads as it did. -/
def paramRoomSpec : ChangeSpec := { name := "paramRoom", fn := fun _ => fun
  | [d] => { results := [.lit (.bool true)], args := [d] }
  | _ => none }
def paramRoomRow : OpenClaim := { program := "ytdnidnonjbjgmaa", sum := "c52fc651799f3de6f7b4fb4da779f07a29ff27fb03b721a08dbc8aea6a15cc71", func := "livery/liverylaw06.ParamRoom", spec := "paramRoom", apart := false }
def ParamRoomSaid : Prop := paramRoomRow.holds Try.pinned (OpenSpec.ofChange paramRoomSpec)

/-- ITS FALSE NEIGHBOUR: 'it returns false'. Refute it at one input. -/
def paramRoomWrong : ChangeSpec := { name := "paramRoom", fn := fun _ => fun
  | [d] => { results := [.lit (.bool false)], args := [d] }
  | _ => none }
def ParamRoomWrongFalsely : Prop := paramRoomRow.holds Try.pinned (OpenSpec.ofChange paramRoomWrong)

/-- 'liverylaw06.ParamSets': WHATEVER THE INPUT: true; the input reads as it did. -/
def paramSetsSpec : ChangeSpec := { name := "paramSets", fn := fun _ => fun
  | [d1, d2] => { results := [.lit (.bool true)], args := [d1, d2] }
  | _ => none }
def paramSetsRow : OpenClaim := { program := "ytdnidnonjbjgmaa", sum := "c52fc651799f3de6f7b4fb4da779f07a29ff27fb03b721a08dbc8aea6a15cc71", func := "livery/liverylaw06.ParamSets", spec := "paramSets", unfollowed := true, recurses := true, apart := false }
def ParamSetsSaid : Prop := paramSetsRow.holds Try.pinned (OpenSpec.ofChange paramSetsSpec)

/-- ITS FALSE NEIGHBOUR: 'it returns false'. Refute it at one input. -/
def paramSetsWrong : ChangeSpec := { name := "paramSets", fn := fun _ => fun
  | [d1, d2] => { results := [.lit (.bool false)], args := [d1, d2] }
  | _ => none }
def ParamSetsWrongFalsely : Prop := paramSetsRow.holds Try.pinned (OpenSpec.ofChange paramSetsWrong)

/-- 'liverylaw06.ParamLens': WHATEVER THE INPUT: true; the input reads as it did. -/
def paramLensSpec : ChangeSpec := { name := "paramLens", fn := fun _ => fun
  | [d1, d2, d3] => { results := [.lit (.bool true)], args := [d1, d2, d3] }
  | _ => none }
def paramLensRow : OpenClaim := { program := "ytdnidnonjbjgmaa", sum := "c52fc651799f3de6f7b4fb4da779f07a29ff27fb03b721a08dbc8aea6a15cc71", func := "livery/liverylaw06.ParamLens", spec := "paramLens", apart := false }
def ParamLensSaid : Prop := paramLensRow.holds Try.pinned (OpenSpec.ofChange paramLensSpec)

/-- ITS FALSE NEIGHBOUR: 'it returns false'. Refute it at one input. -/
def paramLensWrong : ChangeSpec := { name := "paramLens", fn := fun _ => fun
  | [d1, d2, d3] => { results := [.lit (.bool false)], args := [d1, d2, d3] }
  | _ => none }
def ParamLensWrongFalsely : Prop := paramLensRow.holds Try.pinned (OpenSpec.ofChange paramLensWrong)

/-- 'liverylaw06.ParamNames': WHATEVER THE INPUT: true; the input reads as it did. -/
def paramNamesSpec : ChangeSpec := { name := "paramNames", fn := fun _ => fun
  | [d1, d2, d3] => { results := [.lit (.bool true)], args := [d1, d2, d3] }
  | _ => none }
def paramNamesRow : OpenClaim := { program := "ytdnidnonjbjgmaa", sum := "c52fc651799f3de6f7b4fb4da779f07a29ff27fb03b721a08dbc8aea6a15cc71", func := "livery/liverylaw06.ParamNames", spec := "paramNames", unfollowed := true, recurses := true, apart := false }
def ParamNamesSaid : Prop := paramNamesRow.holds Try.pinned (OpenSpec.ofChange paramNamesSpec)

/-- ITS FALSE NEIGHBOUR: 'it returns false'. Refute it at one input. -/
def paramNamesWrong : ChangeSpec := { name := "paramNames", fn := fun _ => fun
  | [d1, d2, d3] => { results := [.lit (.bool false)], args := [d1, d2, d3] }
  | _ => none }
def ParamNamesWrongFalsely : Prop := paramNamesRow.holds Try.pinned (OpenSpec.ofChange paramNamesWrong)

/-- 'liverylaw06.ParamBack': WHATEVER THE INPUT: true; the input reads as it did. -/
def paramBackSpec : ChangeSpec := { name := "paramBack", fn := fun _ => fun
  | [d1, d2] => { results := [.lit (.bool true)], args := [d1, d2] }
  | _ => none }
def paramBackRow : OpenClaim := { program := "ytdnidnonjbjgmaa", sum := "c52fc651799f3de6f7b4fb4da779f07a29ff27fb03b721a08dbc8aea6a15cc71", func := "livery/liverylaw06.ParamBack", spec := "paramBack", unfollowed := true, recurses := true, apart := false }
def ParamBackSaid : Prop := paramBackRow.holds Try.pinned (OpenSpec.ofChange paramBackSpec)

/-- ITS FALSE NEIGHBOUR: 'it returns false'. Refute it at one input. -/
def paramBackWrong : ChangeSpec := { name := "paramBack", fn := fun _ => fun
  | [d1, d2] => { results := [.lit (.bool false)], args := [d1, d2] }
  | _ => none }
def ParamBackWrongFalsely : Prop := paramBackRow.holds Try.pinned (OpenSpec.ofChange paramBackWrong)

/- THE SECOND FORM. 'bulk': how many values and letters a reading holds, each counted each time it is reached (what is shared counts as often as it is met; a slice's spare places count too). A statement '..UptoSaid' is the law's where the arguments, and the package variables that the reading takes, are together of bulk at most 1048576: NARROWER than '..Said'. Prove '..Said' where nothing that the law and all that it calls make is longer than what came in: it says more and counts as full. Else prove '..UptoSaid'. A law counts once. -/
mutual
def uptoBulk {H : Type} : DataW H → Nat
  | .lit (.string bytes) => bytes.length + 1
  | .lit _ => 1
  | .nil => 1
  | .ptr d => uptoBulk d + 1
  | .slice elems spare => uptoBulkAll elems + uptoBulkAll spare + 1
  | .agg parts => uptoBulkAll parts + 1
  | .iface _ d => uptoBulk d + 1
  | .map entries => uptoBulkEntries entries + 1
  | .held _ => 1
def uptoBulkAll {H : Type} : List (DataW H) → Nat
  | [] => 0
  | d :: r => uptoBulk d + uptoBulkAll r
def uptoBulkEntries {H : Type} : List (Lit × DataW H) → Nat
  | [] => 0
  | x :: r => uptoBulkEntry x + uptoBulkEntries r
def uptoBulkEntry {H : Type} : Lit × DataW H → Nat
  | (.string bytes, d) => bytes.length + uptoBulk d + 1
  | (_, d) => uptoBulk d + 1
 end
def uptoSmall : (H : Type) → List (DataW H) → Bool := fun _ ds => decide (uptoBulkAll ds ≤ 1048576)
def OpenSpec.upto (s : _root_.Go.ChangeSpec) : _root_.Go.OpenSpec := { _root_.Go.OpenSpec.ofChange s with cond := some uptoSmall }

/-- 'liverylaw06.ParamRoom', WHERE WHAT IT READS IS OF BULK AT MOST 1048576: true; the input reads as it did. -/
def paramRoomUptoRow : OpenClaim := { program := "ytdnidnonjbjgmaa", sum := "c52fc651799f3de6f7b4fb4da779f07a29ff27fb03b721a08dbc8aea6a15cc71", func := "livery/liverylaw06.ParamRoom", spec := "paramRoom", apart := false, narrowed := true }
def ParamRoomUptoSaid : Prop := paramRoomUptoRow.holds Try.pinned (OpenSpec.upto paramRoomSpec)

/-- 'liverylaw06.ParamSets', WHERE WHAT IT READS IS OF BULK AT MOST 1048576: true; the input reads as it did. -/
def paramSetsUptoRow : OpenClaim := { program := "ytdnidnonjbjgmaa", sum := "c52fc651799f3de6f7b4fb4da779f07a29ff27fb03b721a08dbc8aea6a15cc71", func := "livery/liverylaw06.ParamSets", spec := "paramSets", unfollowed := true, recurses := true, apart := false, narrowed := true }
def ParamSetsUptoSaid : Prop := paramSetsUptoRow.holds Try.pinned (OpenSpec.upto paramSetsSpec)

/-- 'liverylaw06.ParamLens', WHERE WHAT IT READS IS OF BULK AT MOST 1048576: true; the input reads as it did. -/
def paramLensUptoRow : OpenClaim := { program := "ytdnidnonjbjgmaa", sum := "c52fc651799f3de6f7b4fb4da779f07a29ff27fb03b721a08dbc8aea6a15cc71", func := "livery/liverylaw06.ParamLens", spec := "paramLens", apart := false, narrowed := true }
def ParamLensUptoSaid : Prop := paramLensUptoRow.holds Try.pinned (OpenSpec.upto paramLensSpec)

/-- 'liverylaw06.ParamNames', WHERE WHAT IT READS IS OF BULK AT MOST 1048576: true; the input reads as it did. -/
def paramNamesUptoRow : OpenClaim := { program := "ytdnidnonjbjgmaa", sum := "c52fc651799f3de6f7b4fb4da779f07a29ff27fb03b721a08dbc8aea6a15cc71", func := "livery/liverylaw06.ParamNames", spec := "paramNames", unfollowed := true, recurses := true, apart := false, narrowed := true }
def ParamNamesUptoSaid : Prop := paramNamesUptoRow.holds Try.pinned (OpenSpec.upto paramNamesSpec)

/-- 'liverylaw06.ParamBack', WHERE WHAT IT READS IS OF BULK AT MOST 1048576: true; the input reads as it did. -/
def paramBackUptoRow : OpenClaim := { program := "ytdnidnonjbjgmaa", sum := "c52fc651799f3de6f7b4fb4da779f07a29ff27fb03b721a08dbc8aea6a15cc71", func := "livery/liverylaw06.ParamBack", spec := "paramBack", unfollowed := true, recurses := true, apart := false, narrowed := true }
def ParamBackUptoSaid : Prop := paramBackUptoRow.holds Try.pinned (OpenSpec.upto paramBackSpec)

end Rows
end Go.Proofs.Ytdnidnonjbjgmaa
