/-
  No cell of these rows narrows 'for every input' (looked for: loops, veiled, ifaces, maps, wideKeys, modest, calm, conditions, laid).
  DERIVED. THE GIVEN ROWS OF THIS SEAT. 5 by the template 'for every input the law returns true; each argument reads behind the call as it read before'; 0 by the template 'total and deterministic' (their statements: YtmmacjjmkaeakaaTotals.lean).
  GIVEN WITH THE SEED: the statements are not yours to turn. If you find one false, say at which input.
  Laid BY PROGRAM, IN A SANDBOX (cutbox-rows.mjs): the forced cells as the released guide's own fill.sh prints them over the translation 6d32893120418146… (all of the seat's roots in one cut). By AI agents, Wed Nov 11 2026. No macro, syntax, notation, axiom, sorry.
-/
import Derived.Test.YtmmacjjmkaeakaaChecked
import GoSem.Claim
import GoSem.ClaimJoined
import GoSem.ClaimMapViews
import Derived.JoinedTies
import Derived.KernelRfl
namespace Go.Proofs.Ytmmacjjmkaeakaa
/- THE CELL 'sum', in the pinned program and in every row, IS THE sha256 OF THE DUMP (.gsa) THAT YtmmacjjmkaeakaaProg.lean LOADS. Nothing in Lean hashes anything: it is a label: what it is worth is what the hold of that sum in a sandbox is worth. -/
noncomputable def Try.pinned : Pinned := { name := "ytmmacjjmkaeakaa", sum := "6d328931204181466010323e64fcb664133ce086c4dab5c74bb9f7f5ed666c2e", checked := Try.checked }
namespace Rows
def none {H : Type} : Left H := { results := [], args := [] }

/-- 'fairwaylaw28.TransferTakes': WHATEVER THE INPUT: true; the input reads as it did. -/
def transferTakesSpec : ChangeSpec := { name := "transferTakes", fn := fun _ => fun
  | [d] => { results := [.lit (.bool true)], args := [d] }
  | _ => none }
def transferTakesRow : OpenClaim := { program := "ytmmacjjmkaeakaa", sum := "6d328931204181466010323e64fcb664133ce086c4dab5c74bb9f7f5ed666c2e", func := "fairway/fairwaylaw28.TransferTakes", spec := "transferTakes", inPlace := ["internal/abi.NoEscape", "internal/bytealg.MakeNoZero"], apart := false }
def TransferTakesSaid : Prop := transferTakesRow.holds Try.pinned (OpenSpec.ofChange transferTakesSpec)

/-- ITS FALSE NEIGHBOUR: 'it returns false'. Refute it at one input. -/
def transferTakesWrong : ChangeSpec := { name := "transferTakes", fn := fun _ => fun
  | [d] => { results := [.lit (.bool false)], args := [d] }
  | _ => none }
def TransferTakesWrongFalsely : Prop := transferTakesRow.holds Try.pinned (OpenSpec.ofChange transferTakesWrong)

/-- 'fairwaylaw28.TransferEnds': WHATEVER THE INPUT: true; the input reads as it did. -/
def transferEndsSpec : ChangeSpec := { name := "transferEnds", fn := fun _ => fun
  | [d1, d2, d3] => { results := [.lit (.bool true)], args := [d1, d2, d3] }
  | _ => none }
def transferEndsRow : OpenClaim := { program := "ytmmacjjmkaeakaa", sum := "6d328931204181466010323e64fcb664133ce086c4dab5c74bb9f7f5ed666c2e", func := "fairway/fairwaylaw28.TransferEnds", spec := "transferEnds", inPlace := ["internal/abi.NoEscape", "internal/bytealg.MakeNoZero"], apart := false }
def TransferEndsSaid : Prop := transferEndsRow.holds Try.pinned (OpenSpec.ofChange transferEndsSpec)

/-- ITS FALSE NEIGHBOUR: 'it returns false'. Refute it at one input. -/
def transferEndsWrong : ChangeSpec := { name := "transferEnds", fn := fun _ => fun
  | [d1, d2, d3] => { results := [.lit (.bool false)], args := [d1, d2, d3] }
  | _ => none }
def TransferEndsWrongFalsely : Prop := transferEndsRow.holds Try.pinned (OpenSpec.ofChange transferEndsWrong)

/-- 'fairwaylaw28.TransferSends': WHATEVER THE INPUT: true; the input reads as it did. -/
def transferSendsSpec : ChangeSpec := { name := "transferSends", fn := fun _ => fun
  | [d1, d2, d3] => { results := [.lit (.bool true)], args := [d1, d2, d3] }
  | _ => none }
def transferSendsRow : OpenClaim := { program := "ytmmacjjmkaeakaa", sum := "6d328931204181466010323e64fcb664133ce086c4dab5c74bb9f7f5ed666c2e", func := "fairway/fairwaylaw28.TransferSends", spec := "transferSends", inPlace := ["internal/abi.NoEscape", "internal/bytealg.MakeNoZero"], apart := false }
def TransferSendsSaid : Prop := transferSendsRow.holds Try.pinned (OpenSpec.ofChange transferSendsSpec)

/-- ITS FALSE NEIGHBOUR: 'it returns false'. Refute it at one input. -/
def transferSendsWrong : ChangeSpec := { name := "transferSends", fn := fun _ => fun
  | [d1, d2, d3] => { results := [.lit (.bool false)], args := [d1, d2, d3] }
  | _ => none }
def TransferSendsWrongFalsely : Prop := transferSendsRow.holds Try.pinned (OpenSpec.ofChange transferSendsWrong)

/-- 'fairwaylaw28.TransferNone': WHATEVER THE INPUT: true; the input reads as it did. -/
def transferNoneSpec : ChangeSpec := { name := "transferNone", fn := fun _ => fun
  | [d1, d2] => { results := [.lit (.bool true)], args := [d1, d2] }
  | _ => none }
def transferNoneRow : OpenClaim := { program := "ytmmacjjmkaeakaa", sum := "6d328931204181466010323e64fcb664133ce086c4dab5c74bb9f7f5ed666c2e", func := "fairway/fairwaylaw28.TransferNone", spec := "transferNone", inPlace := ["internal/abi.NoEscape", "internal/bytealg.MakeNoZero"], apart := false }
def TransferNoneSaid : Prop := transferNoneRow.holds Try.pinned (OpenSpec.ofChange transferNoneSpec)

/-- ITS FALSE NEIGHBOUR: 'it returns false'. Refute it at one input. -/
def transferNoneWrong : ChangeSpec := { name := "transferNone", fn := fun _ => fun
  | [d1, d2] => { results := [.lit (.bool false)], args := [d1, d2] }
  | _ => none }
def TransferNoneWrongFalsely : Prop := transferNoneRow.holds Try.pinned (OpenSpec.ofChange transferNoneWrong)

/-- 'fairwaylaw28.TransferWhole': WHATEVER THE INPUT: true; the input reads as it did. -/
def transferWholeSpec : ChangeSpec := { name := "transferWhole", fn := fun _ => fun
  | [d1, d2, d3] => { results := [.lit (.bool true)], args := [d1, d2, d3] }
  | _ => none }
def transferWholeRow : OpenClaim := { program := "ytmmacjjmkaeakaa", sum := "6d328931204181466010323e64fcb664133ce086c4dab5c74bb9f7f5ed666c2e", func := "fairway/fairwaylaw28.TransferWhole", spec := "transferWhole", inPlace := ["internal/abi.NoEscape", "internal/bytealg.MakeNoZero"], apart := false }
def TransferWholeSaid : Prop := transferWholeRow.holds Try.pinned (OpenSpec.ofChange transferWholeSpec)

/-- ITS FALSE NEIGHBOUR: 'it returns false'. Refute it at one input. -/
def transferWholeWrong : ChangeSpec := { name := "transferWhole", fn := fun _ => fun
  | [d1, d2, d3] => { results := [.lit (.bool false)], args := [d1, d2, d3] }
  | _ => none }
def TransferWholeWrongFalsely : Prop := transferWholeRow.holds Try.pinned (OpenSpec.ofChange transferWholeWrong)

/- THE SECOND FORM. 'bulk': how many values and letters a reading holds, each counted each time it is reached (what is shared counts as often as it is met; a slice's spare places count too). A statement '..UptoSaid' is the law's where the arguments, and the package variables that the reading takes, are together of bulk at most 1048576: NARROWER than '..Said'. Prove '..Said' where nothing that the law and all that it calls make is longer than what came in: it says more and counts as full. Else prove '..UptoSaid'. A law counts once. -/
mutual
def uptoBulk {H : Type} : DataW H → Nat
  | .lit (.string bytes) => bytes.length + 1
  | .lit _ => 1
  | .nil => 1
  | .ptr d => uptoBulk d + 1
  | .slice elems spare => uptoBulkAll elems + uptoBulkAll spare + 1
  | .agg parts => uptoBulkAll parts + 1
  | .iface _ d => uptoBulk d + 1
  | .map entries => uptoBulkEntries entries + 1
  | .held _ => 1
def uptoBulkAll {H : Type} : List (DataW H) → Nat
  | [] => 0
  | d :: r => uptoBulk d + uptoBulkAll r
def uptoBulkEntries {H : Type} : List (Lit × DataW H) → Nat
  | [] => 0
  | x :: r => uptoBulkEntry x + uptoBulkEntries r
def uptoBulkEntry {H : Type} : Lit × DataW H → Nat
  | (.string bytes, d) => bytes.length + uptoBulk d + 1
  | (_, d) => uptoBulk d + 1
 end
def uptoSmall : (H : Type) → List (DataW H) → Bool := fun _ ds => decide (uptoBulkAll ds ≤ 1048576)
def OpenSpec.upto (s : _root_.Go.ChangeSpec) : _root_.Go.OpenSpec := { _root_.Go.OpenSpec.ofChange s with cond := some uptoSmall }

/-- 'fairwaylaw28.TransferTakes', WHERE WHAT IT READS IS OF BULK AT MOST 1048576: true; the input reads as it did. -/
def transferTakesUptoRow : OpenClaim := { program := "ytmmacjjmkaeakaa", sum := "6d328931204181466010323e64fcb664133ce086c4dab5c74bb9f7f5ed666c2e", func := "fairway/fairwaylaw28.TransferTakes", spec := "transferTakes", inPlace := ["internal/abi.NoEscape", "internal/bytealg.MakeNoZero"], apart := false, narrowed := true }
def TransferTakesUptoSaid : Prop := transferTakesUptoRow.holds Try.pinned (OpenSpec.upto transferTakesSpec)

/-- 'fairwaylaw28.TransferEnds', WHERE WHAT IT READS IS OF BULK AT MOST 1048576: true; the input reads as it did. -/
def transferEndsUptoRow : OpenClaim := { program := "ytmmacjjmkaeakaa", sum := "6d328931204181466010323e64fcb664133ce086c4dab5c74bb9f7f5ed666c2e", func := "fairway/fairwaylaw28.TransferEnds", spec := "transferEnds", inPlace := ["internal/abi.NoEscape", "internal/bytealg.MakeNoZero"], apart := false, narrowed := true }
def TransferEndsUptoSaid : Prop := transferEndsUptoRow.holds Try.pinned (OpenSpec.upto transferEndsSpec)

/-- 'fairwaylaw28.TransferSends', WHERE WHAT IT READS IS OF BULK AT MOST 1048576: true; the input reads as it did. -/
def transferSendsUptoRow : OpenClaim := { program := "ytmmacjjmkaeakaa", sum := "6d328931204181466010323e64fcb664133ce086c4dab5c74bb9f7f5ed666c2e", func := "fairway/fairwaylaw28.TransferSends", spec := "transferSends", inPlace := ["internal/abi.NoEscape", "internal/bytealg.MakeNoZero"], apart := false, narrowed := true }
def TransferSendsUptoSaid : Prop := transferSendsUptoRow.holds Try.pinned (OpenSpec.upto transferSendsSpec)

/-- 'fairwaylaw28.TransferNone', WHERE WHAT IT READS IS OF BULK AT MOST 1048576: true; the input reads as it did. -/
def transferNoneUptoRow : OpenClaim := { program := "ytmmacjjmkaeakaa", sum := "6d328931204181466010323e64fcb664133ce086c4dab5c74bb9f7f5ed666c2e", func := "fairway/fairwaylaw28.TransferNone", spec := "transferNone", inPlace := ["internal/abi.NoEscape", "internal/bytealg.MakeNoZero"], apart := false, narrowed := true }
def TransferNoneUptoSaid : Prop := transferNoneUptoRow.holds Try.pinned (OpenSpec.upto transferNoneSpec)

/-- 'fairwaylaw28.TransferWhole', WHERE WHAT IT READS IS OF BULK AT MOST 1048576: true; the input reads as it did. -/
def transferWholeUptoRow : OpenClaim := { program := "ytmmacjjmkaeakaa", sum := "6d328931204181466010323e64fcb664133ce086c4dab5c74bb9f7f5ed666c2e", func := "fairway/fairwaylaw28.TransferWhole", spec := "transferWhole", inPlace := ["internal/abi.NoEscape", "internal/bytealg.MakeNoZero"], apart := false, narrowed := true }
def TransferWholeUptoSaid : Prop := transferWholeUptoRow.holds Try.pinned (OpenSpec.upto transferWholeSpec)

end Rows
end Go.Proofs.Ytmmacjjmkaeakaa
