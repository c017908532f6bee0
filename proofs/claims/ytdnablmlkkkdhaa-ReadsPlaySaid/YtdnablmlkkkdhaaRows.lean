/-
  No cell of these rows narrows 'for every input' (looked for: loops, veiled, ifaces, maps, wideKeys, modest, calm, conditions, laid).
  DERIVED. THE GIVEN ROWS OF THIS SEAT. 3 by the template 'for every input the law returns true; each argument reads behind the call as it read before'; 0 by the template 'total and deterministic' (their statements: YtdnablmlkkkdhaaTotals.lean).
  GIVEN WITH THE SEED: the statements are not yours to turn. If you find one false, say at which input.
  Laid BY PROGRAM, IN A SANDBOX (cutbox-rows.mjs): the forced cells as the released guide's own fill.sh prints them over the translation 224cf99aded054cc… (all of the seat's roots in one cut). By AI agents, Wed Nov 11 2026. No macro, syntax, notation, axiom, sorry.
-/
import Derived.Test.YtdnablmlkkkdhaaChecked
import GoSem.Claim
import GoSem.ClaimJoined
import GoSem.ClaimMapViews
import Derived.JoinedTies
import Derived.KernelRfl
namespace Go.Proofs.Ytdnablmlkkkdhaa
/- THE CELL 'sum', in the pinned program and in every row, IS THE sha256 OF THE DUMP (.gsa) THAT YtdnablmlkkkdhaaProg.lean LOADS. Nothing in Lean hashes anything: it is a label: what it is worth is what the hold of that sum in a sandbox is worth. -/
noncomputable def Try.pinned : Pinned := { name := "ytdnablmlkkkdhaa", sum := "224cf99aded054ccf39888bfb73d3e4f2854d83dec8e220df7e560aa5da718e4", checked := Try.checked }
namespace Rows
def none {H : Type} : Left H := { results := [], args := [] }

/-- 'fairwaylaw18.ReadsOnce': WHATEVER THE INPUT: true; the input reads as it did. -/
def readsOnceSpec : ChangeSpec := { name := "readsOnce", fn := fun _ => fun
  | [d1, d2] => { results := [.lit (.bool true)], args := [d1, d2] }
  | _ => none }
def readsOnceRow : OpenClaim := { program := "ytdnablmlkkkdhaa", sum := "224cf99aded054ccf39888bfb73d3e4f2854d83dec8e220df7e560aa5da718e4", func := "fairway/fairwaylaw18.ReadsOnce", spec := "readsOnce", unfollowed := true, recurses := true, apart := false }
def ReadsOnceSaid : Prop := readsOnceRow.holds Try.pinned (OpenSpec.ofChange readsOnceSpec)

/-- ITS FALSE NEIGHBOUR: 'it returns false'. Refute it at one input. -/
def readsOnceWrong : ChangeSpec := { name := "readsOnce", fn := fun _ => fun
  | [d1, d2] => { results := [.lit (.bool false)], args := [d1, d2] }
  | _ => none }
def ReadsOnceWrongFalsely : Prop := readsOnceRow.holds Try.pinned (OpenSpec.ofChange readsOnceWrong)

/-- 'fairwaylaw18.ReadsPlay': WHATEVER THE INPUT: true; the input reads as it did. -/
def readsPlaySpec : ChangeSpec := { name := "readsPlay", fn := fun _ => fun
  | [d1, d2] => { results := [.lit (.bool true)], args := [d1, d2] }
  | _ => none }
def readsPlayRow : OpenClaim := { program := "ytdnablmlkkkdhaa", sum := "224cf99aded054ccf39888bfb73d3e4f2854d83dec8e220df7e560aa5da718e4", func := "fairway/fairwaylaw18.ReadsPlay", spec := "readsPlay", unfollowed := true, recurses := true, apart := false }
def ReadsPlaySaid : Prop := readsPlayRow.holds Try.pinned (OpenSpec.ofChange readsPlaySpec)

/-- ITS FALSE NEIGHBOUR: 'it returns false'. Refute it at one input. -/
def readsPlayWrong : ChangeSpec := { name := "readsPlay", fn := fun _ => fun
  | [d1, d2] => { results := [.lit (.bool false)], args := [d1, d2] }
  | _ => none }
def ReadsPlayWrongFalsely : Prop := readsPlayRow.holds Try.pinned (OpenSpec.ofChange readsPlayWrong)

/-- 'fairwaylaw18.ReadsNone': WHATEVER THE INPUT: true; the input reads as it did. -/
def readsNoneSpec : ChangeSpec := { name := "readsNone", fn := fun _ => fun
  | [d] => { results := [.lit (.bool true)], args := [d] }
  | _ => none }
def readsNoneRow : OpenClaim := { program := "ytdnablmlkkkdhaa", sum := "224cf99aded054ccf39888bfb73d3e4f2854d83dec8e220df7e560aa5da718e4", func := "fairway/fairwaylaw18.ReadsNone", spec := "readsNone", unfollowed := true, recurses := true, apart := false }
def ReadsNoneSaid : Prop := readsNoneRow.holds Try.pinned (OpenSpec.ofChange readsNoneSpec)

/-- ITS FALSE NEIGHBOUR: 'it returns false'. Refute it at one input. -/
def readsNoneWrong : ChangeSpec := { name := "readsNone", fn := fun _ => fun
  | [d] => { results := [.lit (.bool false)], args := [d] }
  | _ => none }
def ReadsNoneWrongFalsely : Prop := readsNoneRow.holds Try.pinned (OpenSpec.ofChange readsNoneWrong)

/- THE SECOND FORM. 'bulk': how many values and letters a reading holds, each counted each time it is reached (what is shared counts as often as it is met; a slice's spare places count too). A statement '..UptoSaid' is the law's where the arguments, and the package variables that the reading takes, are together of bulk at most 1048576: NARROWER than '..Said'. Prove '..Said' where nothing that the law and all that it calls make is longer than what came in: it says more and counts as full. Else prove '..UptoSaid'. A law counts once. -/
mutual
def uptoBulk {H : Type} : DataW H → Nat
  | .lit (.string bytes) => bytes.length + 1
  | .lit _ => 1
  | .nil => 1
  | .ptr d => uptoBulk d + 1
  | .slice elems spare => uptoBulkAll elems + uptoBulkAll spare + 1
  | .agg parts => uptoBulkAll parts + 1
  | .iface _ d => uptoBulk d + 1
  | .map entries => uptoBulkEntries entries + 1
  | .held _ => 1
def uptoBulkAll {H : Type} : List (DataW H) → Nat
  | [] => 0
  | d :: r => uptoBulk d + uptoBulkAll r
def uptoBulkEntries {H : Type} : List (Lit × DataW H) → Nat
  | [] => 0
  | x :: r => uptoBulkEntry x + uptoBulkEntries r
def uptoBulkEntry {H : Type} : Lit × DataW H → Nat
  | (.string bytes, d) => bytes.length + uptoBulk d + 1
  | (_, d) => uptoBulk d + 1
 end
def uptoSmall : (H : Type) → List (DataW H) → Bool := fun _ ds => decide (uptoBulkAll ds ≤ 1048576)
def OpenSpec.upto (s : _root_.Go.ChangeSpec) : _root_.Go.OpenSpec := { _root_.Go.OpenSpec.ofChange s with cond := some uptoSmall }

/-- 'fairwaylaw18.ReadsOnce', WHERE WHAT IT READS IS OF BULK AT MOST 1048576: true; the input reads as it did. -/
def readsOnceUptoRow : OpenClaim := { program := "ytdnablmlkkkdhaa", sum := "224cf99aded054ccf39888bfb73d3e4f2854d83dec8e220df7e560aa5da718e4", func := "fairway/fairwaylaw18.ReadsOnce", spec := "readsOnce", unfollowed := true, recurses := true, apart := false, narrowed := true }
def ReadsOnceUptoSaid : Prop := readsOnceUptoRow.holds Try.pinned (OpenSpec.upto readsOnceSpec)

/-- 'fairwaylaw18.ReadsPlay', WHERE WHAT IT READS IS OF BULK AT MOST 1048576: true; the input reads as it did. -/
def readsPlayUptoRow : OpenClaim := { program := "ytdnablmlkkkdhaa", sum := "224cf99aded054ccf39888bfb73d3e4f2854d83dec8e220df7e560aa5da718e4", func := "fairway/fairwaylaw18.ReadsPlay", spec := "readsPlay", unfollowed := true, recurses := true, apart := false, narrowed := true }
def ReadsPlayUptoSaid : Prop := readsPlayUptoRow.holds Try.pinned (OpenSpec.upto readsPlaySpec)

/-- 'fairwaylaw18.ReadsNone', WHERE WHAT IT READS IS OF BULK AT MOST 1048576: true; the input reads as it did. -/
def readsNoneUptoRow : OpenClaim := { program := "ytdnablmlkkkdhaa", sum := "224cf99aded054ccf39888bfb73d3e4f2854d83dec8e220df7e560aa5da718e4", func := "fairway/fairwaylaw18.ReadsNone", spec := "readsNone", unfollowed := true, recurses := true, apart := false, narrowed := true }
def ReadsNoneUptoSaid : Prop := readsNoneUptoRow.holds Try.pinned (OpenSpec.upto readsNoneSpec)

end Rows
end Go.Proofs.Ytdnablmlkkkdhaa
