/-
  No cell of these rows narrows 'for every input' (looked for: loops, veiled, ifaces, maps, wideKeys, modest, calm, conditions, laid).
  DERIVED. THE GIVEN ROWS OF THIS SEAT. 3 by the template 'for every input the law returns true; each argument reads behind the call as it read before'; 0 by the template 'total and deterministic' (their statements: YtkopocbcldjjbaaTotals.lean).
  GIVEN WITH THE SEED: the statements are not yours to turn. If you find one false, say at which input.
  Laid BY PROGRAM, IN A SANDBOX (cutbox-rows.mjs): the forced cells as the released guide's own fill.sh prints them over the translation 21ae190d4ff3d529… (all of the seat's roots in one cut). By AI agents, Wed Nov 11 2026. No macro, syntax, notation, axiom, sorry.
-/
import Derived.Test.YtkopocbcldjjbaaChecked
import GoSem.Claim
import GoSem.ClaimJoined
import GoSem.ClaimMapViews
import Derived.JoinedTies
import Derived.KernelRfl
namespace Go.Proofs.Ytkopocbcldjjbaa
/- THE CELL 'sum', in the pinned program and in every row, IS THE sha256 OF THE DUMP (.gsa) THAT YtkopocbcldjjbaaProg.lean LOADS. Nothing in Lean hashes anything: it is a label: what it is worth is what the hold of that sum in a sandbox is worth. -/
noncomputable def Try.pinned : Pinned := { name := "ytkopocbcldjjbaa", sum := "21ae190d4ff3d529268eef85e2bb6df07bf26d531b258c72d444838c2a452399", checked := Try.checked }
namespace Rows
def none {H : Type} : Left H := { results := [], args := [] }

/-- 'fairwaylaw03.RingsOrder': WHATEVER THE INPUT: true; the input reads as it did. -/
def ringsOrderSpec : ChangeSpec := { name := "ringsOrder", fn := fun _ => fun
  | [d1, d2] => { results := [.lit (.bool true)], args := [d1, d2] }
  | _ => none }
def ringsOrderRow : OpenClaim := { program := "ytkopocbcldjjbaa", sum := "21ae190d4ff3d529268eef85e2bb6df07bf26d531b258c72d444838c2a452399", func := "fairway/fairwaylaw03.RingsOrder", spec := "ringsOrder", apart := false }
def RingsOrderSaid : Prop := ringsOrderRow.holds Try.pinned (OpenSpec.ofChange ringsOrderSpec)

/-- ITS FALSE NEIGHBOUR: 'it returns false'. Refute it at one input. -/
def ringsOrderWrong : ChangeSpec := { name := "ringsOrder", fn := fun _ => fun
  | [d1, d2] => { results := [.lit (.bool false)], args := [d1, d2] }
  | _ => none }
def RingsOrderWrongFalsely : Prop := ringsOrderRow.holds Try.pinned (OpenSpec.ofChange ringsOrderWrong)

/-- 'fairwaylaw03.RingsPlay': WHATEVER THE INPUT: true; the input reads as it did. -/
def ringsPlaySpec : ChangeSpec := { name := "ringsPlay", fn := fun _ => fun
  | [d1, d2] => { results := [.lit (.bool true)], args := [d1, d2] }
  | _ => none }
def ringsPlayRow : OpenClaim := { program := "ytkopocbcldjjbaa", sum := "21ae190d4ff3d529268eef85e2bb6df07bf26d531b258c72d444838c2a452399", func := "fairway/fairwaylaw03.RingsPlay", spec := "ringsPlay", apart := false }
def RingsPlaySaid : Prop := ringsPlayRow.holds Try.pinned (OpenSpec.ofChange ringsPlaySpec)

/-- ITS FALSE NEIGHBOUR: 'it returns false'. Refute it at one input. -/
def ringsPlayWrong : ChangeSpec := { name := "ringsPlay", fn := fun _ => fun
  | [d1, d2] => { results := [.lit (.bool false)], args := [d1, d2] }
  | _ => none }
def RingsPlayWrongFalsely : Prop := ringsPlayRow.holds Try.pinned (OpenSpec.ofChange ringsPlayWrong)

/-- 'fairwaylaw03.RingsNone': WHATEVER THE INPUT: true; the input reads as it did. -/
def ringsNoneSpec : ChangeSpec := { name := "ringsNone", fn := fun _ => fun
  | [d] => { results := [.lit (.bool true)], args := [d] }
  | _ => none }
def ringsNoneRow : OpenClaim := { program := "ytkopocbcldjjbaa", sum := "21ae190d4ff3d529268eef85e2bb6df07bf26d531b258c72d444838c2a452399", func := "fairway/fairwaylaw03.RingsNone", spec := "ringsNone", apart := false }
def RingsNoneSaid : Prop := ringsNoneRow.holds Try.pinned (OpenSpec.ofChange ringsNoneSpec)

/-- ITS FALSE NEIGHBOUR: 'it returns false'. Refute it at one input. -/
def ringsNoneWrong : ChangeSpec := { name := "ringsNone", fn := fun _ => fun
  | [d] => { results := [.lit (.bool false)], args := [d] }
  | _ => none }
def RingsNoneWrongFalsely : Prop := ringsNoneRow.holds Try.pinned (OpenSpec.ofChange ringsNoneWrong)

/- THE SECOND FORM. 'bulk': how many values and letters a reading holds, each counted each time it is reached (what is shared counts as often as it is met; a slice's spare places count too). A statement '..UptoSaid' is the law's where the arguments, and the package variables that the reading takes, are together of bulk at most 1048576: NARROWER than '..Said'. Prove '..Said' where nothing that the law and all that it calls make is longer than what came in: it says more and counts as full. Else prove '..UptoSaid'. A law counts once. -/
mutual
def uptoBulk {H : Type} : DataW H → Nat
  | .lit (.string bytes) => bytes.length + 1
  | .lit _ => 1
  | .nil => 1
  | .ptr d => uptoBulk d + 1
  | .slice elems spare => uptoBulkAll elems + uptoBulkAll spare + 1
  | .agg parts => uptoBulkAll parts + 1
  | .iface _ d => uptoBulk d + 1
  | .map entries => uptoBulkEntries entries + 1
  | .held _ => 1
def uptoBulkAll {H : Type} : List (DataW H) → Nat
  | [] => 0
  | d :: r => uptoBulk d + uptoBulkAll r
def uptoBulkEntries {H : Type} : List (Lit × DataW H) → Nat
  | [] => 0
  | x :: r => uptoBulkEntry x + uptoBulkEntries r
def uptoBulkEntry {H : Type} : Lit × DataW H → Nat
  | (.string bytes, d) => bytes.length + uptoBulk d + 1
  | (_, d) => uptoBulk d + 1
 end
def uptoSmall : (H : Type) → List (DataW H) → Bool := fun _ ds => decide (uptoBulkAll ds ≤ 1048576)
def OpenSpec.upto (s : _root_.Go.ChangeSpec) : _root_.Go.OpenSpec := { _root_.Go.OpenSpec.ofChange s with cond := some uptoSmall }

/-- 'fairwaylaw03.RingsOrder', WHERE WHAT IT READS IS OF BULK AT MOST 1048576: true; the input reads as it did. -/
def ringsOrderUptoRow : OpenClaim := { program := "ytkopocbcldjjbaa", sum := "21ae190d4ff3d529268eef85e2bb6df07bf26d531b258c72d444838c2a452399", func := "fairway/fairwaylaw03.RingsOrder", spec := "ringsOrder", apart := false, narrowed := true }
def RingsOrderUptoSaid : Prop := ringsOrderUptoRow.holds Try.pinned (OpenSpec.upto ringsOrderSpec)

/-- 'fairwaylaw03.RingsPlay', WHERE WHAT IT READS IS OF BULK AT MOST 1048576: true; the input reads as it did. -/
def ringsPlayUptoRow : OpenClaim := { program := "ytkopocbcldjjbaa", sum := "21ae190d4ff3d529268eef85e2bb6df07bf26d531b258c72d444838c2a452399", func := "fairway/fairwaylaw03.RingsPlay", spec := "ringsPlay", apart := false, narrowed := true }
def RingsPlayUptoSaid : Prop := ringsPlayUptoRow.holds Try.pinned (OpenSpec.upto ringsPlaySpec)

/-- 'fairwaylaw03.RingsNone', WHERE WHAT IT READS IS OF BULK AT MOST 1048576: true; the input reads as it did. -/
def ringsNoneUptoRow : OpenClaim := { program := "ytkopocbcldjjbaa", sum := "21ae190d4ff3d529268eef85e2bb6df07bf26d531b258c72d444838c2a452399", func := "fairway/fairwaylaw03.RingsNone", spec := "ringsNone", apart := false, narrowed := true }
def RingsNoneUptoSaid : Prop := ringsNoneUptoRow.holds Try.pinned (OpenSpec.upto ringsNoneSpec)

end Rows
end Go.Proofs.Ytkopocbcldjjbaa
