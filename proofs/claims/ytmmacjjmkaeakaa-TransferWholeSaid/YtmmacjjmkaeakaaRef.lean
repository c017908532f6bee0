/- The walks of the layer transfer: the document's receiver takes a piece: as one. (Printed by gen28ref.py.) -/
import Derived.Test.YtmmacjjmkaeakaaRefA
import Derived.Test.YtmmacjjmkaeakaaRefB
import Derived.Test.YtmmacjjmkaeakaaRefC
namespace Go.Proofs.Ytmmacjjmkaeakaa
open Go.RowKit
set_option linter.unusedVariables false
set_option linter.unusedSimpArgs false
variable {base q : Nat} {v : Value} {id total : Int} {ps : List ByteArray}
set_option maxHeartbeats 8000000 in
theorem rtake_ok (p : Pc) (w : World) (H : Rfv w base q v id total ps) (hb : base ≤ w.heap.size) (hn : ps.length ≤ 100000) :
    Calls Try.prog 11 #[.pointer (some ⟨q, 0, none⟩), .agg p.cells] w fun e w' => ∃ v', e = .returned (.tuple #[.int .i64 (takeId id total p), .int .i64 (takePs id total ps p).length]) ∧ Rfv w' base q v' (takeId id total p) (takeTotal id total p) (takePs id total ps p) ∧ Upd w w' [q] ∧ Fresh w v v' := by
  rcases Bool.eq_false_or_eq_true (fitsB id total p) with hf | hf
  · by_cases hid : id < p.id
    · exact rtake_new p w H hb hn hf hid
    · exact rtake_old p w H hb hn hf hid
  · exact rtake_bad p w H hb hn hf
end Go.Proofs.Ytmmacjjmkaeakaa
