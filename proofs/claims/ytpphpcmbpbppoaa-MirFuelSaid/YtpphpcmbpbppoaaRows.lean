/-
  NARROWER THAN 'FOR EVERY INPUT', by the rows' own cells (each row's printed sentence says how): MirFuel: loops.
  DERIVED. THE GIVEN ROWS OF THIS SEAT. 6 by the template 'for every input the law returns true; each argument reads behind the call as it read before'; 0 by the template 'total and deterministic' (their statements: YtpphpcmbpbppoaaTotals.lean).
  GIVEN WITH THE SEED: the statements are not yours to turn. If you find one false, say at which input.
  Laid BY PROGRAM, IN A SANDBOX (cutbox-rows.mjs): the forced cells as the released guide's own fill.sh prints them over the translation ce9c8947ac19c7d1… (all of the seat's roots in one cut). By AI agents, Wed Nov 11 2026. No macro, syntax, notation, axiom, sorry.
-/
import Derived.Test.YtpphpcmbpbppoaaChecked
import GoSem.Claim
import GoSem.ClaimJoined
import GoSem.ClaimMapViews
import Derived.JoinedTies
import Derived.KernelRfl
namespace Go.Proofs.Ytpphpcmbpbppoaa
/- THE CELL 'sum', in the pinned program and in every row, IS THE sha256 OF THE DUMP (.gsa) THAT YtpphpcmbpbppoaaProg.lean LOADS. Nothing in Lean hashes anything: it is a label: what it is worth is what the hold of that sum in a sandbox is worth. -/
noncomputable def Try.pinned : Pinned := { name := "ytpphpcmbpbppoaa", sum := "ce9c8947ac19c7d139dfa94c8035e83454a5821daf567055e41b7c5213d3c5f1", checked := Try.checked }
namespace Rows
def none {H : Type} : Left H := { results := [], args := [] }

/-- 'ferrulelaw12.MirFuel': WHATEVER THE INPUT: true; the input reads as it did. -/
def mirFuelSpec : ChangeSpec := { name := "mirFuel", fn := fun _ => fun
  | [d1, d2, d3] => { results := [.lit (.bool true)], args := [d1, d2, d3] }
  | _ => none }
def mirFuelRow : OpenClaim := { program := "ytpphpcmbpbppoaa", sum := "ce9c8947ac19c7d139dfa94c8035e83454a5821daf567055e41b7c5213d3c5f1", func := "ferrule/ferrulelaw12.MirFuel", spec := "mirFuel", unfollowed := true, recurses := true, loops := true, apart := false }
def MirFuelSaid : Prop := mirFuelRow.holds Try.pinned (OpenSpec.ofChange mirFuelSpec)

/-- ITS FALSE NEIGHBOUR: 'it returns false'. Refute it at one input. -/
def mirFuelWrong : ChangeSpec := { name := "mirFuel", fn := fun _ => fun
  | [d1, d2, d3] => { results := [.lit (.bool false)], args := [d1, d2, d3] }
  | _ => none }
def MirFuelWrongFalsely : Prop := mirFuelRow.holds Try.pinned (OpenSpec.ofChange mirFuelWrong)

/-- 'ferrulelaw12.MirCounts': WHATEVER THE INPUT: true; the input reads as it did. -/
def mirCountsSpec : ChangeSpec := { name := "mirCounts", fn := fun _ => fun
  | [d1, d2] => { results := [.lit (.bool true)], args := [d1, d2] }
  | _ => none }
def mirCountsRow : OpenClaim := { program := "ytpphpcmbpbppoaa", sum := "ce9c8947ac19c7d139dfa94c8035e83454a5821daf567055e41b7c5213d3c5f1", func := "ferrule/ferrulelaw12.MirCounts", spec := "mirCounts", unfollowed := true, recurses := true, apart := false }
def MirCountsSaid : Prop := mirCountsRow.holds Try.pinned (OpenSpec.ofChange mirCountsSpec)

/-- ITS FALSE NEIGHBOUR: 'it returns false'. Refute it at one input. -/
def mirCountsWrong : ChangeSpec := { name := "mirCounts", fn := fun _ => fun
  | [d1, d2] => { results := [.lit (.bool false)], args := [d1, d2] }
  | _ => none }
def MirCountsWrongFalsely : Prop := mirCountsRow.holds Try.pinned (OpenSpec.ofChange mirCountsWrong)

/-- 'ferrulelaw12.MirHeap': WHATEVER THE INPUT: true; the input reads as it did. -/
def mirHeapSpec : ChangeSpec := { name := "mirHeap", fn := fun _ => fun
  | [d1, d2, d3] => { results := [.lit (.bool true)], args := [d1, d2, d3] }
  | _ => none }
def mirHeapRow : OpenClaim := { program := "ytpphpcmbpbppoaa", sum := "ce9c8947ac19c7d139dfa94c8035e83454a5821daf567055e41b7c5213d3c5f1", func := "ferrule/ferrulelaw12.MirHeap", spec := "mirHeap", unfollowed := true, recurses := true, apart := false }
def MirHeapSaid : Prop := mirHeapRow.holds Try.pinned (OpenSpec.ofChange mirHeapSpec)

/-- ITS FALSE NEIGHBOUR: 'it returns false'. Refute it at one input. -/
def mirHeapWrong : ChangeSpec := { name := "mirHeap", fn := fun _ => fun
  | [d1, d2, d3] => { results := [.lit (.bool false)], args := [d1, d2, d3] }
  | _ => none }
def MirHeapWrongFalsely : Prop := mirHeapRow.holds Try.pinned (OpenSpec.ofChange mirHeapWrong)

/-- 'ferrulelaw12.MirPasses': WHATEVER THE INPUT: true; the input reads as it did. -/
def mirPassesSpec : ChangeSpec := { name := "mirPasses", fn := fun _ => fun
  | [d1, d2] => { results := [.lit (.bool true)], args := [d1, d2] }
  | _ => none }
def mirPassesRow : OpenClaim := { program := "ytpphpcmbpbppoaa", sum := "ce9c8947ac19c7d139dfa94c8035e83454a5821daf567055e41b7c5213d3c5f1", func := "ferrule/ferrulelaw12.MirPasses", spec := "mirPasses", unfollowed := true, recurses := true, apart := false }
def MirPassesSaid : Prop := mirPassesRow.holds Try.pinned (OpenSpec.ofChange mirPassesSpec)

/-- ITS FALSE NEIGHBOUR: 'it returns false'. Refute it at one input. -/
def mirPassesWrong : ChangeSpec := { name := "mirPasses", fn := fun _ => fun
  | [d1, d2] => { results := [.lit (.bool false)], args := [d1, d2] }
  | _ => none }
def MirPassesWrongFalsely : Prop := mirPassesRow.holds Try.pinned (OpenSpec.ofChange mirPassesWrong)

/-- 'ferrulelaw19.LiveLines': WHATEVER THE INPUT: true; the input reads as it did. -/
def liveLinesSpec : ChangeSpec := { name := "liveLines", fn := fun _ => fun
  | [d1, d2] => { results := [.lit (.bool true)], args := [d1, d2] }
  | _ => none }
def liveLinesRow : OpenClaim := { program := "ytpphpcmbpbppoaa", sum := "ce9c8947ac19c7d139dfa94c8035e83454a5821daf567055e41b7c5213d3c5f1", func := "ferrule/ferrulelaw19.LiveLines", spec := "liveLines", unfollowed := true, recurses := true, apart := false }
def LiveLinesSaid : Prop := liveLinesRow.holds Try.pinned (OpenSpec.ofChange liveLinesSpec)

/-- ITS FALSE NEIGHBOUR: 'it returns false'. Refute it at one input. -/
def liveLinesWrong : ChangeSpec := { name := "liveLines", fn := fun _ => fun
  | [d1, d2] => { results := [.lit (.bool false)], args := [d1, d2] }
  | _ => none }
def LiveLinesWrongFalsely : Prop := liveLinesRow.holds Try.pinned (OpenSpec.ofChange liveLinesWrong)

/-- 'ferrulelaw19.LiveTells': WHATEVER THE INPUT: true; the input reads as it did. -/
def liveTellsSpec : ChangeSpec := { name := "liveTells", fn := fun _ => fun
  | [d1, d2, d3] => { results := [.lit (.bool true)], args := [d1, d2, d3] }
  | _ => none }
def liveTellsRow : OpenClaim := { program := "ytpphpcmbpbppoaa", sum := "ce9c8947ac19c7d139dfa94c8035e83454a5821daf567055e41b7c5213d3c5f1", func := "ferrule/ferrulelaw19.LiveTells", spec := "liveTells", unfollowed := true, recurses := true, apart := false }
def LiveTellsSaid : Prop := liveTellsRow.holds Try.pinned (OpenSpec.ofChange liveTellsSpec)

/-- ITS FALSE NEIGHBOUR: 'it returns false'. Refute it at one input. -/
def liveTellsWrong : ChangeSpec := { name := "liveTells", fn := fun _ => fun
  | [d1, d2, d3] => { results := [.lit (.bool false)], args := [d1, d2, d3] }
  | _ => none }
def LiveTellsWrongFalsely : Prop := liveTellsRow.holds Try.pinned (OpenSpec.ofChange liveTellsWrong)

/- THE SECOND FORM. 'bulk': how many values and letters a reading holds, each counted each time it is reached (what is shared counts as often as it is met; a slice's spare places count too). A statement '..UptoSaid' is the law's where the arguments, and the package variables that the reading takes, are together of bulk at most 1048576: NARROWER than '..Said'. Prove '..Said' where nothing that the law and all that it calls make is longer than what came in: it says more and counts as full. Else prove '..UptoSaid'. A law counts once. -/
mutual
def uptoBulk {H : Type} : DataW H → Nat
  | .lit (.string bytes) => bytes.length + 1
  | .lit _ => 1
  | .nil => 1
  | .ptr d => uptoBulk d + 1
  | .slice elems spare => uptoBulkAll elems + uptoBulkAll spare + 1
  | .agg parts => uptoBulkAll parts + 1
  | .iface _ d => uptoBulk d + 1
  | .map entries => uptoBulkEntries entries + 1
  | .held _ => 1
def uptoBulkAll {H : Type} : List (DataW H) → Nat
  | [] => 0
  | d :: r => uptoBulk d + uptoBulkAll r
def uptoBulkEntries {H : Type} : List (Lit × DataW H) → Nat
  | [] => 0
  | x :: r => uptoBulkEntry x + uptoBulkEntries r
def uptoBulkEntry {H : Type} : Lit × DataW H → Nat
  | (.string bytes, d) => bytes.length + uptoBulk d + 1
  | (_, d) => uptoBulk d + 1
 end
def uptoSmall : (H : Type) → List (DataW H) → Bool := fun _ ds => decide (uptoBulkAll ds ≤ 1048576)
def OpenSpec.upto (s : _root_.Go.ChangeSpec) : _root_.Go.OpenSpec := { _root_.Go.OpenSpec.ofChange s with cond := some uptoSmall }

/-- 'ferrulelaw12.MirFuel', WHERE WHAT IT READS IS OF BULK AT MOST 1048576: true; the input reads as it did. -/
def mirFuelUptoRow : OpenClaim := { program := "ytpphpcmbpbppoaa", sum := "ce9c8947ac19c7d139dfa94c8035e83454a5821daf567055e41b7c5213d3c5f1", func := "ferrule/ferrulelaw12.MirFuel", spec := "mirFuel", unfollowed := true, recurses := true, loops := true, apart := false, narrowed := true }
def MirFuelUptoSaid : Prop := mirFuelUptoRow.holds Try.pinned (OpenSpec.upto mirFuelSpec)

/-- 'ferrulelaw12.MirCounts', WHERE WHAT IT READS IS OF BULK AT MOST 1048576: true; the input reads as it did. -/
def mirCountsUptoRow : OpenClaim := { program := "ytpphpcmbpbppoaa", sum := "ce9c8947ac19c7d139dfa94c8035e83454a5821daf567055e41b7c5213d3c5f1", func := "ferrule/ferrulelaw12.MirCounts", spec := "mirCounts", unfollowed := true, recurses := true, apart := false, narrowed := true }
def MirCountsUptoSaid : Prop := mirCountsUptoRow.holds Try.pinned (OpenSpec.upto mirCountsSpec)

/-- 'ferrulelaw12.MirHeap', WHERE WHAT IT READS IS OF BULK AT MOST 1048576: true; the input reads as it did. -/
def mirHeapUptoRow : OpenClaim := { program := "ytpphpcmbpbppoaa", sum := "ce9c8947ac19c7d139dfa94c8035e83454a5821daf567055e41b7c5213d3c5f1", func := "ferrule/ferrulelaw12.MirHeap", spec := "mirHeap", unfollowed := true, recurses := true, apart := false, narrowed := true }
def MirHeapUptoSaid : Prop := mirHeapUptoRow.holds Try.pinned (OpenSpec.upto mirHeapSpec)

/-- 'ferrulelaw12.MirPasses', WHERE WHAT IT READS IS OF BULK AT MOST 1048576: true; the input reads as it did. -/
def mirPassesUptoRow : OpenClaim := { program := "ytpphpcmbpbppoaa", sum := "ce9c8947ac19c7d139dfa94c8035e83454a5821daf567055e41b7c5213d3c5f1", func := "ferrule/ferrulelaw12.MirPasses", spec := "mirPasses", unfollowed := true, recurses := true, apart := false, narrowed := true }
def MirPassesUptoSaid : Prop := mirPassesUptoRow.holds Try.pinned (OpenSpec.upto mirPassesSpec)

/-- 'ferrulelaw19.LiveLines', WHERE WHAT IT READS IS OF BULK AT MOST 1048576: true; the input reads as it did. -/
def liveLinesUptoRow : OpenClaim := { program := "ytpphpcmbpbppoaa", sum := "ce9c8947ac19c7d139dfa94c8035e83454a5821daf567055e41b7c5213d3c5f1", func := "ferrule/ferrulelaw19.LiveLines", spec := "liveLines", unfollowed := true, recurses := true, apart := false, narrowed := true }
def LiveLinesUptoSaid : Prop := liveLinesUptoRow.holds Try.pinned (OpenSpec.upto liveLinesSpec)

/-- 'ferrulelaw19.LiveTells', WHERE WHAT IT READS IS OF BULK AT MOST 1048576: true; the input reads as it did. -/
def liveTellsUptoRow : OpenClaim := { program := "ytpphpcmbpbppoaa", sum := "ce9c8947ac19c7d139dfa94c8035e83454a5821daf567055e41b7c5213d3c5f1", func := "ferrule/ferrulelaw19.LiveTells", spec := "liveTells", unfollowed := true, recurses := true, apart := false, narrowed := true }
def LiveTellsUptoSaid : Prop := liveTellsUptoRow.holds Try.pinned (OpenSpec.upto liveTellsSpec)

end Rows
end Go.Proofs.Ytpphpcmbpbppoaa
