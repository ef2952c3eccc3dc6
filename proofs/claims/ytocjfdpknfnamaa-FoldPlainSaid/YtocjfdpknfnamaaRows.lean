/-
  NARROWER THAN 'FOR EVERY INPUT', by the rows' own cells (each row's printed sentence says how): ShowUnlike: loops · FoldPlain: loops.
  DERIVED. THE GIVEN ROWS OF THIS SEAT. 5 by the template 'for every input the law returns true; each argument reads behind the call as it read before'; 0 by the template 'total and deterministic' (their statements: YtocjfdpknfnamaaTotals.lean).
  GIVEN WITH THE SEED: the statements are not yours to turn. If you find one false, say at which input.
  Laid BY PROGRAM, IN A SANDBOX (cutbox-rows.mjs): the forced cells as the released guide's own fill.sh prints them over the translation a5d72a50ac5fe28f… (all of the seat's roots in one cut). By AI agents, Wed Nov 11 2026. No macro, syntax, notation, axiom, sorry.
-/
import Derived.Test.YtocjfdpknfnamaaChecked
import GoSem.Claim
import GoSem.ClaimJoined
import GoSem.ClaimMapViews
import Derived.JoinedTies
import Derived.KernelRfl
namespace Go.Proofs.Ytocjfdpknfnamaa
/- THE CELL 'sum', in the pinned program and in every row, IS THE sha256 OF THE DUMP (.gsa) THAT YtocjfdpknfnamaaProg.lean LOADS. Nothing in Lean hashes anything: it is a label: what it is worth is what the hold of that sum in a sandbox is worth. -/
noncomputable def Try.pinned : Pinned := { name := "ytocjfdpknfnamaa", sum := "a5d72a50ac5fe28fb72f0561d92125ee099ca7c082000f8249e4edc5f91c51c3", checked := Try.checked }
namespace Rows
def none {H : Type} : Left H := { results := [], args := [] }

/-- 'ferrulelaw19.LiveMeets': WHATEVER THE INPUT: true; the input reads as it did. -/
def liveMeetsSpec : ChangeSpec := { name := "liveMeets", fn := fun _ => fun
  | [d1, d2] => { results := [.lit (.bool true)], args := [d1, d2] }
  | _ => none }
def liveMeetsRow : OpenClaim := { program := "ytocjfdpknfnamaa", sum := "a5d72a50ac5fe28fb72f0561d92125ee099ca7c082000f8249e4edc5f91c51c3", func := "ferrule/ferrulelaw19.LiveMeets", spec := "liveMeets", apart := false }
def LiveMeetsSaid : Prop := liveMeetsRow.holds Try.pinned (OpenSpec.ofChange liveMeetsSpec)

/-- ITS FALSE NEIGHBOUR: 'it returns false'. Refute it at one input. -/
def liveMeetsWrong : ChangeSpec := { name := "liveMeets", fn := fun _ => fun
  | [d1, d2] => { results := [.lit (.bool false)], args := [d1, d2] }
  | _ => none }
def LiveMeetsWrongFalsely : Prop := liveMeetsRow.holds Try.pinned (OpenSpec.ofChange liveMeetsWrong)

/-- 'ferrulelaw04.ShowUnlike': WHATEVER THE INPUT: true; the input reads as it did. -/
def showUnlikeSpec : ChangeSpec := { name := "showUnlike", fn := fun _ => fun
  | [d1, d2] => { results := [.lit (.bool true)], args := [d1, d2] }
  | _ => none }
def showUnlikeRow : OpenClaim := { program := "ytocjfdpknfnamaa", sum := "a5d72a50ac5fe28fb72f0561d92125ee099ca7c082000f8249e4edc5f91c51c3", func := "ferrule/ferrulelaw04.ShowUnlike", spec := "showUnlike", unfollowed := true, recurses := true, loops := true, apart := false }
def ShowUnlikeSaid : Prop := showUnlikeRow.holds Try.pinned (OpenSpec.ofChange showUnlikeSpec)

/-- ITS FALSE NEIGHBOUR: 'it returns false'. Refute it at one input. -/
def showUnlikeWrong : ChangeSpec := { name := "showUnlike", fn := fun _ => fun
  | [d1, d2] => { results := [.lit (.bool false)], args := [d1, d2] }
  | _ => none }
def ShowUnlikeWrongFalsely : Prop := showUnlikeRow.holds Try.pinned (OpenSpec.ofChange showUnlikeWrong)

/-- 'ferrulelaw15.FoldPlain': WHATEVER THE INPUT: true; the input reads as it did. -/
def foldPlainSpec : ChangeSpec := { name := "foldPlain", fn := fun _ => fun
  | [d] => { results := [.lit (.bool true)], args := [d] }
  | _ => none }
def foldPlainRow : OpenClaim := { program := "ytocjfdpknfnamaa", sum := "a5d72a50ac5fe28fb72f0561d92125ee099ca7c082000f8249e4edc5f91c51c3", func := "ferrule/ferrulelaw15.FoldPlain", spec := "foldPlain", loops := true, apart := false }
def FoldPlainSaid : Prop := foldPlainRow.holds Try.pinned (OpenSpec.ofChange foldPlainSpec)

/-- ITS FALSE NEIGHBOUR: 'it returns false'. Refute it at one input. -/
def foldPlainWrong : ChangeSpec := { name := "foldPlain", fn := fun _ => fun
  | [d] => { results := [.lit (.bool false)], args := [d] }
  | _ => none }
def FoldPlainWrongFalsely : Prop := foldPlainRow.holds Try.pinned (OpenSpec.ofChange foldPlainWrong)

/-- 'ferrulelaw12.MirDoes': WHATEVER THE INPUT: true; the input reads as it did. -/
def mirDoesSpec : ChangeSpec := { name := "mirDoes", fn := fun _ => fun
  | [d1, d2, d3] => { results := [.lit (.bool true)], args := [d1, d2, d3] }
  | _ => none }
def mirDoesRow : OpenClaim := { program := "ytocjfdpknfnamaa", sum := "a5d72a50ac5fe28fb72f0561d92125ee099ca7c082000f8249e4edc5f91c51c3", func := "ferrule/ferrulelaw12.MirDoes", spec := "mirDoes", apart := false }
def MirDoesSaid : Prop := mirDoesRow.holds Try.pinned (OpenSpec.ofChange mirDoesSpec)

/-- ITS FALSE NEIGHBOUR: 'it returns false'. Refute it at one input. -/
def mirDoesWrong : ChangeSpec := { name := "mirDoes", fn := fun _ => fun
  | [d1, d2, d3] => { results := [.lit (.bool false)], args := [d1, d2, d3] }
  | _ => none }
def MirDoesWrongFalsely : Prop := mirDoesRow.holds Try.pinned (OpenSpec.ofChange mirDoesWrong)

/-- 'ferrulelaw12.MirSums': WHATEVER THE INPUT: true; the input reads as it did. -/
def mirSumsSpec : ChangeSpec := { name := "mirSums", fn := fun _ => fun
  | [d1, d2] => { results := [.lit (.bool true)], args := [d1, d2] }
  | _ => none }
def mirSumsRow : OpenClaim := { program := "ytocjfdpknfnamaa", sum := "a5d72a50ac5fe28fb72f0561d92125ee099ca7c082000f8249e4edc5f91c51c3", func := "ferrule/ferrulelaw12.MirSums", spec := "mirSums", unfollowed := true, recurses := true, apart := false }
def MirSumsSaid : Prop := mirSumsRow.holds Try.pinned (OpenSpec.ofChange mirSumsSpec)

/-- ITS FALSE NEIGHBOUR: 'it returns false'. Refute it at one input. -/
def mirSumsWrong : ChangeSpec := { name := "mirSums", fn := fun _ => fun
  | [d1, d2] => { results := [.lit (.bool false)], args := [d1, d2] }
  | _ => none }
def MirSumsWrongFalsely : Prop := mirSumsRow.holds Try.pinned (OpenSpec.ofChange mirSumsWrong)

/- THE SECOND FORM. 'bulk': how many values and letters a reading holds, each counted each time it is reached (what is shared counts as often as it is met; a slice's spare places count too). A statement '..UptoSaid' is the law's where the arguments, and the package variables that the reading takes, are together of bulk at most 1048576: NARROWER than '..Said'. Prove '..Said' where nothing that the law and all that it calls make is longer than what came in: it says more and counts as full. Else prove '..UptoSaid'. A law counts once. -/
mutual
def uptoBulk {H : Type} : DataW H → Nat
  | .lit (.string bytes) => bytes.length + 1
  | .lit _ => 1
  | .nil => 1
  | .ptr d => uptoBulk d + 1
  | .slice elems spare => uptoBulkAll elems + uptoBulkAll spare + 1
  | .agg parts => uptoBulkAll parts + 1
  | .iface _ d => uptoBulk d + 1
  | .map entries => uptoBulkEntries entries + 1
  | .held _ => 1
def uptoBulkAll {H : Type} : List (DataW H) → Nat
  | [] => 0
  | d :: r => uptoBulk d + uptoBulkAll r
def uptoBulkEntries {H : Type} : List (Lit × DataW H) → Nat
  | [] => 0
  | x :: r => uptoBulkEntry x + uptoBulkEntries r
def uptoBulkEntry {H : Type} : Lit × DataW H → Nat
  | (.string bytes, d) => bytes.length + uptoBulk d + 1
  | (_, d) => uptoBulk d + 1
 end
def uptoSmall : (H : Type) → List (DataW H) → Bool := fun _ ds => decide (uptoBulkAll ds ≤ 1048576)
def OpenSpec.upto (s : _root_.Go.ChangeSpec) : _root_.Go.OpenSpec := { _root_.Go.OpenSpec.ofChange s with cond := some uptoSmall }

/-- 'ferrulelaw19.LiveMeets', WHERE WHAT IT READS IS OF BULK AT MOST 1048576: true; the input reads as it did. -/
def liveMeetsUptoRow : OpenClaim := { program := "ytocjfdpknfnamaa", sum := "a5d72a50ac5fe28fb72f0561d92125ee099ca7c082000f8249e4edc5f91c51c3", func := "ferrule/ferrulelaw19.LiveMeets", spec := "liveMeets", apart := false, narrowed := true }
def LiveMeetsUptoSaid : Prop := liveMeetsUptoRow.holds Try.pinned (OpenSpec.upto liveMeetsSpec)

/-- 'ferrulelaw04.ShowUnlike', WHERE WHAT IT READS IS OF BULK AT MOST 1048576: true; the input reads as it did. -/
def showUnlikeUptoRow : OpenClaim := { program := "ytocjfdpknfnamaa", sum := "a5d72a50ac5fe28fb72f0561d92125ee099ca7c082000f8249e4edc5f91c51c3", func := "ferrule/ferrulelaw04.ShowUnlike", spec := "showUnlike", unfollowed := true, recurses := true, loops := true, apart := false, narrowed := true }
def ShowUnlikeUptoSaid : Prop := showUnlikeUptoRow.holds Try.pinned (OpenSpec.upto showUnlikeSpec)

/-- 'ferrulelaw15.FoldPlain', WHERE WHAT IT READS IS OF BULK AT MOST 1048576: true; the input reads as it did. -/
def foldPlainUptoRow : OpenClaim := { program := "ytocjfdpknfnamaa", sum := "a5d72a50ac5fe28fb72f0561d92125ee099ca7c082000f8249e4edc5f91c51c3", func := "ferrule/ferrulelaw15.FoldPlain", spec := "foldPlain", loops := true, apart := false, narrowed := true }
def FoldPlainUptoSaid : Prop := foldPlainUptoRow.holds Try.pinned (OpenSpec.upto foldPlainSpec)

/-- 'ferrulelaw12.MirDoes', WHERE WHAT IT READS IS OF BULK AT MOST 1048576: true; the input reads as it did. -/
def mirDoesUptoRow : OpenClaim := { program := "ytocjfdpknfnamaa", sum := "a5d72a50ac5fe28fb72f0561d92125ee099ca7c082000f8249e4edc5f91c51c3", func := "ferrule/ferrulelaw12.MirDoes", spec := "mirDoes", apart := false, narrowed := true }
def MirDoesUptoSaid : Prop := mirDoesUptoRow.holds Try.pinned (OpenSpec.upto mirDoesSpec)

/-- 'ferrulelaw12.MirSums', WHERE WHAT IT READS IS OF BULK AT MOST 1048576: true; the input reads as it did. -/
def mirSumsUptoRow : OpenClaim := { program := "ytocjfdpknfnamaa", sum := "a5d72a50ac5fe28fb72f0561d92125ee099ca7c082000f8249e4edc5f91c51c3", func := "ferrule/ferrulelaw12.MirSums", spec := "mirSums", unfollowed := true, recurses := true, apart := false, narrowed := true }
def MirSumsUptoSaid : Prop := mirSumsUptoRow.holds Try.pinned (OpenSpec.upto mirSumsSpec)

end Rows
end Go.Proofs.Ytocjfdpknfnamaa
