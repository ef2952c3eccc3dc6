-- Lines written by a program for this claim: the kit's print, with contracts of this session's own put in.
import Derived.Test.YtocjfdpknfnamaaQFoldPlain0
import Derived.Test.YtocjfdpknfnamaaFoldB
namespace Go.Proofs.Ytocjfdpknfnamaa.QFoldPlain
open Go.RowKit Go.Proofs.YtocjfdpknfnamaaW.PrintWords Go.Proofs.YtocjfdpknfnamaaW.PrintLast Go.Proofs.YtocjfdpknfnamaaW.PrintMore
attribute [local go_sem] max2_int min2_int max_two min_two max_three min_three max_four min_four   -- for this text's walks alone
set_option linter.unusedVariables false
set_option linter.unusedSimpArgs false

-- IMPORT Derived.Test.YtocjfdpknfnamaaFoldB
/-! ### fold_Plain: function 11, its contract proved by hand -/
def fold_Plain.f (a0_0 : ByteArray) (l0_1 : List Int) (a0_2 : Int) (a0_3 : Int) (a0_4 : Bool) (l0_5 : List (S61)) : Option (List Bool) := if l0_1.length ≤ 1000 then some (Fold.plain l0_1 l0_5) else none
theorem fold_Plain.calls (a0_0 : ByteArray) (A0_1 : Option Addr) (c0_1 : Nat) (l0_1 : List Int) (a0_2 : Int) (a0_3 : Int) (a0_4 : Bool) (A0_5 : Option Addr) (c0_5 : Nat) (l0_5 : List (S61)) (r : List Bool) (w : World) (hr0_1 : Kd.C (Kd.int .i64) w A0_1 l0_1.length l0_1) (hc0_1 : l0_1.length ≤ c0_1) (hr0_5 : Kd.C k61 w A0_5 l0_5.length l0_5) (hc0_5 : l0_5.length ≤ c0_5) (h : fold_Plain.f a0_0 l0_1 a0_2 a0_3 a0_4 l0_5 = some r) :
    Calls Try.prog 11 #[.agg #[.string a0_0, .slice A0_1 l0_1.length c0_1, .int .i64 a0_2, .int .i64 a0_3, .bool a0_4, .slice A0_5 l0_5.length c0_5]] w fun e w' => ∃ v0_ : Value, e = .returned (v0_) ∧ Kd.R Kd.bool 4 w' w.heap.size (fun _ => True) v0_ r ∧ Below w.heap.size w w' := by
  unfold fold_Plain.f at h
  split at h
  · rename_i hn
    obtain rfl := Option.some.inj h
    exact Fold.plain_any a0_0 A0_1 c0_1 l0_1 a0_2 a0_3 a0_4 A0_5 c0_5 l0_5 w hr0_1 hc0_1 hr0_5 hc0_5 hn
  · cases h

end Go.Proofs.Ytocjfdpknfnamaa.QFoldPlain
