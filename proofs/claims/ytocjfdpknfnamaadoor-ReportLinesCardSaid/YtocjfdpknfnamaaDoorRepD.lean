/- report.Where, walked. -/
import Derived.Test.YtocjfdpknfnamaaDoorPReportPlacesx0
import Derived.Test.YtocjfdpknfnamaaDoorShelf
import Derived.WalkSpells
import Derived.WalkKit
import Derived.StillTailTactics
namespace Go.Proofs.YtocjfdpknfnamaaDoor.Rep
open Go.Maps Go.RowKit Go.Proofs.YtocjfdpknfnamaaDoor.PReportPlaces Go.Proofs.YtocjfdpknfnamaaDoorW.PrintWords Go.Proofs.YtocjfdpknfnamaaDoorW.PrintLast Go.Proofs.YtocjfdpknfnamaaDoorW.PrintMore
set_option linter.unusedVariables false

/-- How much of the text is ahead of the place. -/
def upto (s : ByteArray) (at_ : Int) : Nat := (min (max at_ 0) (s.size : Int)).toNat
def ahead (s : ByteArray) (at_ : Int) : ByteArray := s.extract 0 (upto s at_)
theorem ahead_size (s : ByteArray) (at_ : Int) : (ahead s at_).size ≤ s.size := by
  unfold ahead upto
  rw [ByteArray.size_extract]; omega
theorem where_call (s : ByteArray) (at_ : Int) (w : World) (hs : s.size ≤ 1000000) (c l : Int) (h1 : (Lib.countByte (ahead s at_).data.toList 10 : Int) = c) (h2 : Lib.lastIndexByte (ahead s at_) 10 = l) (hc0 : 0 ≤ c) (hc1 : c ≤ 1000000) (hl0 : -1 ≤ l) (hl1 : l ≤ 1000000) :
    Calls Tryd.prog 11 #[.string s, .int .i64 at_] w fun e w' => e = .returned (.tuple #[.int .i64 (1 + c), .int .i64 ((ahead s at_).size - l)]) ∧ Drawn0 w w' := by
  have hz := ahead_size s at_
  have hw1 : wrap64 (1 + c) = 1 + c := by unfold wrap64; omega
  have hw2 : wrap64 (((ahead s at_).size : Int) - l) = ((ahead s at_).size : Int) - l := by unfold wrap64; omega
  have H1 := Aside0.mk h1
  have H2 := Aside0.mk h2
  clear h1 h2
  obtain ⟨x, hx⟩ : ∃ x, ahead s at_ = x := ⟨_, rfl⟩
  have hx' : s.extract 0 (min (max at_ 0) (s.size : Int)).toNat = x := hx
  have HX := Aside0.mk hx
  rw [hx] at hz hw2 H1 H2 ⊢
  clear hx
  go_enter Tryd.func11, Tryd.ntmps11
  go_wp2_with (first | (go_at_call 23; (refine (Tryd.strings_Count_one x 10 _).mono ?_); rintro e w2 ⟨rfl, rfl⟩) | (go_at_call 24; (refine (Tryd.strings_LastIndexByte x 10 (by omega) _).mono ?_); rintro e w3 ⟨rfl, rfl⟩))
  rw [H1.out, H2.out]
  simp only [hw1, hw2]
  refine bodyPost_ret (v := .tuple #[.int .i64 (1 + c), .int .i64 ((x.size : Int) - l)]) (by simp [results, Tryd.results11, go_sem]) rfl ⟨rfl, Drawn0.refl _⟩
theorem last_bounds (x : ByteArray) : -1 ≤ Lib.lastIndexByte x 10 ∧ Lib.lastIndexByte x 10 < x.size := by
  rcases Lib.lastIndexByte_spec x 10 with ⟨h, _⟩ | ⟨i, h1, h2, _⟩
  · rw [h]; omega
  · rw [h2]; omega
theorem count_le (x : ByteArray) : Lib.countByte x.data.toList 10 ≤ x.size := by
  have := List.count_le_length (a := (10 : UInt8)) (l := x.data.toList)
  simpa [Lib.countByte] using this
theorem where_all (s : ByteArray) (at_ : Int) (w : World) (hs : s.size ≤ 1000000) :
    Calls Tryd.prog 11 #[.string s, .int .i64 at_] w fun e w' => e = .returned (.tuple #[.int .i64 (1 + (Lib.countByte (ahead s at_).data.toList 10 : Int)), .int .i64 ((ahead s at_).size - Lib.lastIndexByte (ahead s at_) 10)]) ∧ Drawn0 w w' := by
  have h1 := last_bounds (ahead s at_)
  have h2 := count_le (ahead s at_)
  have h3 := ahead_size s at_
  exact where_call s at_ w hs _ _ rfl rfl (by omega) (by omega) h1.1 (by omega)
end Go.Proofs.YtocjfdpknfnamaaDoor.Rep
