/- The plain law of ReportLines: how many lines an outcome's text has, and what it begins with. -/
import Derived.Test.YtocjfdpknfnamaaDoorRepF
import Derived.Test.YtocjfdpknfnamaaDoorRepL
namespace Go.Proofs.YtocjfdpknfnamaaDoor.Rep
open Go.Maps Go.RowKit Go.Proofs.YtocjfdpknfnamaaDoor.PReportPlaces Go.Proofs.YtocjfdpknfnamaaDoorW.PrintWords Go.Proofs.YtocjfdpknfnamaaDoorW.PrintLast Go.Proofs.YtocjfdpknfnamaaDoorW.PrintMore
set_option linter.unusedVariables false

theorem digit_ne (d : Nat) (h : d < 10) : UInt8.ofNat (48 + d) ≠ 10 := by
  rcases d with _ | _ | _ | _ | _ | _ | _ | _ | _ | _ | d
  all_goals first | (exfalso; omega) | decide
theorem dec_no (u : Nat) : (10 : UInt8) ∉ Lib.decDigits u := by
  induction u using Nat.strongRecOn with
  | _ u ih =>
    by_cases h : u < 10
    · rw [Lib.decDigits_one h]
      intro hm
      exact digit_ne u h (List.mem_singleton.1 hm).symm
    · rw [Lib.decDigits, dif_neg h]
      intro hm
      rcases List.mem_append.1 hm with hm | hm
      · exact ih _ (by omega) hm
      · exact digit_ne (u % 10) (by omega) (List.mem_singleton.1 hm).symm
theorem itoa_no (n : Int) : (10 : UInt8) ∉ Lib.itoa n := by
  unfold Lib.itoa
  split
  · intro hm
    rcases List.mem_cons.1 hm with hm | hm
    · exact absurd hm (by decide)
    · exact dec_no _ hm
  · exact dec_no _
theorem word_no (k : Int) : (10 : UInt8) ∉ (wordB k).data.toList := by
  unfold wordB
  repeat' split
  all_goals decide
theorem last_no (k c : Int) : (10 : UInt8) ∉ (lastB k c).data.toList := by
  unfold lastB
  split
  · intro hm
    simp only [ByteArray.data_append, Array.toList_append, List.mem_append] at hm
    rcases hm with hm | hm | hm
    · exact word_no 1 hm
    · exact absurd hm (by decide)
    · exact itoa_no c hm
  split
  · exact word_no k
  · decide
theorem lines_count : ∀ l : List Int, (lines l).count 10 = l.length
  | [] => rfl
  | n :: l => by
    have ih := lines_count l
    have h := List.count_eq_zero.2 (itoa_no n)
    simp only [lines, List.map_cons, List.flatten_cons, List.count_append, line, List.length_cons] at ih ⊢
    rw [ih, h]
    simp
    omega
theorem out_count (kd c : Int) (l : List Int) : (outL kd c l).count 10 = l.length + 1 := by
  unfold outL
  rw [List.count_append, lines_count, List.count_append, List.count_eq_zero.2 (last_no kd c)]
  rfl
theorem out_len (kd c : Int) (hc : okInt c) (l : List Int) (hl : l.length ≤ 1000) (hr : ∀ n ∈ l, okInt n) : (outL kd c l).length ≤ 30000 := by
  have h1 := lines_len l hr
  have h2 := lastB_size kd c hc
  unfold outL
  simp only [List.length_append, List.length_cons, List.length_nil]
  have h3 : (lastB kd c).data.toList.length = (lastB kd c).size := by simp
  omega
def outB (kd c : Int) (l : List Int) : ByteArray := ⟨(outL kd c l).toArray⟩
theorem outB_size (kd c : Int) (l : List Int) : (outB kd c l).size = (outL kd c l).length := by simp [outB, ByteArray.size]

theorem mk_size (l : List UInt8) : (⟨l.toArray⟩ : ByteArray).size = l.length := by simp [ByteArray.size]
theorem ext_head (a b : ByteArray) : (a ++ b).extract 0 a.size = a := by
  refine ByteArray.ext (Array.ext' ?_)
  simp [ByteArray.data_extract, Array.toList_extract, List.extract]
  exact List.take_of_length_le (by simp)
theorem lines_j (kd c : Int) (hc : okInt c) (l : List Int) (hl : l.length ≤ 1000) (hr : ∀ n ∈ l, okInt n) :
    ∃ k, ferrulelaw28_ReportLines.j1 k (outB kd c l) false kd c l = some true := by
  cases l with
  | nil =>
    refine ⟨1, ?_⟩
    rw [ferrulelaw28_ReportLines.j1, if_neg (by decide), if_pos (by simp)]
  | cons n l =>
    obtain ⟨k, hk⟩ := number_is n (hr n (by simp))
    have hz := itoaB_size n (hr n (by simp))
    have e : outB kd c (n :: l) = (itoaB n ++ ⟨#[10]⟩) ++ ⟨(lines l ++ ((lastB kd c).data.toList ++ [10])).toArray⟩ := by
      simp [outB, outL, lines, line, itoaB, ByteArray.ext_iff]
    have hs : (outB kd c (n :: l)).size = (itoaB n ++ (⟨#[10]⟩ : ByteArray)).size + (lines l ++ ((lastB kd c).data.toList ++ [10])).length := by
      rw [e, ByteArray.size_append]
      exact congrArg _ (mk_size _)
    have hp : 0 < (lines l ++ ((lastB kd c).data.toList ++ [10])).length := by simp only [List.length_append, List.length_cons, List.length_nil]; omega
    have er : rd (n :: l) 0 = n := rfl
    refine ⟨k + 1, ?_⟩
    rw [ferrulelaw28_ReportLines.j1, if_neg (by decide), if_neg (by simp only [List.length_cons]; omega), if_pos (by simp only [List.length_cons]; omega), er, hk]
    simp only [Option.bind_some]
    rw [if_pos (by omega), if_pos (by omega), if_pos (by omega), if_pos (by omega), Int.toNat_natCast]
    have ex : (outB kd c (n :: l)).extract 0 (itoaB n ++ (⟨#[10]⟩ : ByteArray)).size = itoaB n ++ ⟨#[10]⟩ := by
      rw [e]
      exact ext_head _ _
    rw [ex]
    simp
noncomputable abbrev refL (k : Nat) (s : ByteArray) (n i kd c : Int) (l : List Int) : Option Bool := ferrulelaw28_ReportLines.l0 k s n i kd c l
theorem wrap_up (n : Nat) (h : n ≤ 1000000) : wrap64 ((n : Int) + 1) = ((n + 1 : Nat) : Int) := by unfold wrap64; omega
theorem wrap_down (n : Nat) (h0 : 0 < n) (h : n ≤ 1000000) : wrap64 ((n : Int) - 1) = ((n - 1 : Nat) : Int) := by unfold wrap64; omega
theorem wrap_shape (n : Nat) : ((n + 1 : Nat) : Int) = 1 + (n : Int) := by omega
theorem lines_loop (kd c : Int) (hc : okInt c) (l : List Int) (hl : l.length ≤ 1000) (hr : ∀ n ∈ l, okInt n) (d : Nat) :
    ∀ i : Nat, i + d = (outB kd c l).size → ∃ k, refL k (outB kd c l) (cnt (outB kd c l) i : Int) (i : Int) kd c l = some true := by
  have hsz := outB_size kd c l
  have hlen := out_len kd c hc l hl hr
  have hpos : 0 < (outL kd c l).length := by unfold outL; simp only [List.length_append, List.length_cons, List.length_nil]; omega
  induction d with
  | zero =>
    intro i hi
    obtain ⟨k, hk⟩ := lines_j kd c hc l hl hr
    refine ⟨k + 1, ?_⟩
    have ei : i = (outB kd c l).size := by omega
    have hcn : cnt (outB kd c l) i = l.length + 1 := by
      unfold cnt Lib.countByte
      rw [List.take_of_length_le (by rw [ei]; simp)]
      exact out_count kd c l
    have hu : upto (outB kd c l) ((outB kd c l).size : Int) = (outB kd c l).size := by unfold upto; omega
    have ha : (ahead (outB kd c l) ((outB kd c l).size : Int)).data.toList.count 10 = l.length + 1 := by
      rw [ahead_bytes, hu]
      have := hcn
      unfold cnt Lib.countByte at this
      rw [ei] at this
      exact this
    have hae : ahead (outB kd c l) ((outB kd c l).size : Int) = outB kd c l := by
      have h1 := ahead_bytes (outB kd c l) ((outB kd c l).size : Int)
      rw [hu, List.take_of_length_le (by simp)] at h1
      exact ByteArray.ext (Array.ext' h1)
    have hb : bt (outB kd c l) (((outB kd c l).size - 1 : Nat) : Int) = 10 := by
      rw [byte_at _ _ (by omega)]
      have h1 : (outB kd c l).size - 1 < (outB kd c l).data.size := by change _ < (outB kd c l).size; omega
      rw [getElem!_pos (outB kd c l).data _ h1]
      have h2 : (outL kd c l)[(outB kd c l).size - 1]? = some 10 := by
        have h3 : outL kd c l = (lines l ++ (lastB kd c).data.toList) ++ [10] := by unfold outL; simp
        rw [hsz, h3]
        simp
      have h4 : (outB kd c l).data[(outB kd c l).size - 1]? = some 10 := by
        rw [← h2]; simp [outB]
      rw [Array.getElem?_eq_getElem h1] at h4
      rw [Option.some.inj h4]; rfl
    have hlast : Lib.lastIndexByte (outB kd c l) 10 = (((outB kd c l).size - 1 : Nat) : Int) := by
      unfold Lib.lastIndexByte
      have h1 := last_step (outB kd c l) ((outB kd c l).size - 1) (by omega)
      rw [if_pos hb, show (outB kd c l).size - 1 + 1 = (outB kd c l).size by omega] at h1
      exact h1
    have hw : report_Where.f (outB kd c l) ((outB kd c l).size : Int) = some (1 + ((l.length + 1 : Nat) : Int), 1) := by
      unfold report_Where.f
      have a1 : (Lib.countByte (ahead (outB kd c l) ((outB kd c l).size : Int)).data.toList 10 : Int) = ((l.length + 1 : Nat) : Int) := by unfold Lib.countByte; rw [ha]
      have a2 : ((ahead (outB kd c l) ((outB kd c l).size : Int)).size : Int) - Lib.lastIndexByte (ahead (outB kd c l) ((outB kd c l).size : Int)) 10 = 1 := by rw [hae, hlast]; omega
      rw [if_pos (by omega), a1, a2]
    have w1 : wrap64 (((outB kd c l).size : Int) - 1) = (((outB kd c l).size - 1 : Nat) : Int) := wrap_down _ (by rw [hsz]; exact hpos) (by rw [hsz]; exact Nat.le_trans hlen (by decide))
    have w2 : wrap64 ((l.length : Int) + 1) = ((l.length + 1 : Nat) : Int) := wrap_up _ (Nat.le_trans hl (by decide))
    have w3 : wrap64 (((l.length + 1 : Nat) : Int) + 1) = 1 + ((l.length + 1 : Nat) : Int) := (wrap_up (l.length + 1) (Nat.le_trans (Nat.succ_le_succ hl) (by decide))).trans (wrap_shape _)
    simp only [refL]
    rw [ferrulelaw28_ReportLines.l0, if_neg (by omega), hw, hcn]
    simp only [Option.bind_some]
    rw [if_neg (by omega), w1, if_pos (by omega), if_pos (by omega), if_pos hb, w2, if_pos rfl, w3, if_pos rfl]
    exact hk
  | succ d ih =>
    intro i hi
    obtain ⟨k, hk⟩ := ih (i + 1) (by omega)
    have hi2 : i < (outB kd c l).size := by omega
    have hcn : cnt (outB kd c l) i ≤ i := by
      unfold cnt Lib.countByte
      exact Nat.le_trans List.count_le_length (by rw [List.length_take]; omega)
    have w1 : wrap64 ((i : Int) + 1) = ((i + 1 : Nat) : Int) := by unfold wrap64; omega
    rw [cnt_step _ i hi2] at hk
    refine ⟨k + 1, ?_⟩
    simp only [refL] at hk ⊢
    rw [ferrulelaw28_ReportLines.l0, if_pos (by omega), if_pos (by omega), w1]
    by_cases hc : bt (outB kd c l) (i : Int) = 10
    · rw [if_pos hc] at hk ⊢
      have w2 : wrap64 ((cnt (outB kd c l) i : Int) + 1) = ((cnt (outB kd c l) i + 1 : Nat) : Int) := by unfold wrap64; omega
      rw [w2]; exact hk
    · rw [if_neg hc] at hk ⊢
      exact hk
theorem lines_law (kd c : Int) (l : List Int) (hr : ∀ n ∈ l, okInt n) (hc : okInt c) (hk : okInt kd) :
    ∃ k, ferrulelaw28_ReportLines.f k kd c l = some true := by
  by_cases hl : (l.length : Int) > 1000
  · exact ⟨0, if_pos hl⟩
  · obtain ⟨k, h⟩ := lines_loop kd c hc l (by omega) hr (outB kd c l).size 0 (by omega)
    refine ⟨k, ?_⟩
    have e4 : report_Outcome.f kd c l = some (outB kd c l) := if_pos ⟨by omega, hr, hc, hk⟩
    unfold ferrulelaw28_ReportLines.f
    rw [if_neg hl, e4]
    simp only [Option.bind_some]
    exact h
end Go.Proofs.YtocjfdpknfnamaaDoor.Rep
