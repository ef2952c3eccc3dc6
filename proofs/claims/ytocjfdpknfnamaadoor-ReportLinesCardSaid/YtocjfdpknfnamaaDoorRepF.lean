/- The plain law of ReportPlaces, second part: the reference's places are report's. -/
import Derived.Test.YtocjfdpknfnamaaDoorRepE
namespace Go.Proofs.YtocjfdpknfnamaaDoor.Rep
open Go.Maps Go.RowKit Go.Proofs.YtocjfdpknfnamaaDoor.PReportPlaces Go.Proofs.YtocjfdpknfnamaaDoorW.PrintWords Go.Proofs.YtocjfdpknfnamaaDoorW.PrintLast Go.Proofs.YtocjfdpknfnamaaDoorW.PrintMore
set_option linter.unusedVariables false

def cnt (s : ByteArray) (i : Nat) : Nat := Lib.countByte (s.data.toList.take i) 10
theorem byte_at (s : ByteArray) (i : Nat) (h : i < s.size) : bt s (i : Int) = ((s.data[i]!).toNat : Int) := by
  have h' : i < s.data.size := h
  unfold bt
  rw [dif_pos (by simpa using h)]
  simp only [Int.toNat_natCast]
  rw [getElem!_pos s.data i h']
  rfl
theorem cnt_step (s : ByteArray) (i : Nat) (h : i < s.size) : cnt s (i + 1) = cnt s i + if bt s (i : Int) = 10 then 1 else 0 := by
  have h' : i < s.data.size := h
  have e : s.data.toList.take (i + 1) = s.data.toList.take i ++ [s.data[i]!] := by
    rw [List.take_add_one]
    simp
    rw [getElem!_pos s.data i h', Array.getElem?_eq_getElem h']
  unfold cnt Lib.countByte
  rw [e, List.count_append, byte_at s i h]
  congr 1
  rw [List.count_singleton]
  have hb : (s.data[i]! == 10) = true ↔ ((s.data[i]!).toNat : Int) = 10 := by
    rw [beq_iff_eq]
    constructor
    · intro h; rw [h]; rfl
    · intro h; exact UInt8.toNat_inj.1 (by simpa using Int.ofNat.inj h)
  by_cases hc : ((s.data[i]!).toNat : Int) = 10
  · rw [if_pos hc, if_pos (hb.2 hc)]
  · rw [if_neg hc, if_neg (fun h => hc (hb.1 h))]
theorem last_step (s : ByteArray) (i : Nat) (h : i < s.size) : Lib.lastIdx s 10 (i + 1) = if bt s (i : Int) = 10 then (i : Int) else Lib.lastIdx s 10 i := by
  rw [byte_at s i h]
  by_cases hc : ((s.data[i]!).toNat : Int) = 10
  · rw [if_pos hc, Lib.lastIdx_hit s 10 i hc]
  · rw [if_neg hc, Lib.lastIdx_miss s 10 i hc]
theorem last_range (s : ByteArray) (k : Nat) : -1 ≤ Lib.lastIdx s 10 k ∧ Lib.lastIdx s 10 k < k := by
  rcases Lib.lastIdx_spec s 10 k with ⟨h, _⟩ | ⟨i, h1, h2, _⟩
  · rw [h]; omega
  · rw [h2]; omega

abbrev refW (k : Nat) (s : ByteArray) (a ln cl i : Int) : Option (Int × Int) := ferruleref28_Where.l0 k s a ln cl i
theorem where_loop (s : ByteArray) (a : Int) (hs : s.size ≤ 1000000) (d : Nat) :
    ∀ i : Nat, i + d = upto s a → ∃ k, refW k s a (1 + (cnt s i : Int)) ((i : Int) - Lib.lastIdx s 10 i) (i : Int) = some (1 + (cnt s (upto s a) : Int), (upto s a : Int) - Lib.lastIdx s 10 (upto s a)) := by
  have hu : (upto s a : Int) = min (max a 0) (s.size : Int) := by unfold upto; omega
  induction d with
  | zero =>
    intro i hi
    have e : i = upto s a := by omega
    refine ⟨2, ?_⟩
    simp only [refW]
    rw [ferruleref28_Where.l0, e]
    by_cases h : ((upto s a : Nat) : Int) < a
    · rw [if_pos h, show decide (((upto s a : Nat) : Int) < (s.size : Int)) = false from decide_eq_false (by omega), ferruleref28_Where.j1, if_neg (by decide)]
    · rw [if_neg h, ferruleref28_Where.j1, if_neg (by decide)]
  | succ d ih =>
    intro i hi
    have h1 : (i : Int) < a := by omega
    have h2 : i < s.size := by omega
    obtain ⟨k, hk⟩ := ih (i + 1) (by omega)
    have hr := last_range s i
    have hcn : cnt s i ≤ i := by
      unfold cnt Lib.countByte
      exact Nat.le_trans List.count_le_length (by rw [List.length_take]; omega)
    have w1 : wrap64 ((i : Int) + 1) = ((i + 1 : Nat) : Int) := by unfold wrap64; omega
    refine ⟨k + 2, ?_⟩
    simp only [refW] at hk ⊢
    rw [ferruleref28_Where.l0, if_pos h1, show decide ((i : Int) < (s.size : Int)) = true from decide_eq_true (by omega), ferruleref28_Where.j1, if_pos rfl, if_pos (by omega), if_pos (by omega), w1]
    rw [cnt_step s i h2, last_step s i h2] at hk
    by_cases hc : bt s (i : Int) = 10
    · rw [if_pos hc] at hk ⊢
      rw [if_pos hc] at hk
      have w2 : wrap64 (1 + (cnt s i : Int) + 1) = 1 + ((cnt s i + 1 : Nat) : Int) := by unfold wrap64; omega
      have w3 : (1 : Int) = ((i + 1 : Nat) : Int) - (i : Int) := by omega
      rw [w2]
      rw [← w3] at hk
      exact hk
    · rw [if_neg hc] at hk ⊢
      rw [if_neg hc] at hk
      have w2 : wrap64 ((i : Int) - Lib.lastIdx s 10 i + 1) = ((i + 1 : Nat) : Int) - Lib.lastIdx s 10 i := by unfold wrap64; omega
      rw [w2]
      exact hk
theorem ahead_bytes (s : ByteArray) (a : Int) : (ahead s a).data.toList = s.data.toList.take (upto s a) := by
  unfold ahead
  simp [ByteArray.data_extract, Array.toList_extract, List.extract]
theorem last_same (x s : ByteArray) : ∀ k : Nat, (∀ j, j < k → x.data[j]! = s.data[j]!) → Lib.lastIdx x 10 k = Lib.lastIdx s 10 k
  | 0, _ => rfl
  | k + 1, h => by
    have ih := last_same x s k (fun j hj => h j (by omega))
    by_cases hc : ((s.data[k]!).toNat : Int) = 10
    · rw [Lib.lastIdx_hit s 10 k hc, Lib.lastIdx_hit x 10 k (by rw [h k (by omega)]; exact hc)]
    · rw [Lib.lastIdx_miss s 10 k hc, Lib.lastIdx_miss x 10 k (by rw [h k (by omega)]; exact hc), ih]
theorem upto_le (s : ByteArray) (a : Int) : upto s a ≤ s.size := by unfold upto; omega
theorem ahead_len (s : ByteArray) (a : Int) : (ahead s a).size = upto s a := by
  have := upto_le s a
  unfold ahead
  rw [ByteArray.size_extract]; omega
theorem where_is (s : ByteArray) (a : Int) (hs : s.size ≤ 1000000) : ∃ k, ferruleref28_Where.f k s a = some (1 + (Lib.countByte (ahead s a).data.toList 10 : Int), ((ahead s a).size : Int) - Lib.lastIndexByte (ahead s a) 10) := by
  obtain ⟨k, h⟩ := where_loop s a hs (upto s a) 0 (by omega)
  refine ⟨k, ?_⟩
  have e1 : Lib.countByte (ahead s a).data.toList 10 = cnt s (upto s a) := by rw [ahead_bytes]; rfl
  have e2 : Lib.lastIndexByte (ahead s a) 10 = Lib.lastIdx s 10 (upto s a) := by
    unfold Lib.lastIndexByte
    rw [ahead_len]
    refine last_same _ _ _ (fun j hj => ?_)
    have hu := upto_le s a
    have h1 : j < (ahead s a).data.size := by have := ahead_len s a; change j < (ahead s a).size; omega
    have h2 : j < s.data.size := by change j < s.size; omega
    rw [getElem!_pos _ j h1, getElem!_pos _ j h2]
    have := congrArg (·[j]?) (ahead_bytes s a)
    simp only [Array.getElem?_toList, List.getElem?_take_of_lt hj] at this
    rw [Array.getElem?_eq_getElem h1, Array.getElem?_eq_getElem h2] at this
    exact Option.some.inj this
  rw [e1, e2, ahead_len]
  have h0 : refW k s a 1 1 0 = _ := h
  exact h0

theorem whereF_le {k k' : Nat} (h : k ≤ k') {s : ByteArray} {a : Int} {r : Int × Int} (hr : ferruleref28_Where.f k s a = some r) : ferruleref28_Where.f k' s a = some r :=
  at_rounds (fun k => ferruleref28_Where.mono _ _ k) h hr
theorem outF_le {k k' : Nat} (h : k ≤ k') {a c : Int} {l : List Int} {r : ByteArray} (hr : ferruleref28_Outcome.f k a c l = some r) : ferruleref28_Outcome.f k' a c l = some r :=
  at_rounds (fun k => ferruleref28_Outcome.mono _ _ _ k) h hr
theorem places_j (s : ByteArray) (a kd c : Int) (l : List Int) (hs : s.size ≤ 5000) (hl : l.length ≤ 1000) (hr : ∀ n ∈ l, okInt n) (hc : okInt c) (hk : okInt kd) :
    ∃ k, ferrulelaw28_ReportPlaces.j0 k s a kd c l = some true := by
  obtain ⟨k1, h1⟩ := where_is s a (by omega)
  obtain ⟨k2, h2⟩ := outcome_is kd c hc l hl hr
  refine ⟨max k1 k2 + 1, ?_⟩
  have e1 := whereF_le (Nat.le_max_left k1 k2) h1
  have e2 := outF_le (Nat.le_max_right k1 k2) h2
  have e3 : report_Where.f s a = some (1 + (Lib.countByte (ahead s a).data.toList 10 : Int), ((ahead s a).size : Int) - Lib.lastIndexByte (ahead s a) 10) := if_pos (by omega)
  have e4 : report_Outcome.f kd c l = some ⟨(outL kd c l).toArray⟩ := if_pos ⟨hl, hr, hc, hk⟩
  rw [ferrulelaw28_ReportPlaces.j0, e3]
  simp only [Option.bind_some]
  rw [e1]
  simp only [Option.bind_some]
  rw [if_pos trivial, if_pos trivial, e4]
  simp only [Option.bind_some]
  rw [e2]
  simp only [Option.bind_some]
  simp
theorem places_law (s : ByteArray) (a kd c : Int) (l : List Int) (hr : ∀ n ∈ l, okInt n) (hc : okInt c) (hk : okInt kd) :
    ∃ k, ferrulelaw28_ReportPlaces.f k s a kd c l = some true := by
  by_cases hl : (l.length : Int) > 1000
  · exact ⟨0, if_pos hl⟩
  by_cases hs : (s.size : Int) > 5000
  · obtain ⟨k, h⟩ := places_j (s.extract 0 5000) a kd c l (by rw [ByteArray.size_extract]; omega) (by omega) hr hc hk
    refine ⟨k, ?_⟩
    unfold ferrulelaw28_ReportPlaces.f
    rw [if_neg hl, if_pos hs, if_pos (by omega), if_pos (by omega)]
    exact h
  · obtain ⟨k, h⟩ := places_j s a kd c l (by omega) (by omega) hr hc hk
    refine ⟨k, ?_⟩
    unfold ferrulelaw28_ReportPlaces.f
    rw [if_neg hl, if_neg hs]
    exact h
end Go.Proofs.YtocjfdpknfnamaaDoor.Rep
