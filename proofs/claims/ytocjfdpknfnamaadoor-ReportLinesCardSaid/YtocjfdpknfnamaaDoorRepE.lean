/- The plain law of ReportPlaces, first part: the reference's texts are report's. -/
import Derived.Test.YtocjfdpknfnamaaDoorRepP
namespace Go.Proofs.YtocjfdpknfnamaaDoor.Rep
open Go.Maps Go.RowKit Go.Proofs.YtocjfdpknfnamaaDoor.PReportPlaces Go.Proofs.YtocjfdpknfnamaaDoorW.PrintWords Go.Proofs.YtocjfdpknfnamaaDoorW.PrintLast Go.Proofs.YtocjfdpknfnamaaDoorW.PrintMore
set_option linter.unusedVariables false

/-! ### numbers -/
def dec (n : Nat) : ByteArray := ⟨(Lib.decDigits n).toArray⟩
theorem dec_small (n : Nat) (h : n < 10) : (⟨#[48, 49, 50, 51, 52, 53, 54, 55, 56, 57]⟩ : ByteArray).extract n (n + 1) = dec n := by
  unfold dec
  rw [Lib.decDigits_one h]
  rcases n with _ | _ | _ | _ | _ | _ | _ | _ | _ | _ | n
  all_goals first | (exfalso; omega) | rfl
theorem dec_step (n : Nat) (h : ¬ n < 10) : dec n = dec (n / 10) ++ dec (n % 10) := by
  have h2 : n % 10 < 10 := by omega
  unfold dec
  rw [Lib.decDigits, dif_neg h, Lib.decDigits_one h2]
  simp [ByteArray.ext_iff]
theorem dec_size (n : Nat) : (dec n).size ≤ n + 1 := by
  induction n using Nat.strongRecOn with
  | _ n ih =>
    by_cases h : n < 10
    · unfold dec
      rw [Lib.decDigits_one h]
      show 1 ≤ n + 1
      omega
    · rw [dec_step n h, ByteArray.size_append]
      have h1 := ih (n / 10) (by omega)
      have h2 : (dec (n % 10)).size = 1 := by
        unfold dec
        rw [Lib.decDigits_one (by omega)]
        rfl
      omega

theorem digits_le {k k' : Nat} (h : k ≤ k') {n : Int} {r : ByteArray} (hr : ferruleref28_digits.f k n = some r) : ferruleref28_digits.f k' n = some r :=
  at_rounds (fun k => ferruleref28_digits.mono_l k _) h hr
theorem digits_pos (n : Nat) : n ≤ 9223372036854775808 → ∃ k, ferruleref28_digits.f k (n : Int) = some (dec n) := by
  induction n using Nat.strongRecOn with
  | _ n ih =>
    intro hn
    by_cases h : n < 10
    · refine ⟨1, ?_⟩
      have hw : wrap64 ((n : Int) + 1) = ((n + 1 : Nat) : Int) := by unfold wrap64; omega
      simp only [ferruleref28_digits.f]
      rw [if_pos (by omega), if_pos (by omega), hw, if_pos (by omega), if_pos (by omega), Int.toNat_natCast, Int.toNat_natCast, dec_small n h]
    · obtain ⟨k1, h1⟩ := ih (n / 10) (by omega) (by omega)
      obtain ⟨k2, h2⟩ := ih (n % 10) (by omega) (by omega)
      refine ⟨max k1 k2 + 1, ?_⟩
      have e1 := digits_le (Nat.le_max_left k1 k2) h1
      have e2 := digits_le (Nat.le_max_right k1 k2) h2
      have w1 : wrap64 (Int.tdiv (n : Int) 10) = ((n / 10 : Nat) : Int) := by
        rw [show Int.tdiv (n : Int) 10 = ((n / 10 : Nat) : Int) from rfl]; unfold wrap64; omega
      have w2 : Int.tmod (n : Int) 10 = ((n % 10 : Nat) : Int) := rfl
      have s1 := dec_size (n / 10)
      have s2 := dec_size (n % 10)
      simp only [ferruleref28_digits.f]
      rw [if_neg (by omega), w1, w2, e1]
      simp only [Option.bind_some]
      rw [e2]
      simp only [Option.bind_some]
      rw [if_pos (by omega), dec_step n h]
theorem tdiv_neg (m : Nat) : Int.tdiv (-(m : Int)) 10 = -((m / 10 : Nat) : Int) := by rw [Int.neg_tdiv]; rfl
theorem tmod_neg (m : Nat) : Int.tmod (-(m : Int)) 10 = -((m % 10 : Nat) : Int) := by rw [Int.neg_tmod]; rfl
theorem itoa_pos (n : Nat) : itoaB (n : Int) = dec n := by unfold itoaB dec Lib.itoa; rw [if_neg (by omega), Int.toNat_natCast]
theorem itoa_neg (n : Nat) (h : 0 < n) : itoaB (-(n : Int)) = ⟨#[45]⟩ ++ dec n := by
  unfold itoaB dec Lib.itoa
  rw [if_pos (by omega), Int.natAbs_neg, Int.natAbs_natCast]
  simp [ByteArray.ext_iff]
theorem number_le {k k' : Nat} (h : k ≤ k') {n : Int} {r : ByteArray} (hr : ferruleref28_Number.f k n = some r) : ferruleref28_Number.f k' n = some r :=
  at_rounds (fun k => ferruleref28_Number.mono_l k _) h hr
theorem number_neg (m : Nat) : 0 < m → m ≤ 9223372036854775808 → ∃ k, ferruleref28_Number.f k (-(m : Int)) = some (itoaB (-(m : Int))) := by
  induction m using Nat.strongRecOn with
  | _ m ih =>
    intro hm hn
    by_cases h10 : m < 10
    · obtain ⟨k, hk⟩ := digits_pos m (by omega)
      have hw : wrap64 (-(-(m : Int))) = (m : Int) := by unfold wrap64; omega
      have s := dec_size m
      refine ⟨k + 1, ?_⟩
      simp only [ferruleref28_Number.f]
      rw [if_neg (by omega), if_pos (by omega), hw, hk]
      simp only [Option.bind_some]
      rw [if_pos (by omega), itoa_neg m hm]
    · obtain ⟨k1, e1⟩ := ih (m / 10) (by omega) (by omega) (by omega)
      obtain ⟨k2, e2⟩ := digits_pos (m % 10) (by omega)
      replace e1 := number_le (Nat.le_max_left k1 k2) e1
      replace e2 := digits_le (Nat.le_max_right k1 k2) e2
      have s1 := itoaB_size (-((m / 10 : Nat) : Int)) ⟨by omega, by omega⟩
      have s2 := dec_size (m % 10)
      have w1 : wrap64 (-((m / 10 : Nat) : Int)) = -((m / 10 : Nat) : Int) := by unfold wrap64; omega
      have w2 : wrap64 (-(-((m % 10 : Nat) : Int))) = ((m % 10 : Nat) : Int) := by unfold wrap64; omega
      refine ⟨max k1 k2 + 1, ?_⟩
      simp only [ferruleref28_Number.f]
      rw [if_neg (by omega), if_neg (by omega), tdiv_neg, tmod_neg, w1, w2, e1]
      simp only [Option.bind_some]
      rw [e2]
      simp only [Option.bind_some]
      rw [if_pos (by omega), itoa_neg (m / 10) (by omega), itoa_neg m hm, dec_step m h10, ByteArray.append_assoc]
theorem number_is (n : Int) (h : okInt n) : ∃ k, ferruleref28_Number.f k n = some (itoaB n) := by
  obtain ⟨h0, h1⟩ := h
  by_cases hn : 0 ≤ n
  · obtain ⟨m, rfl⟩ : ∃ m : Nat, n = m := ⟨n.toNat, by omega⟩
    obtain ⟨k, hk⟩ := digits_pos m (by omega)
    refine ⟨k + 1, ?_⟩
    simp only [ferruleref28_Number.f]
    rw [if_pos (by omega), hk, itoa_pos]; rfl
  · obtain ⟨m, rfl, hm⟩ : ∃ m : Nat, n = -(m : Int) ∧ 0 < m := ⟨(-n).toNat, by omega, by omega⟩
    exact number_neg m hm (by omega)

/-! ### outcomes -/
abbrev refO (k : Nat) (x : ByteArray) (i kd c : Int) (l : List Int) : Option ByteArray := ferruleref28_Outcome.l0 k x i kd c l
theorem refO_le {k k' : Nat} (h : k ≤ k') {x : ByteArray} {i kd c : Int} {l : List Int} {r : ByteArray} (hr : refO k x i kd c l = some r) : refO k' x i kd c l = some r :=
  at_rounds (fun k => ferruleref28_Outcome.mono_l k _ _ _ _ _) h hr
theorem outcome_end (kd c : Int) (hc : okInt c) (l : List Int) (x : ByteArray) (i : Int) (hi : ¬ i < (l.length : Int)) (hx : x.size ≤ 1000000) :
    ∃ k, refO k x i kd c l = some (x ++ (lastB kd c ++ ⟨#[10]⟩)) := by
  obtain ⟨k, hk⟩ := number_is c hc
  have hs := itoaB_size c hc
  refine ⟨k + 1, ?_⟩
  simp only [refO]
  rw [ferruleref28_Outcome.l0, if_neg hi]
  by_cases h0 : kd = 0
  · subst h0
    rw [if_pos rfl, if_pos (by omega)]
    rfl
  rw [if_neg h0]
  by_cases h1 : kd = 1
  · subst h1
    rw [if_pos rfl, if_pos (by omega), hk]
    simp only [Option.bind_some]
    rw [if_pos (by rw [ByteArray.size_append]; simp only [show (⟨#[101, 120, 105, 116, 32]⟩ : ByteArray).size = 5 from rfl]; omega), if_pos (by simp only [ByteArray.size_append, show (⟨#[101, 120, 105, 116, 32]⟩ : ByteArray).size = 5 from rfl]; omega)]
    congr 1
    have e : lastB 1 c = (⟨#[101, 120, 105, 116, 32]⟩ : ByteArray) ++ itoaB c := by
      unfold lastB; rw [if_pos rfl, ← ByteArray.append_assoc]; rfl
    rw [e]
    simp only [ByteArray.append_assoc]
  rw [if_neg h1]
  by_cases h2 : kd = 2
  · subst h2
    rw [if_pos rfl, if_pos (by omega)]; rfl
  rw [if_neg h2]
  by_cases h3 : kd = 3
  · subst h3
    rw [if_pos rfl, if_pos (by omega)]; rfl
  rw [if_neg h3]
  by_cases h4 : kd = 4
  · subst h4
    rw [if_pos rfl, if_pos (by omega)]; rfl
  rw [if_neg h4]
  by_cases h5 : kd = 5
  · subst h5
    rw [if_pos rfl, if_pos (by omega)]; rfl
  rw [if_neg h5, if_pos (by omega)]
  have e : lastB kd c = ⟨#[63]⟩ := by
    unfold lastB
    rw [if_neg h1, if_neg]
    unfold known
    rw [decide_eq_true_eq]
    omega
  rw [e]
  rfl
def linesB (l : List Int) : ByteArray := ⟨(lines l).toArray⟩
theorem outcome_loop (kd c : Int) (hc : okInt c) (l : List Int) (hl : l.length ≤ 1000) (hr : ∀ n ∈ l, okInt n) (d : Nat) :
    ∀ i : Nat, i + d = l.length → ∃ k, refO k (linesB (l.take i)) (i : Int) kd c l = some (linesB l ++ (lastB kd c ++ ⟨#[10]⟩)) := by
  induction d with
  | zero =>
    intro i hi
    have hz := lines_len l hr
    rw [show l.take i = l from List.take_of_length_le (by omega)]
    exact outcome_end kd c hc l _ i (by omega) (by simp [linesB, ByteArray.size]; omega)
  | succ d ih =>
    intro i hi
    have hm : l.getD i 0 ∈ l := by
      rw [List.getD_eq_getElem?_getD, List.getElem?_eq_getElem (by omega)]; exact List.getElem_mem _
    obtain ⟨k1, h1⟩ := number_is (l.getD i 0) (hr _ hm)
    obtain ⟨k2, h2⟩ := ih (i + 1) (by omega)
    have hz := lines_len (l.take i) (fun n hn => hr n (List.mem_of_mem_take hn))
    have hz1 : (linesB (l.take i)).size ≤ 22000 := by
      rw [List.length_take] at hz
      simp [linesB, ByteArray.size]; omega
    have hz2 := itoaB_size (l.getD i 0) (hr _ hm)
    have hw : wrap64 ((i : Int) + 1) = ((i + 1 : Nat) : Int) := by unfold wrap64; omega
    refine ⟨max k1 k2 + 1, ?_⟩
    have e1 := number_le (Nat.le_max_left k1 k2) h1
    have e2 := refO_le (Nat.le_max_right k1 k2) h2
    have er : rd l (i : Int) = l.getD i 0 := by simp [rd]
    simp only [refO] at e2 ⊢
    rw [ferruleref28_Outcome.l0, if_pos (by omega), if_pos (by omega), er, e1]
    simp only [Option.bind_some]
    rw [if_pos (by omega), if_pos (by rw [ByteArray.size_append]; omega), hw]
    have e3 : linesB (l.take (i + 1)) = (linesB (l.take i) ++ itoaB (l.getD i 0)) ++ ⟨#[10]⟩ := by
      unfold linesB
      rw [lines_snoc l i (by omega)]
      simp [line, itoaB, ByteArray.ext_iff]
    rw [← e3]
    exact e2
theorem outcome_is (kd c : Int) (hc : okInt c) (l : List Int) (hl : l.length ≤ 1000) (hr : ∀ n ∈ l, okInt n) : ∃ k, ferruleref28_Outcome.f k kd c l = some ⟨(outL kd c l).toArray⟩ := by
  obtain ⟨k, h⟩ := outcome_loop kd c hc l hl hr l.length 0 (by omega)
  refine ⟨k, ?_⟩
  have e : (⟨(outL kd c l).toArray⟩ : ByteArray) = linesB l ++ (lastB kd c ++ ⟨#[10]⟩) := by
    simp [outL, linesB, ByteArray.ext_iff]
  rw [e]
  exact h
end Go.Proofs.YtocjfdpknfnamaaDoor.Rep
