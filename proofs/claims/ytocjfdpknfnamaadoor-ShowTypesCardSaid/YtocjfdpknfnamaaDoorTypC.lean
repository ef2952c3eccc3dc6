/- The plain law of ShowTypes, first part: the reference's text of a number is strconv's. -/
import Derived.Test.YtocjfdpknfnamaaDoorTypA
import Derived.Test.YtocjfdpknfnamaaDoorRefT1
namespace Go.Proofs.YtocjfdpknfnamaaDoor.Typ
open Go.RowKit Go.Proofs.YtocjfdpknfnamaaDoor.PShowTypes Go.Proofs.YtocjfdpknfnamaaDoorW.PrintWords Go.Proofs.YtocjfdpknfnamaaDoorW.PrintLast Go.Proofs.YtocjfdpknfnamaaDoorW.PrintMore
set_option linter.unusedVariables false

def dec (n : Nat) : ByteArray := ⟨(Lib.decDigits n).toArray⟩
theorem dec_small (n : Nat) (h : n < 10) : (⟨#[48, 49, 50, 51, 52, 53, 54, 55, 56, 57]⟩ : ByteArray).extract n (n + 1) = dec n := by
  unfold dec
  rw [Lib.decDigits_one h]
  rcases n with _ | _ | _ | _ | _ | _ | _ | _ | _ | _ | n
  all_goals first | (exfalso; omega) | rfl
theorem dec_step (n : Nat) (h : ¬ n < 10) : dec n = dec (n / 10) ++ dec (n % 10) := by
  have h2 : n % 10 < 10 := by omega
  unfold dec
  rw [Lib.decDigits, dif_neg h, Lib.decDigits_one h2]
  simp [ByteArray.ext_iff]
theorem dec_size (n : Nat) : (dec n).size ≤ n + 1 := by
  induction n using Nat.strongRecOn with
  | _ n ih =>
    by_cases h : n < 10
    · unfold dec
      rw [Lib.decDigits_one h]
      show 1 ≤ n + 1
      omega
    · rw [dec_step n h, ByteArray.size_append]
      have h1 := ih (n / 10) (by omega)
      have h2 : (dec (n % 10)).size = 1 := by
        unfold dec
        rw [Lib.decDigits_one (by omega)]
        rfl
      omega

theorem digits_le {k k' : Nat} (h : k ≤ k') {n : Int} {r : ByteArray} (hr : ferruleref04_digits.f k n = some r) : ferruleref04_digits.f k' n = some r :=
  at_rounds (fun k => ferruleref04_digits.mono_l k _) h hr
theorem digits_pos (n : Nat) : n ≤ 9223372036854775807 → ∃ k, ferruleref04_digits.f k (n : Int) = some (dec n) := by
  induction n using Nat.strongRecOn with
  | _ n ih =>
    intro hn
    by_cases h : n < 10
    · refine ⟨1, ?_⟩
      have hw : wrap64 ((n : Int) + 1) = ((n + 1 : Nat) : Int) := by unfold wrap64; omega
      simp only [ferruleref04_digits.f]
      rw [if_neg (by omega), if_pos (by omega), if_pos (by omega), hw, if_pos (by omega), if_pos (by omega), Int.toNat_natCast, Int.toNat_natCast, dec_small n h]
    · obtain ⟨k1, h1⟩ := ih (n / 10) (by omega) (by omega)
      obtain ⟨k2, h2⟩ := ih (n % 10) (by omega) (by omega)
      refine ⟨max k1 k2 + 1, ?_⟩
      have e1 := digits_le (Nat.le_max_left k1 k2) h1
      have e2 := digits_le (Nat.le_max_right k1 k2) h2
      have w1 : wrap64 (Int.tdiv (n : Int) 10) = ((n / 10 : Nat) : Int) := by
        rw [show Int.tdiv (n : Int) 10 = ((n / 10 : Nat) : Int) from rfl]; unfold wrap64; omega
      have w2 : Int.tmod (n : Int) 10 = ((n % 10 : Nat) : Int) := rfl
      have s1 := dec_size (n / 10)
      have s2 := dec_size (n % 10)
      simp only [ferruleref04_digits.f]
      rw [if_neg (by omega), if_neg (by omega), w1, w2, e1]
      simp only [Option.bind_some]
      rw [e2]
      simp only [Option.bind_some]
      rw [if_pos (by omega), dec_step n h]
theorem tdiv_neg (m : Nat) : Int.tdiv (-(m : Int)) 10 = -((m / 10 : Nat) : Int) := by rw [Int.neg_tdiv]; rfl
theorem tmod_neg (m : Nat) : Int.tmod (-(m : Int)) 10 = -((m % 10 : Nat) : Int) := by rw [Int.neg_tmod]; rfl
theorem itoa_pos (n : Nat) : itoa (n : Int) = dec n := by unfold itoa dec Lib.itoa; rw [if_neg (by omega), Int.toNat_natCast]
theorem itoa_neg (n : Nat) (h : 0 < n) : itoa (-(n : Int)) = ⟨#[45]⟩ ++ dec n := by
  unfold itoa dec Lib.itoa
  rw [if_pos (by omega), Int.natAbs_neg, Int.natAbs_natCast]
  simp [ByteArray.ext_iff]
theorem number_le {k k' : Nat} (h : k ≤ k') {n : Int} {r : ByteArray} (hr : ferruleref04_number.f k n = some r) : ferruleref04_number.f k' n = some r :=
  at_rounds (fun k => ferruleref04_number.mono _ k) h hr
theorem number_is (n : Int) (h0 : -9223372036854775808 ≤ n) (h1 : n ≤ 9223372036854775807) : ∃ k, ferruleref04_number.f k n = some (itoa n) := by
  by_cases hn : 0 ≤ n
  · obtain ⟨m, rfl⟩ : ∃ m : Nat, n = m := ⟨n.toNat, by omega⟩
    obtain ⟨k, hk⟩ := digits_pos m (by omega)
    refine ⟨k + 1, ?_⟩
    simp only [ferruleref04_number.f, ferruleref04_number.j0]
    rw [if_pos (by omega), show decide ((m : Int) < 0) = false from decide_eq_false (by omega), if_neg (by decide), hk, itoa_pos]; rfl
  · obtain ⟨m, rfl, hm⟩ : ∃ m : Nat, n = -(m : Int) ∧ 0 < m := ⟨(-n).toNat, by omega, by omega⟩
    by_cases h10 : m < 10
    · obtain ⟨k, hk⟩ := digits_pos m (by omega)
      have hw : wrap64 (-(-(m : Int))) = (m : Int) := by unfold wrap64; omega
      have s := dec_size m
      refine ⟨k + 1, ?_⟩
      simp only [ferruleref04_number.f, ferruleref04_number.j0]
      rw [if_pos (by omega), show decide (-(m : Int) < 0) = true from decide_eq_true (by omega), if_pos rfl, hw, hk]
      simp only [Option.bind_some]
      rw [if_pos (by omega), itoa_neg m hm]
    · obtain ⟨k1, e1⟩ := digits_pos (m / 10) (by omega)
      obtain ⟨k2, e2⟩ := digits_pos (m % 10) (by omega)
      replace e1 := digits_le (Nat.le_max_left k1 k2) e1
      replace e2 := digits_le (Nat.le_max_right k1 k2) e2
      have s1 := dec_size (m / 10)
      have s2 := dec_size (m % 10)
      have w1 : wrap64 (-(wrap64 (-((m / 10 : Nat) : Int)))) = ((m / 10 : Nat) : Int) := by unfold wrap64; omega
      have w2 : wrap64 (-(-((m % 10 : Nat) : Int))) = ((m % 10 : Nat) : Int) := by unfold wrap64; omega
      refine ⟨max k1 k2 + 2, ?_⟩
      simp only [ferruleref04_number.f, ferruleref04_number.j0]
      rw [if_neg (by omega), if_neg (by decide)]
      simp only [ferruleref04_digits.f]
      rw [if_pos (by omega), tdiv_neg, tmod_neg, w1, w2, e1]
      simp only [Option.bind_some]
      rw [if_pos (by omega), e2]
      simp only [Option.bind_some]
      rw [if_pos (by rw [ByteArray.size_append]; show 1 + _ + _ ≤ _; omega)]
      simp only [Option.bind_some]
      rw [itoa_neg m hm, dec_step m h10, ByteArray.append_assoc]
end Go.Proofs.YtocjfdpknfnamaaDoor.Typ
