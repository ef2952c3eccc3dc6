/- What mir.Do makes of two words, an operation at a time; and the sums that the law MirSums asks of them, for any two words. -/
import Derived.Test.YtocjfdpknfnamaaPureMirDoes
import Derived.Test.YtocjfdpknfnamaaSumsWalk
namespace Go.Proofs.Ytocjfdpknfnamaa.Sums
open Go.RowKit Go.Proofs.Ytocjfdpknfnamaa.PMirDoes Go.Proofs.YtocjfdpknfnamaaW.PrintWords Go.Proofs.YtocjfdpknfnamaaW.PrintLast Go.Proofs.YtocjfdpknfnamaaW.PrintMore Go.Proofs.Ytocjfdpknfnamaa.Pure
set_option linter.unusedVariables false

theorem bytes_of (l : List UInt8) : (⟨l.toArray⟩ : ByteArray).toList = l := ByteArray.toList_mk l

theorem op_add {x y : Int} (x0 : -2147483648 ≤ x) (x1 : x ≤ 2147483647) (y0 : -2147483648 ≤ y) (y1 : y ≤ 2147483647) : mir_Do.f 3 ⟨([97, 100, 100] : List UInt8).toArray⟩ x y = some (wrap32 (x + y), true) := by
  have c := bytes_of [97, 100, 100]
  rw [do_is 0]
  unfold ferruleref12_Do.f
  rw [word_is, word_is, wrap32_self x0 x1, wrap32_self y0 y1]
  simp only [Option.bind_some, whole_is]
  rw [divide_is (x := x) (by omega) (by omega), divide_is (x := x % 4294967296) (by omega) (by omega)]
  simp only [Option.bind_some]
  rw [if_pos c]
  rw [word_is, wrap64_self (n := x + y) (by omega) (by omega)]; rfl
theorem op_sub {x y : Int} (x0 : -2147483648 ≤ x) (x1 : x ≤ 2147483647) (y0 : -2147483648 ≤ y) (y1 : y ≤ 2147483647) : mir_Do.f 3 ⟨([115, 117, 98] : List UInt8).toArray⟩ x y = some (wrap32 (x - y), true) := by
  have c := bytes_of [115, 117, 98]
  rw [do_is 0]
  unfold ferruleref12_Do.f
  rw [word_is, word_is, wrap32_self x0 x1, wrap32_self y0 y1]
  simp only [Option.bind_some, whole_is]
  rw [divide_is (x := x) (by omega) (by omega), divide_is (x := x % 4294967296) (by omega) (by omega)]
  simp only [Option.bind_some]
  rw [if_neg (by rw [c]; decide), if_pos c]
  rw [word_is, wrap64_self (n := x - y) (by omega) (by omega)]; rfl
theorem op_mul {x y : Int} (x0 : -2147483648 ≤ x) (x1 : x ≤ 2147483647) (y0 : -2147483648 ≤ y) (y1 : y ≤ 2147483647) : mir_Do.f 3 ⟨([109, 117, 108] : List UInt8).toArray⟩ x y = some (wrap32 (x * y), true) := by
  have c := bytes_of [109, 117, 108]
  rw [do_is 0]
  unfold ferruleref12_Do.f
  rw [word_is, word_is, wrap32_self x0 x1, wrap32_self y0 y1]
  simp only [Option.bind_some, whole_is]
  rw [divide_is (x := x) (by omega) (by omega), divide_is (x := x % 4294967296) (by omega) (by omega)]
  simp only [Option.bind_some]
  rw [if_neg (by rw [c]; decide), if_neg (by rw [c]; decide), if_pos c]
  have pb := mul_bd (x := x) (y := y) (a := 2147483648) (b := 2147483648) (by omega) (by omega) (by omega) (by omega)
  rw [word_is, wrap64_self (n := x * y) (by omega) (by omega)]; rfl
theorem op_mulh {x y : Int} (x0 : -2147483648 ≤ x) (x1 : x ≤ 2147483647) (y0 : -2147483648 ≤ y) (y1 : y ≤ 2147483647) : mir_Do.f 3 ⟨([109, 117, 108, 104] : List UInt8).toArray⟩ x y = some (x * y / 4294967296, true) := by
  have c := bytes_of [109, 117, 108, 104]
  rw [do_is 0]
  unfold ferruleref12_Do.f
  rw [word_is, word_is, wrap32_self x0 x1, wrap32_self y0 y1]
  simp only [Option.bind_some, whole_is]
  rw [divide_is (x := x) (by omega) (by omega), divide_is (x := x % 4294967296) (by omega) (by omega)]
  simp only [Option.bind_some]
  rw [if_neg (by rw [c]; decide), if_neg (by rw [c]; decide), if_neg (by rw [c]; decide), if_pos c]
  have pb := mul_bd (x := x) (y := y) (a := 2147483648) (b := 2147483648) (by omega) (by omega) (by omega) (by omega)
  rw [high_is (by omega) (by omega) (by omega) (by omega)]
  simp only [Option.bind_some, word_is]
  rw [wrap32_self (by omega) (by omega)]
theorem op_div {x y : Int} (x0 : -2147483648 ≤ x) (x1 : x ≤ 2147483647) (y0 : -2147483648 ≤ y) (y1 : y ≤ 2147483647) : mir_Do.f 3 ⟨([100, 105, 118] : List UInt8).toArray⟩ x y = some (wrap32 (if y = 0 then -1 else x.tdiv y), true) := by
  have c := bytes_of [100, 105, 118]
  rw [do_is 0]
  unfold ferruleref12_Do.f
  rw [word_is, word_is, wrap32_self x0 x1, wrap32_self y0 y1]
  simp only [Option.bind_some, whole_is]
  rw [divide_is (x := x) (by omega) (by omega), divide_is (x := x % 4294967296) (by omega) (by omega)]
  simp only [Option.bind_some]
  rw [if_neg (by rw [c]; decide), if_neg (by rw [c]; decide), if_neg (by rw [c]; decide), if_neg (by rw [c]; decide), if_neg (by rw [c]; decide), if_pos c]
  rw [word_is]
  by_cases h : y = 0 <;> simp [h]
theorem op_divu {x y : Int} (x0 : -2147483648 ≤ x) (x1 : x ≤ 2147483647) (y0 : -2147483648 ≤ y) (y1 : y ≤ 2147483647) : mir_Do.f 3 ⟨([100, 105, 118, 117] : List UInt8).toArray⟩ x y = some (wrap32 (if y = 0 then -1 else x % 4294967296 / (y % 4294967296)), true) := by
  have c := bytes_of [100, 105, 118, 117]
  rw [do_is 0]
  unfold ferruleref12_Do.f
  rw [word_is, word_is, wrap32_self x0 x1, wrap32_self y0 y1]
  simp only [Option.bind_some, whole_is]
  rw [divide_is (x := x) (by omega) (by omega), divide_is (x := x % 4294967296) (by omega) (by omega)]
  simp only [Option.bind_some]
  rw [if_neg (by rw [c]; decide), if_neg (by rw [c]; decide), if_neg (by rw [c]; decide), if_neg (by rw [c]; decide), if_neg (by rw [c]; decide), if_neg (by rw [c]; decide), if_pos c]
  rw [word_is]
  have hz : (y % 4294967296 = 0) = (y = 0) := by apply propext; omega
  simp only [hz]
  rw [Int.tdiv_eq_ediv_of_nonneg (by omega)]
  by_cases h : y = 0 <;> simp [h]
theorem op_rem {x y : Int} (x0 : -2147483648 ≤ x) (x1 : x ≤ 2147483647) (y0 : -2147483648 ≤ y) (y1 : y ≤ 2147483647) : mir_Do.f 3 ⟨([114, 101, 109] : List UInt8).toArray⟩ x y = some (wrap32 (if y = 0 then x else x.tmod y), true) := by
  have c := bytes_of [114, 101, 109]
  rw [do_is 0]
  unfold ferruleref12_Do.f
  rw [word_is, word_is, wrap32_self x0 x1, wrap32_self y0 y1]
  simp only [Option.bind_some, whole_is]
  rw [divide_is (x := x) (by omega) (by omega), divide_is (x := x % 4294967296) (by omega) (by omega)]
  simp only [Option.bind_some]
  rw [if_neg (by rw [c]; decide), if_neg (by rw [c]; decide), if_neg (by rw [c]; decide), if_neg (by rw [c]; decide), if_neg (by rw [c]; decide), if_neg (by rw [c]; decide), if_neg (by rw [c]; decide), if_pos c]
  rw [word_is]
  by_cases h : y = 0 <;> simp [h]
theorem op_remu {x y : Int} (x0 : -2147483648 ≤ x) (x1 : x ≤ 2147483647) (y0 : -2147483648 ≤ y) (y1 : y ≤ 2147483647) : mir_Do.f 3 ⟨([114, 101, 109, 117] : List UInt8).toArray⟩ x y = some (wrap32 (if y = 0 then x else (x % 4294967296) % (y % 4294967296)), true) := by
  have c := bytes_of [114, 101, 109, 117]
  rw [do_is 0]
  unfold ferruleref12_Do.f
  rw [word_is, word_is, wrap32_self x0 x1, wrap32_self y0 y1]
  simp only [Option.bind_some, whole_is]
  rw [divide_is (x := x) (by omega) (by omega), divide_is (x := x % 4294967296) (by omega) (by omega)]
  simp only [Option.bind_some]
  rw [if_neg (by rw [c]; decide), if_neg (by rw [c]; decide), if_neg (by rw [c]; decide), if_neg (by rw [c]; decide), if_neg (by rw [c]; decide), if_neg (by rw [c]; decide), if_neg (by rw [c]; decide), if_neg (by rw [c]; decide), if_pos c]
  rw [word_is]
  have hz : (y % 4294967296 = 0) = (y = 0) := by apply propext; omega
  simp only [hz]
  rw [Int.tmod_eq_emod_of_nonneg (by omega)]
  by_cases h : y = 0
  · simp only [if_pos h, Option.bind_some]; congr 2; unfold wrap32; omega
  · simp only [if_neg h, Option.bind_some]
theorem op_and {x y : Int} (x0 : -2147483648 ≤ x) (x1 : x ≤ 2147483647) (y0 : -2147483648 ≤ y) (y1 : y ≤ 2147483647) : mir_Do.f 3 ⟨([97, 110, 100] : List UInt8).toArray⟩ x y = some (Go.bits .and .i32 x y, true) := by
  have c := bytes_of [97, 110, 100]
  rw [do_is 0]
  unfold ferruleref12_Do.f
  rw [word_is, word_is, wrap32_self x0 x1, wrap32_self y0 y1]
  simp only [Option.bind_some, whole_is]
  rw [divide_is (x := x) (by omega) (by omega), divide_is (x := x % 4294967296) (by omega) (by omega)]
  simp only [Option.bind_some]
  rw [if_neg (by rw [c]; decide), if_neg (by rw [c]; decide), if_neg (by rw [c]; decide), if_neg (by rw [c]; decide), if_neg (by rw [c]; decide), if_neg (by rw [c]; decide), if_neg (by rw [c]; decide), if_neg (by rw [c]; decide), if_neg (by rw [c]; decide), if_pos c]
  rw [bits_and x0 x1 y0 y1]
theorem op_or {x y : Int} (x0 : -2147483648 ≤ x) (x1 : x ≤ 2147483647) (y0 : -2147483648 ≤ y) (y1 : y ≤ 2147483647) : mir_Do.f 3 ⟨([111, 114] : List UInt8).toArray⟩ x y = some (Go.bits .or .i32 x y, true) := by
  have c := bytes_of [111, 114]
  rw [do_is 0]
  unfold ferruleref12_Do.f
  rw [word_is, word_is, wrap32_self x0 x1, wrap32_self y0 y1]
  simp only [Option.bind_some, whole_is]
  rw [divide_is (x := x) (by omega) (by omega), divide_is (x := x % 4294967296) (by omega) (by omega)]
  simp only [Option.bind_some]
  rw [if_neg (by rw [c]; decide), if_neg (by rw [c]; decide), if_neg (by rw [c]; decide), if_neg (by rw [c]; decide), if_neg (by rw [c]; decide), if_neg (by rw [c]; decide), if_neg (by rw [c]; decide), if_neg (by rw [c]; decide), if_neg (by rw [c]; decide), if_neg (by rw [c]; decide), if_pos c]
  rw [bits_or x0 x1 y0 y1]
theorem op_xor {x y : Int} (x0 : -2147483648 ≤ x) (x1 : x ≤ 2147483647) (y0 : -2147483648 ≤ y) (y1 : y ≤ 2147483647) : mir_Do.f 3 ⟨([120, 111, 114] : List UInt8).toArray⟩ x y = some (Go.bits .xor .i32 x y, true) := by
  have c := bytes_of [120, 111, 114]
  rw [do_is 0]
  unfold ferruleref12_Do.f
  rw [word_is, word_is, wrap32_self x0 x1, wrap32_self y0 y1]
  simp only [Option.bind_some, whole_is]
  rw [divide_is (x := x) (by omega) (by omega), divide_is (x := x % 4294967296) (by omega) (by omega)]
  simp only [Option.bind_some]
  rw [if_neg (by rw [c]; decide), if_neg (by rw [c]; decide), if_neg (by rw [c]; decide), if_neg (by rw [c]; decide), if_neg (by rw [c]; decide), if_neg (by rw [c]; decide), if_neg (by rw [c]; decide), if_neg (by rw [c]; decide), if_neg (by rw [c]; decide), if_neg (by rw [c]; decide), if_neg (by rw [c]; decide), if_pos c]
  rw [bits_xor x0 x1 y0 y1]
theorem op_sll {x y : Int} (x0 : -2147483648 ≤ x) (x1 : x ≤ 2147483647) (y0 : -2147483648 ≤ y) (y1 : y ≤ 2147483647) : mir_Do.f 3 ⟨([115, 108, 108] : List UInt8).toArray⟩ x y = some (wrap32 (x * 2 ^ (y % 32).toNat), true) := by
  have c := bytes_of [115, 108, 108]
  rw [do_is 0]
  unfold ferruleref12_Do.f
  rw [word_is, word_is, wrap32_self x0 x1, wrap32_self y0 y1]
  simp only [Option.bind_some, whole_is]
  rw [divide_is (x := x) (by omega) (by omega), divide_is (x := x % 4294967296) (by omega) (by omega)]
  simp only [Option.bind_some]
  rw [if_neg (by rw [c]; decide), if_neg (by rw [c]; decide), if_neg (by rw [c]; decide), if_neg (by rw [c]; decide), if_neg (by rw [c]; decide), if_neg (by rw [c]; decide), if_neg (by rw [c]; decide), if_neg (by rw [c]; decide), if_neg (by rw [c]; decide), if_neg (by rw [c]; decide), if_neg (by rw [c]; decide), if_neg (by rw [c]; decide), if_pos c]
  have em : Int.tmod (y % 4294967296) 32 = y % 32 := by rw [Int.tmod_eq_emod_of_nonneg (by omega)]; omega
  rw [em, power_is (by omega) (by omega)]
  simp only [Option.bind_some]
  have hp := two_pow_bd (s := (y % 32).toNat) (by omega)
  generalize (2 : Int) ^ (y % 32).toNat = p at *
  have hp0 : ¬ p = 0 := by omega
  rw [word_is]; simp only [Option.bind_some]
  have e := sll_is p hp.1 hp.2 x0 x1
  rw [wrap64_32, wrap64_32, wrap32_32] at e
  rw [e]
theorem op_srl {x y : Int} (x0 : -2147483648 ≤ x) (x1 : x ≤ 2147483647) (y0 : -2147483648 ≤ y) (y1 : y ≤ 2147483647) : mir_Do.f 3 ⟨([115, 114, 108] : List UInt8).toArray⟩ x y = some (wrap32 (x % 4294967296 / 2 ^ (y % 32).toNat), true) := by
  have c := bytes_of [115, 114, 108]
  rw [do_is 0]
  unfold ferruleref12_Do.f
  rw [word_is, word_is, wrap32_self x0 x1, wrap32_self y0 y1]
  simp only [Option.bind_some, whole_is]
  rw [divide_is (x := x) (by omega) (by omega), divide_is (x := x % 4294967296) (by omega) (by omega)]
  simp only [Option.bind_some]
  rw [if_neg (by rw [c]; decide), if_neg (by rw [c]; decide), if_neg (by rw [c]; decide), if_neg (by rw [c]; decide), if_neg (by rw [c]; decide), if_neg (by rw [c]; decide), if_neg (by rw [c]; decide), if_neg (by rw [c]; decide), if_neg (by rw [c]; decide), if_neg (by rw [c]; decide), if_neg (by rw [c]; decide), if_neg (by rw [c]; decide), if_neg (by rw [c]; decide), if_pos c]
  have em : Int.tmod (y % 4294967296) 32 = y % 32 := by rw [Int.tmod_eq_emod_of_nonneg (by omega)]; omega
  rw [em, power_is (by omega) (by omega)]
  simp only [Option.bind_some]
  have hp := two_pow_bd (s := (y % 32).toNat) (by omega)
  generalize (2 : Int) ^ (y % 32).toNat = p at *
  have hp0 : ¬ p = 0 := by omega
  rw [if_neg hp0, word_is]; simp only [Option.bind_some]
  have b := quot_bd (x := x % 4294967296) (p := p) (by omega) (by omega) (by omega)
  rw [Int.tdiv_eq_ediv_of_nonneg (by omega), wrap64_self (n := x % 4294967296 / p) (by omega) (by omega)]
theorem op_sra {x y : Int} (x0 : -2147483648 ≤ x) (x1 : x ≤ 2147483647) (y0 : -2147483648 ≤ y) (y1 : y ≤ 2147483647) : mir_Do.f 3 ⟨([115, 114, 97] : List UInt8).toArray⟩ x y = some (x / 2 ^ (y % 32).toNat, true) := by
  have c := bytes_of [115, 114, 97]
  rw [do_is 0]
  unfold ferruleref12_Do.f
  rw [word_is, word_is, wrap32_self x0 x1, wrap32_self y0 y1]
  simp only [Option.bind_some, whole_is]
  rw [divide_is (x := x) (by omega) (by omega), divide_is (x := x % 4294967296) (by omega) (by omega)]
  simp only [Option.bind_some]
  rw [if_neg (by rw [c]; decide), if_neg (by rw [c]; decide), if_neg (by rw [c]; decide), if_neg (by rw [c]; decide), if_neg (by rw [c]; decide), if_neg (by rw [c]; decide), if_neg (by rw [c]; decide), if_neg (by rw [c]; decide), if_neg (by rw [c]; decide), if_neg (by rw [c]; decide), if_neg (by rw [c]; decide), if_neg (by rw [c]; decide), if_neg (by rw [c]; decide), if_neg (by rw [c]; decide), if_pos c]
  have em : Int.tmod (y % 4294967296) 32 = y % 32 := by rw [Int.tmod_eq_emod_of_nonneg (by omega)]; omega
  rw [em, power_is (by omega) (by omega)]
  simp only [Option.bind_some]
  have hp := two_pow_bd (s := (y % 32).toNat) (by omega)
  generalize (2 : Int) ^ (y % 32).toNat = p at *
  have hp0 : ¬ p = 0 := by omega
  rw [if_neg hp0, if_neg hp0, if_neg hp0, word_is]; simp only [Option.bind_some]
  have b := quot_bd' (x := x) (p := p) x0 x1 hp.1
  have t := tmod_bd x p (by omega)
  have e := Int.mul_ediv_add_emod x p
  have e2 : x - x % p = p * (x / p) := by omega
  have e3 := Int.emod_nonneg x hp0
  have e4 := Int.emod_lt_of_pos x (show 0 < p by omega)
  rw [wrap64_self (n := x.tmod p + p) (by omega) (by omega), tmod_c _ _ (by omega), wrap64_self (n := x - x % p) (by omega) (by omega), e2, Int.mul_tdiv_cancel_left _ hp0, wrap64_self (n := x / p) (by omega) (by omega), wrap32_self (by omega) (by omega)]
theorem op_slt {x y : Int} (x0 : -2147483648 ≤ x) (x1 : x ≤ 2147483647) (y0 : -2147483648 ≤ y) (y1 : y ≤ 2147483647) : mir_Do.f 3 ⟨([115, 108, 116] : List UInt8).toArray⟩ x y = some (if x < y then 1 else 0, true) := by
  have c := bytes_of [115, 108, 116]
  rw [do_is 0]
  unfold ferruleref12_Do.f
  rw [word_is, word_is, wrap32_self x0 x1, wrap32_self y0 y1]
  simp only [Option.bind_some, whole_is]
  rw [divide_is (x := x) (by omega) (by omega), divide_is (x := x % 4294967296) (by omega) (by omega)]
  simp only [Option.bind_some]
  rw [if_neg (by rw [c]; decide), if_neg (by rw [c]; decide), if_neg (by rw [c]; decide), if_neg (by rw [c]; decide), if_neg (by rw [c]; decide), if_neg (by rw [c]; decide), if_neg (by rw [c]; decide), if_neg (by rw [c]; decide), if_neg (by rw [c]; decide), if_neg (by rw [c]; decide), if_neg (by rw [c]; decide), if_neg (by rw [c]; decide), if_neg (by rw [c]; decide), if_neg (by rw [c]; decide), if_neg (by rw [c]; decide), if_pos c]
  unfold ferruleref12_flag.f; by_cases h : x < y <;> simp [h]
theorem op_sltu {x y : Int} (x0 : -2147483648 ≤ x) (x1 : x ≤ 2147483647) (y0 : -2147483648 ≤ y) (y1 : y ≤ 2147483647) : mir_Do.f 3 ⟨([115, 108, 116, 117] : List UInt8).toArray⟩ x y = some (if x % 4294967296 < y % 4294967296 then 1 else 0, true) := by
  have c := bytes_of [115, 108, 116, 117]
  rw [do_is 0]
  unfold ferruleref12_Do.f
  rw [word_is, word_is, wrap32_self x0 x1, wrap32_self y0 y1]
  simp only [Option.bind_some, whole_is]
  rw [divide_is (x := x) (by omega) (by omega), divide_is (x := x % 4294967296) (by omega) (by omega)]
  simp only [Option.bind_some]
  rw [if_neg (by rw [c]; decide), if_neg (by rw [c]; decide), if_neg (by rw [c]; decide), if_neg (by rw [c]; decide), if_neg (by rw [c]; decide), if_neg (by rw [c]; decide), if_neg (by rw [c]; decide), if_neg (by rw [c]; decide), if_neg (by rw [c]; decide), if_neg (by rw [c]; decide), if_neg (by rw [c]; decide), if_neg (by rw [c]; decide), if_neg (by rw [c]; decide), if_neg (by rw [c]; decide), if_neg (by rw [c]; decide), if_neg (by rw [c]; decide), if_pos c]
  unfold ferruleref12_flag.f; by_cases h : x % 4294967296 < y % 4294967296 <;> simp [h]

theorem nat_and_or : ∀ a b : Nat, (a &&& b) + (a ||| b) = a + b := by
  intro a
  induction a using Nat.strongRecOn with
  | _ a ih =>
    intro b
    by_cases ha : a = 0
    · subst ha; simp
    have h := ih (a / 2) (by omega) (b / 2)
    have h1 : (a &&& b) / 2 = a / 2 &&& b / 2 := Nat.and_div_two_pow (n := 1)
    have h2 : (a ||| b) / 2 = a / 2 ||| b / 2 := Nat.or_div_two_pow (n := 1)
    have h3 : (a &&& b) % 2 = a % 2 &&& b % 2 := Nat.and_mod_two_pow (n := 1)
    have h4 : (a ||| b) % 2 = a % 2 ||| b % 2 := Nat.or_mod_two_pow (n := 1)
    have h5 : (a % 2 &&& b % 2) + (a % 2 ||| b % 2) = a % 2 + b % 2 := by
      have e1 : a % 2 = 0 ∨ a % 2 = 1 := by omega
      have e2 : b % 2 = 0 ∨ b % 2 = 1 := by omega
      rcases e1 with e1 | e1 <;> rcases e2 with e2 | e2 <;> rw [e1, e2] <;> rfl
    omega

theorem bits_bd (op : BinOp) (x y : Int) : -2147483648 ≤ Go.bits op .i32 x y ∧ Go.bits op .i32 x y ≤ 2147483647 := by
  unfold Go.bits; simp only [wrap_i32]; exact ⟨wrap32_lo _, wrap32_hi _⟩

theorem wrap32_add (m n : Int) : wrap32 (wrap32 m + n) = wrap32 (m + n) := by unfold wrap32; omega
theorem wrap32_add' (m n : Int) : wrap32 (m + wrap32 n) = wrap32 (m + n) := by unfold wrap32; omega
theorem and_or_add (x y : Int) : wrap32 (Go.bits .and .i32 x y + Go.bits .or .i32 x y) = wrap32 (x + y) := by
  have e := nat_and_or (BitVec.ofInt 32 x).toNat (BitVec.ofInt 32 y).toNat
  have h1 : Go.bits .and .i32 x y = wrap32 (((BitVec.ofInt 32 x).toNat &&& (BitVec.ofInt 32 y).toNat : Nat) : Int) := by
    show IntKind.i32.wrap ((BitVec.ofInt 32 x &&& BitVec.ofInt 32 y).toNat : Int) = _
    rw [wrap_i32, BitVec.toNat_and]
  have h2 : Go.bits .or .i32 x y = wrap32 (((BitVec.ofInt 32 x).toNat ||| (BitVec.ofInt 32 y).toNat : Nat) : Int) := by
    show IntKind.i32.wrap ((BitVec.ofInt 32 x ||| BitVec.ofInt 32 y).toNat : Int) = _
    rw [wrap_i32, BitVec.toNat_or]
  have n1 : ((BitVec.ofInt 32 x).toNat : Int) = x % 4294967296 := by simp [BitVec.toNat_ofInt]; omega
  have n2 : ((BitVec.ofInt 32 y).toNat : Int) = y % 4294967296 := by simp [BitVec.toNat_ofInt]; omega
  rw [h1, h2]
  clear h1 h2
  generalize ((BitVec.ofInt 32 x).toNat &&& (BitVec.ofInt 32 y).toNat : Nat) = p at *
  generalize ((BitVec.ofInt 32 x).toNat ||| (BitVec.ofInt 32 y).toNat : Nat) = q at *
  generalize (BitVec.ofInt 32 x).toNat = m at *
  generalize (BitVec.ofInt 32 y).toNat = n at *
  rw [wrap32_add, wrap32_add']
  unfold wrap32
  omega

theorem xor_back (x y : Int) (h0 : -2147483648 ≤ x) (h1 : x ≤ 2147483647) : Go.bits .xor .i32 (Go.bits .xor .i32 x y) y = x := by
  have e : Go.bits .xor .i32 x y = (BitVec.ofInt 32 x ^^^ BitVec.ofInt 32 y).toInt := by
    show IntKind.i32.wrap ((BitVec.ofInt 32 x ^^^ BitVec.ofInt 32 y).toNat : Int) = _
    rw [wrap_i32, toNat_wrap32]
  rw [e]
  show IntKind.i32.wrap ((BitVec.ofInt 32 (BitVec.ofInt 32 x ^^^ BitVec.ofInt 32 y).toInt ^^^ BitVec.ofInt 32 y).toNat : Int) = _
  rw [BitVec.ofInt_toInt, BitVec.xor_assoc, BitVec.xor_self, BitVec.xor_zero, wrap_i32, toNat_wrap32, BitVec.toInt_ofInt]
  simp only [Int.bmod]
  omega

/-- Words that are the same but for turns of 2^32. -/
theorem wrap32_eq {m n : Int} : wrap32 m = wrap32 n ↔ ∃ k, m = n + 4294967296 * k := by
  constructor
  · intro h; exact ⟨(m - n) / 4294967296, by unfold wrap32 at h; omega⟩
  · rintro ⟨k, rfl⟩; unfold wrap32; omega
theorem wrap32_turn (m : Int) : ∃ k, wrap32 m = m + 4294967296 * k := wrap32_eq.mp (wrap32_32 m)
theorem wrap32_mul (m n : Int) : wrap32 (wrap32 m * n) = wrap32 (m * n) := by
  obtain ⟨k, h⟩ := wrap32_turn m
  rw [h]
  exact wrap32_eq.mpr ⟨k * n, by rw [Int.add_mul, Int.mul_assoc]⟩
theorem wrap32_whole (m : Int) : wrap32 (m % 4294967296) = wrap32 m := by unfold wrap32; omega

theorem mk {op : List UInt8} {x y r : Int} (h : mir_Do.f 3 ⟨op.toArray⟩ x y = some (r, true)) (h0 : -2147483648 ≤ r) (h1 : r ≤ 2147483647) : Does op x y r := ⟨h, h0, h1⟩

theorem div_back {A B : Int} (hA0 : -2147483648 ≤ A) (hA1 : A ≤ 2147483647) :
    wrap32 (wrap32 (wrap32 (if B = 0 then -1 else A.tdiv B) * B) + wrap32 (if B = 0 then A else A.tmod B)) = A := by
  rw [wrap32_mul, wrap32_add, wrap32_add']
  by_cases h : B = 0
  · rw [if_pos h, if_pos h, h]; unfold wrap32; omega
  · rw [if_neg h, if_neg h, Int.mul_comm, Int.mul_tdiv_add_tmod]; exact wrap32_self hA0 hA1

theorem divu_back {A B : Int} (hA0 : -2147483648 ≤ A) (hA1 : A ≤ 2147483647) :
    wrap32 (wrap32 (wrap32 (if B = 0 then -1 else A % 4294967296 / (B % 4294967296)) * B) + wrap32 (if B = 0 then A else A % 4294967296 % (B % 4294967296))) = A := by
  rw [wrap32_mul, wrap32_add, wrap32_add']
  by_cases h : B = 0
  · rw [if_pos h, if_pos h, h]; unfold wrap32; omega
  · rw [if_neg h, if_neg h]
    have e := Int.mul_ediv_add_emod (A % 4294967296) (B % 4294967296)
    have t : A % 4294967296 / (B % 4294967296) * B = B % 4294967296 * (A % 4294967296 / (B % 4294967296)) + 4294967296 * (A % 4294967296 / (B % 4294967296) * (B / 4294967296)) := by
      have hB : B = B % 4294967296 + 4294967296 * (B / 4294967296) := by omega
      generalize A % 4294967296 / (B % 4294967296) = g at *
      generalize B / 4294967296 = k at *
      generalize B % 4294967296 = m at *
      rw [hB, Int.mul_add, Int.mul_comm g m, Int.mul_left_comm]
    rw [t, show ∀ a b c : Int, a + b + c = a + c + b from fun a b c => by omega, e]
    have : wrap32 (A % 4294967296 + 4294967296 * (A % 4294967296 / (B % 4294967296) * (B / 4294967296))) = wrap32 (A % 4294967296) := wrap32_eq.mpr ⟨_, rfl⟩
    rw [this, wrap32_whole]; exact wrap32_self hA0 hA1

theorem two_pow_split (s : Nat) (h : s ≤ 31) : (4294967296 : Int) = 2 ^ s * 2 ^ (32 - s) := by
  rw [← Int.pow_add, show s + (32 - s) = 32 by omega]; rfl

theorem shift_back (A : Int) (s : Nat) (h : s ≤ 31) : wrap32 (A * 2 ^ s) / 2 ^ s * 2 ^ s = wrap32 (A * 2 ^ s) := by
  obtain ⟨k, hk⟩ := wrap32_turn (A * 2 ^ s)
  rw [Int.ediv_mul_cancel]
  rw [hk, two_pow_split s h]
  exact ⟨A + 2 ^ (32 - s) * k, by rw [Int.mul_add, Int.mul_comm A, Int.mul_assoc]⟩

theorem sums (a b : Int) (w : World) : Calls Try.prog 7 #[.int .i64 a, .int .i64 b] w fun e w' => e = .returned (.bool true) ∧ Below w.heap.size w w' := by
  have A0 := wrap32_lo a
  have A1 := wrap32_hi a
  have B0 := wrap32_lo b
  have B1 := wrap32_hi b
  have hA := word_is a
  have hB := word_is b
  generalize wrap32 a = A at *
  generalize wrap32 b = B at *
  have es : Go.bits .and .i64 B 31 = B % 32 := by
    have e1 := bits_and (x := B) (y := 31) B0 B1 (by omega) (by omega)
    rw [e1]
    show IntKind.i32.wrap ((BitVec.ofInt 32 B &&& BitVec.ofInt 32 31).toNat : Int) = _
    rw [wrap_i32, BitVec.toNat_and]
    have h1 : (BitVec.ofInt 32 31).toNat = 2 ^ 5 - 1 := by decide
    rw [h1, Nat.and_two_pow_sub_one_eq_mod]
    have n2 : ((BitVec.ofInt 32 B).toNat : Int) = B % 4294967296 := by simp [BitVec.toNat_ofInt]; omega
    unfold wrap32; omega
  have pb := mul_bd (x := A) (y := B) (a := 2147483648) (b := 2147483648) (by omega) (by omega) (by omega) (by omega)
  have hs := shift_back A (B % 32).toNat (by omega)
  have em : B % 32 % 32 = B % 32 := by omega
  have hp := two_pow_bd (s := (B % 32).toNat) (by omega)
  have qs := quot_bd' (x := wrap32 (A * 2 ^ (B % 32).toNat)) (p := 2 ^ (B % 32).toNat) (wrap32_lo _) (wrap32_hi _) hp.1
  have s1 := op_sll (x := A) (y := B % 32) A0 A1 (by omega) (by omega)
  have s2 := op_sra (x := wrap32 (A * 2 ^ (B % 32).toNat)) (y := B % 32) (wrap32_lo _) (wrap32_hi _) (by omega) (by omega)
  have s3 := op_sll (x := wrap32 (A * 2 ^ (B % 32).toNat) / 2 ^ (B % 32).toNat) (y := B % 32) qs.1 qs.2 (by omega) (by omega)
  rw [em] at s1 s2 s3
  rw [hs, wrap32_32] at s3
  have one1 : ∀ c : Prop, [Decidable c] → -2147483648 ≤ (if c then (1 : Int) else 0) ∧ (if c then (1 : Int) else 0) ≤ 2147483647 := fun c _ => by split <;> omega
  have z1 := op_sltu (x := A) (y := A) A0 A1 A0 A1
  rw [if_neg (by omega)] at z1
  have z2 := op_srl (x := A) (y := 0) A0 A1 (by omega) (by omega)
  have z2e : wrap32 (A % 4294967296 / 2 ^ ((0 : Int) % 32).toNat) = A := by
    have : ((0 : Int) % 32).toNat = 0 := rfl
    rw [this, Int.pow_zero, Int.ediv_one, wrap32_whole]; exact wrap32_self A0 A1
  rw [z2e] at z2
  have a1 := op_add (x := A) (y := B) A0 A1 B0 B1
  have a2 := op_sub (x := wrap32 (A + B)) (y := B) (wrap32_lo _) (wrap32_hi _) B0 B1
  have a2e : wrap32 (wrap32 (A + B) - B) = A := by unfold wrap32; omega
  rw [a2e] at a2
  have b1 := bits_bd .xor A B
  have b2 := bits_bd .and A B
  have b3 := bits_bd .or A B
  have x1 := op_xor (x := A) (y := B) A0 A1 B0 B1
  have x2 := op_xor (x := Go.bits .xor .i32 A B) (y := B) b1.1 b1.2 B0 B1
  rw [xor_back A B A0 A1] at x2
  have n1 := op_and (x := A) (y := B) A0 A1 B0 B1
  have o1 := op_or (x := A) (y := B) A0 A1 B0 B1
  have a3 := op_add (x := Go.bits .and .i32 A B) (y := Go.bits .or .i32 A B) b2.1 b2.2 b3.1 b3.2
  rw [and_or_add] at a3
  have m1 := op_mulh (x := A) (y := B) A0 A1 B0 B1
  have m2 := op_mul (x := A) (y := B) A0 A1 B0 B1
  have d1 := op_div (x := A) (y := B) A0 A1 B0 B1
  have r1 := op_rem (x := A) (y := B) A0 A1 B0 B1
  have d2 := op_divu (x := A) (y := B) A0 A1 B0 B1
  have r2 := op_remu (x := A) (y := B) A0 A1 B0 B1
  have e1 := op_mul (x := wrap32 (if B = 0 then -1 else A.tdiv B)) (y := B) (wrap32_lo _) (wrap32_hi _) B0 B1
  have e2 := op_mul (x := wrap32 (if B = 0 then -1 else A % 4294967296 / (B % 4294967296))) (y := B) (wrap32_lo _) (wrap32_hi _) B0 B1
  have f1 := op_add (x := wrap32 (wrap32 (if B = 0 then -1 else A.tdiv B) * B)) (y := wrap32 (if B = 0 then A else A.tmod B)) (wrap32_lo _) (wrap32_hi _) (wrap32_lo _) (wrap32_hi _)
  have f2 := op_add (x := wrap32 (wrap32 (if B = 0 then -1 else A % 4294967296 / (B % 4294967296)) * B)) (y := wrap32 (if B = 0 then A else A % 4294967296 % (B % 4294967296))) (wrap32_lo _) (wrap32_hi _) (wrap32_lo _) (wrap32_hi _)
  rw [div_back A0 A1] at f1
  rw [divu_back A0 A1] at f2
  have l1 := op_slt (x := A) (y := B) A0 A1 B0 B1
  have l2 := op_slt (x := B) (y := A) B0 B1 A0 A1
  have hm : (A * B / 4294967296 * 4294967296 + wrap32 (A * B) % 4294967296 != wrap64 (A * B)) = false := by
    rw [bne_eq_false_iff_eq, wrap64_self (by omega) (by omega)]; unfold wrap32; omega
  have le : (if A < B then (1 : Int) else 0) + (if B < A then (1 : Int) else 0) ≤ 1 := by split <;> split <;> omega
  exact sums_any a b A B _ _ _ _ _ _ _ _ _ _ _ _ _ _ (B % 32) _ _ w ⟨hA⟩ ⟨hB⟩ A0 A1 B0 B1
    (mk a1 (wrap32_lo _) (wrap32_hi _)) (mk a2 A0 A1) (mk x1 b1.1 b1.2) (mk x2 A0 A1) (mk n1 b2.1 b2.2) (mk o1 b3.1 b3.2) (mk a3 (wrap32_lo _) (wrap32_hi _))
    (mk m1 (by omega) (by omega)) (mk m2 (wrap32_lo _) (wrap32_hi _)) (mk d1 (wrap32_lo _) (wrap32_hi _)) (mk r1 (wrap32_lo _) (wrap32_hi _)) (mk d2 (wrap32_lo _) (wrap32_hi _)) (mk r2 (wrap32_lo _) (wrap32_hi _))
    (mk e1 (wrap32_lo _) (wrap32_hi _)) (mk f1 A0 A1) (mk e2 (wrap32_lo _) (wrap32_hi _)) (mk f2 A0 A1)
    (mk s1 (wrap32_lo _) (wrap32_hi _)) (mk s2 qs.1 qs.2) (mk s3 (wrap32_lo _) (wrap32_hi _))
    (mk l1 (one1 _).1 (one1 _).2) (mk l2 (one1 _).1 (one1 _).2) (mk z1 (by omega) (by omega)) (mk z2 A0 A1)
    (by omega) (by omega) (wrap32_lo _) (wrap32_hi _) es hm le (by split <;> omega) (by split <;> omega)

end Go.Proofs.Ytocjfdpknfnamaa.Sums
