/- The middle form's operations: any operation makes of any two words what the document says, or is none, whatever the operation's name and the words are. -/
import Derived.Test.YtocjfdpknfnamaaDoWalkB
import Derived.Laws.BitsAllLaws
namespace Go.Proofs.Ytocjfdpknfnamaa.Pure
open Go.RowKit Go.Proofs.Ytocjfdpknfnamaa.PMirDoes Go.Proofs.YtocjfdpknfnamaaW.PrintWords Go.Proofs.YtocjfdpknfnamaaW.PrintLast Go.Proofs.YtocjfdpknfnamaaW.PrintMore

theorem wrap32_lo (n : Int) : -2147483648 ≤ wrap32 n := by unfold wrap32; omega
theorem wrap32_hi (n : Int) : wrap32 n ≤ 2147483647 := by unfold wrap32; omega
theorem wrap32_self {n : Int} (h0 : -2147483648 ≤ n) (h1 : n ≤ 2147483647) : wrap32 n = n := by unfold wrap32; omega
theorem wrap64_self {n : Int} (h0 : -9223372036854775808 ≤ n) (h1 : n ≤ 9223372036854775807) : wrap64 n = n := by unfold wrap64; omega
theorem wrap64_32 (n : Int) : wrap64 (wrap32 n) = wrap32 n := wrap64_self (by have := wrap32_lo n; omega) (by have := wrap32_hi n; omega)
theorem wrap32_32 (n : Int) : wrap32 (wrap32 n) = wrap32 n := wrap32_self (wrap32_lo n) (wrap32_hi n)

theorem tmod_c (n : Int) (m : Int) (hm : 0 < m) : Int.tmod (Int.tmod n m + m) m = n % m := by
  have h1 : Int.tmod n m = n % m ∨ Int.tmod n m = n % m - m := by
    rw [Int.tmod_eq_emod]
    split
    · left; omega
    · right; omega
  have h2 := Int.emod_nonneg n (by omega : m ≠ 0)
  have h3 := Int.emod_lt_of_pos n hm
  rcases h1 with h | h <;> rw [h]
  · rw [Int.tmod_eq_emod_of_nonneg (by omega), Int.add_emod_right, Int.emod_emod_of_dvd _ (Int.dvd_refl m)]
  · rw [Int.tmod_eq_emod_of_nonneg (by omega), Int.sub_add_cancel, Int.emod_emod_of_dvd _ (Int.dvd_refl m)]

theorem tmod_bd (n m : Int) (hm : 0 < m) : -m < Int.tmod n m ∧ Int.tmod n m < m := by
  have h2 := Int.emod_nonneg n (by omega : m ≠ 0)
  have h3 := Int.emod_lt_of_pos n hm
  rw [Int.tmod_eq_emod]
  split <;> omega

theorem whole_is (n : Int) : ferruleref12_whole.f n = some (n % 4294967296) := by
  unfold ferruleref12_whole.f
  have hb := tmod_bd n 4294967296 (by omega)
  rw [wrap64_self (by omega) (by omega), tmod_c _ _ (by omega)]

theorem word_is (n : Int) : ferruleref12_Word.f n = some (wrap32 n) := by
  unfold ferruleref12_Word.f
  have hb := tmod_bd n 4294967296 (by omega)
  rw [wrap64_self (by omega) (by omega), tmod_c _ _ (by omega)]
  split
  · rw [wrap64_self (by omega) (by omega)]; congr 1; unfold wrap32; omega
  · congr 1; unfold wrap32; omega

theorem mul_bd {x y a b : Int} (hx0 : -a ≤ x) (hx1 : x ≤ a) (hy0 : -b ≤ y) (hy1 : y ≤ b) : -(a * b) ≤ x * y ∧ x * y ≤ a * b := by
  have h1 : 0 ≤ (a - x) * (b + y) := Int.mul_nonneg (by omega) (by omega)
  have h2 : 0 ≤ (a + x) * (b - y) := Int.mul_nonneg (by omega) (by omega)
  have h3 : 0 ≤ (a - x) * (b - y) := Int.mul_nonneg (by omega) (by omega)
  have h4 : 0 ≤ (a + x) * (b + y) := Int.mul_nonneg (by omega) (by omega)
  simp only [Int.sub_mul, Int.add_mul, Int.mul_sub, Int.mul_add] at h1 h2 h3 h4
  constructor <;> omega

theorem wrap_i64 (n : Int) : IntKind.i64.wrap n = wrap64 n := by
  simp only [IntKind.wrap, IntKind.bits, IntKind.signed, wrap64, Bool.true_and, decide_eq_true_eq, ge_iff_le]
  by_cases h : (2 : Int) ^ (64 - 1) ≤ n % 2 ^ 64
  · rw [if_pos h]; omega
  · rw [if_neg h]; omega
theorem wrap_i32 (n : Int) : IntKind.i32.wrap n = wrap32 n := by
  simp only [IntKind.wrap, IntKind.bits, IntKind.signed, wrap32, Bool.true_and, decide_eq_true_eq, ge_iff_le]
  by_cases h : (2 : Int) ^ (32 - 1) ≤ n % 2 ^ 32
  · rw [if_pos h]; omega
  · rw [if_neg h]; omega

theorem and_low (x : Int) : Go.bits .and .i64 x 65535 = x % 65536 := by
  unfold Go.bits
  have e : (BitVec.ofInt IntKind.i64.bits x &&& BitVec.ofInt IntKind.i64.bits 65535).toNat = (x % 65536).toNat := by
    rw [BitVec.toNat_and]
    have h1 : (BitVec.ofInt IntKind.i64.bits 65535).toNat = 2 ^ 16 - 1 := by decide
    rw [h1, Nat.and_two_pow_sub_one_eq_mod]
    simp only [BitVec.toNat_ofInt, IntKind.bits]
    omega
  show IntKind.i64.wrap ((BitVec.ofInt IntKind.i64.bits x &&& BitVec.ofInt IntKind.i64.bits 65535).toNat : Int) = _
  rw [e]
  have : ((x % 65536).toNat : Int) = x % 65536 := by omega
  rw [this]
  rw [wrap_i64, wrap64_self (by omega) (by omega)]

/-- How often 2^32 is in a product, in two parts. -/
theorem high_is {x y : Int} (hx0 : -2147483648 ≤ x) (hx1 : x ≤ 4294967295) (hy0 : -2147483648 ≤ y) (hy1 : y ≤ 4294967295) :
    ferruleref12_high.f x y = some (x * y / 4294967296) := by
  unfold ferruleref12_high.f
  rw [and_low]
  have e1 : wrap64 (x - x % 65536) = 65536 * (x / 65536) := by rw [wrap64_self (by omega) (by omega)]; omega
  rw [e1, Int.mul_tdiv_cancel_left _ (by omega)]
  have b1 := mul_bd (x := x / 65536) (y := y) (a := 65536) (b := 4294967296) (by omega) (by omega) (by omega) (by omega)
  have b2 := mul_bd (x := x % 65536) (y := y) (a := 65536) (b := 4294967296) (by omega) (by omega) (by omega) (by omega)
  have e2 : x * y = 65536 * (x / 65536 * y) + x % 65536 * y := by
    rw [← Int.mul_assoc, ← Int.add_mul]; congr 1; omega
  rw [wrap64_self (n := x / 65536) (by omega) (by omega), e2]
  generalize x / 65536 * y = p at *
  generalize x % 65536 * y = q at *
  have t1 := tmod_bd q 65536 (by omega)
  rw [wrap64_self (n := q) (by omega) (by omega), wrap64_self (n := q.tmod 65536 + 65536) (by omega) (by omega), tmod_c _ _ (by omega)]
  have e3 : wrap64 (q - q % 65536) = 65536 * (q / 65536) := by rw [wrap64_self (by omega) (by omega)]; omega
  rw [e3, Int.mul_tdiv_cancel_left _ (by omega), wrap64_self (n := q / 65536) (by omega) (by omega), wrap64_self (n := p) (by omega) (by omega), wrap64_self (n := p + q / 65536) (by omega) (by omega)]
  have t2 := tmod_bd (p + q / 65536) 65536 (by omega)
  rw [wrap64_self (n := (p + q / 65536).tmod 65536 + 65536) (by omega) (by omega), tmod_c _ _ (by omega)]
  have e4 : wrap64 (p + q / 65536 - (p + q / 65536) % 65536) = 65536 * ((p + q / 65536) / 65536) := by rw [wrap64_self (by omega) (by omega)]; omega
  rw [e4, Int.mul_tdiv_cancel_left _ (by omega), wrap64_self (by omega) (by omega)]
  congr 1; omega

theorem ofInt_signExtend {x : Int} (h0 : -2147483648 ≤ x) (h1 : x ≤ 2147483647) : BitVec.ofInt 64 x = (BitVec.ofInt 32 x).signExtend 64 := by
  apply BitVec.eq_of_toInt_eq
  rw [BitVec.toInt_signExtend_of_le (by omega), BitVec.toInt_ofInt, BitVec.toInt_ofInt]
  simp only [Int.bmod]
  omega

theorem toNat_wrap64 (b : BitVec 64) : wrap64 (b.toNat : Int) = b.toInt := by
  have := b.isLt
  rw [BitVec.toInt_eq_toNat_cond]; unfold wrap64; split <;> omega
theorem toNat_wrap32 (b : BitVec 32) : wrap32 (b.toNat : Int) = b.toInt := by
  have := b.isLt
  rw [BitVec.toInt_eq_toNat_cond]; unfold wrap32; split <;> omega

theorem bits_and {x y : Int} (hx0 : -2147483648 ≤ x) (hx1 : x ≤ 2147483647) (hy0 : -2147483648 ≤ y) (hy1 : y ≤ 2147483647) : Go.bits .and .i64 x y = Go.bits .and .i32 x y := by
  show IntKind.i64.wrap ((BitVec.ofInt 64 x &&& BitVec.ofInt 64 y).toNat : Int) = IntKind.i32.wrap ((BitVec.ofInt 32 x &&& BitVec.ofInt 32 y).toNat : Int)
  rw [wrap_i64, wrap_i32, toNat_wrap64, toNat_wrap32, ofInt_signExtend hx0 hx1, ofInt_signExtend hy0 hy1, ← BitVec.signExtend_and, BitVec.toInt_signExtend_of_le (by omega)]
theorem bits_or {x y : Int} (hx0 : -2147483648 ≤ x) (hx1 : x ≤ 2147483647) (hy0 : -2147483648 ≤ y) (hy1 : y ≤ 2147483647) : Go.bits .or .i64 x y = Go.bits .or .i32 x y := by
  show IntKind.i64.wrap ((BitVec.ofInt 64 x ||| BitVec.ofInt 64 y).toNat : Int) = IntKind.i32.wrap ((BitVec.ofInt 32 x ||| BitVec.ofInt 32 y).toNat : Int)
  rw [wrap_i64, wrap_i32, toNat_wrap64, toNat_wrap32, ofInt_signExtend hx0 hx1, ofInt_signExtend hy0 hy1, ← BitVec.signExtend_or, BitVec.toInt_signExtend_of_le (by omega)]
theorem bits_xor {x y : Int} (hx0 : -2147483648 ≤ x) (hx1 : x ≤ 2147483647) (hy0 : -2147483648 ≤ y) (hy1 : y ≤ 2147483647) : Go.bits .xor .i64 x y = Go.bits .xor .i32 x y := by
  show IntKind.i64.wrap ((BitVec.ofInt 64 x ^^^ BitVec.ofInt 64 y).toNat : Int) = IntKind.i32.wrap ((BitVec.ofInt 32 x ^^^ BitVec.ofInt 32 y).toNat : Int)
  rw [wrap_i64, wrap_i32, toNat_wrap64, toNat_wrap32, ofInt_signExtend hx0 hx1, ofInt_signExtend hy0 hy1, ← BitVec.signExtend_xor, BitVec.toInt_signExtend_of_le (by omega)]
theorem bits_in (op : BinOp) (x y : Int) : wrap32 (wrap64 (Go.bits op .i32 x y)) = Go.bits op .i32 x y := by
  unfold Go.bits
  simp only [wrap_i32]
  rw [wrap64_32, wrap32_32]

theorem amount_is (y : Int) : Go.bits .and .u64 (IntKind.u64.wrap y) 31 = y % 32 := by
  rw [IntKind.wrap_u64, u64_and _ _ (by omega) (by omega) (by omega) (by omega)]
  have e : (y % 18446744073709551616).toNat &&& (31 : Int).toNat = (y % 18446744073709551616).toNat % 2 ^ 5 := Nat.and_two_pow_sub_one_eq_mod _ 5
  rw [e]; omega

theorem two_pow_bd {s : Nat} (h : s ≤ 31) : (1 : Int) ≤ 2 ^ s ∧ (2 : Int) ^ s ≤ 2147483648 := by
  have h1 : 1 ≤ 2 ^ s := Nat.one_le_two_pow
  have h2 : 2 ^ s ≤ 2 ^ 31 := Nat.pow_le_pow_right (by omega) h
  have e : ((2 : Int) ^ s) = ((2 ^ s : Nat) : Int) := by simp
  rw [e]; omega

theorem power_is {s : Int} (h0 : 0 ≤ s) (h1 : s ≤ 31) : ferruleref12_power.f s = some (2 ^ s.toNat) := by
  unfold ferruleref12_power.f
  have e : IntKind.u64.wrap s = s := by rw [IntKind.wrap_u64]; omega
  rw [e, if_pos h0]
  unfold shl
  have := two_pow_bd (s := s.toNat) (by omega)
  rw [Nat.min_eq_left (by simp [IntKind.bits]; omega), wrap_i64, Int.one_mul, wrap64_self (by omega) (by omega)]

theorem tdiv_bd {x y : Int} (h0 : -2147483648 ≤ x) (h1 : x ≤ 4294967295) : -4294967295 ≤ x.tdiv y ∧ x.tdiv y ≤ 4294967295 := by
  have h := Int.natAbs_tdiv_le_natAbs x y
  omega

theorem rest_is {x y : Int} (hx0 : -2147483648 ≤ x) (hx1 : x ≤ 4294967295) : wrap64 (x - wrap64 (wrap64 (x.tdiv y) * y)) = x.tmod y := by
  have h1 := tdiv_bd (y := y) hx0 hx1
  have h2 := Int.natAbs_tmod x y
  have e : x - x.tdiv y * y = x.tmod y := by rw [Int.tmod_def, Int.mul_comm]
  have h3 : (x.tmod y).natAbs ≤ x.natAbs := by rw [h2]; exact Nat.mod_le _ _
  rw [wrap64_self (n := x.tdiv y) (by omega) (by omega), wrap64_self (n := x.tdiv y * y) (by omega) (by omega), e, wrap64_self (by omega) (by omega)]

theorem divide_is {x y : Int} (hx0 : -2147483648 ≤ x) (hx1 : x ≤ 4294967295) : ferruleref12_divide.f x y = some (if y = 0 then (-1, x) else (x.tdiv y, x.tmod y)) := by
  unfold ferruleref12_divide.f
  have h1 := tdiv_bd (y := y) hx0 hx1
  split
  · rfl
  · rw [rest_is hx0 hx1, wrap64_self (by omega) (by omega)]

theorem quotient_is {x y : Int} (hx0 : -2147483648 ≤ x) (hx1 : x ≤ 4294967295) : mir_quotient.f x y = some (if y = 0 then (-1, x) else (x.tdiv y, x.tmod y)) := by
  unfold mir_quotient.f
  have h1 := tdiv_bd (y := y) hx0 hx1
  split
  · rfl
  · rw [wrap64_self (by omega) (by omega)]

theorem sll_is {x : Int} (p : Int) (hp0 : 1 ≤ p) (hp1 : p ≤ 2147483648) (hx0 : -2147483648 ≤ x) (hx1 : x ≤ 2147483647) :
    wrap64 (wrap32 (wrap64 (wrap32 (x * p)))) = wrap32 (wrap64 (x % 4294967296 * p)) := by
  rw [wrap64_32, wrap64_32, wrap32_32]
  have b := mul_bd (x := x % 4294967296) (y := p) (a := 4294967295) (b := 2147483648) (by omega) (by omega) (by omega) (by omega)
  rw [wrap64_self (by omega) (by omega)]
  have e : x % 4294967296 * p = x * p ∨ x % 4294967296 * p = x * p + 4294967296 * p := by
    by_cases h : 0 ≤ x
    · left; congr 1; omega
    · right; rw [← Int.add_mul]; congr 1; omega
  unfold wrap32
  rcases e with h | h <;> rw [h] <;> omega

theorem wrap64_bits (op : BinOp) (x y : Int) : wrap64 (Go.bits op .i32 x y) = Go.bits op .i32 x y := by
  unfold Go.bits
  simp only [wrap_i32]
  rw [wrap64_32]
theorem quot_bd {x p : Int} (h0 : 0 ≤ x) (h1 : x ≤ 4294967295) (hp : 1 ≤ p) : 0 ≤ x / p ∧ x / p ≤ 4294967295 := by
  refine ⟨Int.ediv_nonneg h0 (by omega), ?_⟩
  have := Int.ediv_le_self p h0
  omega
theorem quot_bd' {x p : Int} (h0 : -2147483648 ≤ x) (h1 : x ≤ 2147483647) (hp : 1 ≤ p) : -2147483648 ≤ x / p ∧ x / p ≤ 2147483647 := by
  by_cases h : 0 ≤ x
  · have a := Int.ediv_nonneg h (show 0 ≤ p by omega)
    have := Int.ediv_le_self p h
    omega
  · have a : x / p < 0 := Int.ediv_neg_of_neg_of_pos (by omega) (by omega)
    have b : -2147483648 ≤ x / p := Int.le_ediv_of_mul_le (by omega) (by
      have : 0 ≤ 2147483648 * (p - 1) := by omega
      omega)
    omega

theorem mk_of {a : ByteArray} {l : List UInt8} (h : a.toList = l) : a = ⟨l.toArray⟩ := by
  rw [ByteArray.toList_eq] at h
  cases a with
  | mk d => subst h; simp

theorem j0_true (k : Nat) (a b : ByteArray) (x y s : Int) (f : Bool) (h : f = true) : mir_Do.j0 (k + 3) a x y s b f = (mir_divide.f (k + 2) a (wrap64 x) (wrap64 y)).bind fun t => some (wrap64 (wrap32 t), true) := by
  subst h; simp only [mir_Do.j0]; rw [if_pos trivial]

theorem at_div (k : Nat) {a : ByteArray} (x y : Int) (c : a.toList = ([100, 105, 118] : List UInt8)) : mir_divide.f (k + 2) a x y = (mir_quotient.f x y).bind fun b => some b.1 := by
  obtain rfl := mk_of c
  unfold mir_divide.f
  rw [if_neg (by rw [c]; decide)]
  have e : ((⟨([100, 105, 118] : List UInt8).toArray⟩ : ByteArray).toList == ([114, 101, 109, 117] : List UInt8)) = false := by rw [c]; rfl
  rw [e]; simp only [mir_divide.j0]
  rw [if_neg (by decide)]
  cases mir_quotient.f x y <;> rfl
theorem at_divu (k : Nat) {a : ByteArray} (x y : Int) (c : a.toList = ([100, 105, 118, 117] : List UInt8)) : mir_divide.f (k + 2) a x y = (mir_quotient.f (x % 4294967296) (y % 4294967296)).bind fun b => some b.1 := by
  obtain rfl := mk_of c
  unfold mir_divide.f
  rw [if_pos c]
  simp only [mir_divide.j0]
  rw [if_pos trivial]
  cases mir_quotient.f (x % 4294967296) (y % 4294967296) <;> rfl
theorem at_rem (k : Nat) {a : ByteArray} (x y : Int) (c : a.toList = ([114, 101, 109] : List UInt8)) : mir_divide.f (k + 2) a x y = (mir_quotient.f x y).bind fun b => some b.2 := by
  obtain rfl := mk_of c
  unfold mir_divide.f
  rw [if_neg (by rw [c]; decide)]
  have e : ((⟨([114, 101, 109] : List UInt8).toArray⟩ : ByteArray).toList == ([114, 101, 109, 117] : List UInt8)) = false := by rw [c]; rfl
  rw [e]; simp only [mir_divide.j0]
  rw [if_neg (by decide)]
  cases mir_quotient.f x y <;> rfl
theorem at_remu (k : Nat) {a : ByteArray} (x y : Int) (c : a.toList = ([114, 101, 109, 117] : List UInt8)) : mir_divide.f (k + 2) a x y = (mir_quotient.f (x % 4294967296) (y % 4294967296)).bind fun b => some b.2 := by
  obtain rfl := mk_of c
  unfold mir_divide.f
  rw [if_neg (by rw [c]; decide)]
  have e : ((⟨([114, 101, 109, 117] : List UInt8).toArray⟩ : ByteArray).toList == ([114, 101, 109, 117] : List UInt8)) = true := by rw [c]; rfl
  rw [e]; simp only [mir_divide.j0]
  rw [if_pos trivial]
  cases mir_quotient.f (x % 4294967296) (y % 4294967296) <;> rfl

theorem flag_is (b : Bool) : mir_flag.f b = ferruleref12_flag.f b := rfl
theorem flag_in (b : Bool) : ∃ v, ferruleref12_flag.f b = some v ∧ 0 ≤ v ∧ v ≤ 1 := by
  unfold ferruleref12_flag.f; split
  · exact ⟨1, rfl, by omega, by omega⟩
  · exact ⟨0, rfl, by omega, by omega⟩

theorem do_is (k : Nat) (a0 : ByteArray) (a1 a2 : Int) : mir_Do.f (k + 3) a0 a1 a2 = ferruleref12_Do.f a0 a1 a2 := by
  unfold mir_Do.f ferruleref12_Do.f
  rw [word_is, word_is]
  have x0 := wrap32_lo a1
  have x1 := wrap32_hi a1
  have y0 := wrap32_lo a2
  have y1 := wrap32_hi a2
  generalize wrap32 a1 = x at *
  generalize wrap32 a2 = y at *
  simp only [Option.bind_some, whole_is]
  rw [divide_is (x := x) (by omega) (by omega), divide_is (x := x % 4294967296) (by omega) (by omega)]
  simp only [Option.bind_some]
  rw [amount_is y]
  have pb := mul_bd (x := x) (y := y) (a := 2147483648) (b := 2147483648) (by omega) (by omega) (by omega) (by omega)
  by_cases c : a0.toList = ([97, 100, 100] : List UInt8)
  · rw [if_pos c, if_pos c, word_is]
    simp only [Option.bind_some]
    rw [wrap64_32, wrap64_32, wrap32_32, wrap64_self (n := x + y) (by omega) (by omega)]
  rw [if_neg c, if_neg c]; clear c
  by_cases c : a0.toList = ([115, 117, 98] : List UInt8)
  · rw [if_pos c, if_pos c, word_is]
    simp only [Option.bind_some]
    rw [wrap64_32, wrap64_32, wrap32_32, wrap64_self (n := x - y) (by omega) (by omega)]
  rw [if_neg c, if_neg c]; clear c
  by_cases c : a0.toList = ([109, 117, 108] : List UInt8)
  · rw [if_pos c, if_pos c, word_is]
    simp only [Option.bind_some]
    rw [wrap64_32, wrap64_32, wrap32_32, wrap64_self (n := x * y) (by omega) (by omega)]
  rw [if_neg c, if_neg c]; clear c
  by_cases c : a0.toList = ([109, 117, 108, 104] : List UInt8)
  · rw [if_pos c, if_pos c, high_is (by omega) (by omega) (by omega) (by omega)]
    simp only [Option.bind_some]
    rw [word_is]
    simp only [Option.bind_some]
    rw [wrap64_self (n := x) (by omega) (by omega), wrap64_self (n := y) (by omega) (by omega), wrap64_self (n := x * y) (by omega) (by omega), wrap64_32]
  rw [if_neg c, if_neg c]; clear c
  by_cases c : a0.toList = ([109, 117, 108, 104, 117] : List UInt8)
  · rw [if_pos c, if_pos c, high_is (by omega) (by omega) (by omega) (by omega)]
    simp only [Option.bind_some]
    rw [word_is]
    simp only [Option.bind_some]
    have b := mul_bd (x := x % 4294967296) (y := y % 4294967296) (a := 4294967295) (b := 4294967295) (by omega) (by omega) (by omega) (by omega)
    have b0 : 0 ≤ x % 4294967296 * (y % 4294967296) := Int.mul_nonneg (by omega) (by omega)
    rw [IntKind.wrap_u64]
    generalize x % 4294967296 * (y % 4294967296) = p at *
    rw [wrap64_32, wrap64_self (by omega) (by omega)]
    congr 2
    unfold wrap32; omega
  rw [if_neg c, if_neg c]; clear c
  by_cases c : a0.toList = ([100, 105, 118] : List UInt8)
  · rw [if_pos c, if_pos c, j0_true k a0 a0 x y _ _ (by rw [c]; rfl), wrap64_self (n := x) (by omega) (by omega), wrap64_self (n := y) (by omega) (by omega), at_div k x y c, quotient_is (by omega) (by omega), word_is]
    simp only [Option.bind_some]
    rw [wrap64_32]
  rw [if_neg c, if_neg c]; clear c
  by_cases c : a0.toList = ([100, 105, 118, 117] : List UInt8)
  · rw [if_pos c, if_pos c, j0_true k a0 a0 x y _ _ (by rw [c]; rfl), wrap64_self (n := x) (by omega) (by omega), wrap64_self (n := y) (by omega) (by omega), at_divu k x y c, quotient_is (by omega) (by omega), word_is]
    simp only [Option.bind_some]
    rw [wrap64_32]
  rw [if_neg c, if_neg c]; clear c
  by_cases c : a0.toList = ([114, 101, 109] : List UInt8)
  · rw [if_pos c, if_pos c, j0_true k a0 a0 x y _ _ (by rw [c]; rfl), wrap64_self (n := x) (by omega) (by omega), wrap64_self (n := y) (by omega) (by omega), at_rem k x y c, quotient_is (by omega) (by omega), word_is]
    simp only [Option.bind_some]
    rw [wrap64_32]
  rw [if_neg c, if_neg c]; clear c
  by_cases c : a0.toList = ([114, 101, 109, 117] : List UInt8)
  · rw [if_pos c, j0_true k a0 a0 x y _ _ (by rw [c]; rfl), wrap64_self (n := x) (by omega) (by omega), wrap64_self (n := y) (by omega) (by omega), at_remu k x y c, quotient_is (by omega) (by omega), word_is]
    simp only [Option.bind_some]
    rw [wrap64_32]
  rw [if_neg c]
  have cf : (a0.toList == ([114, 101, 109, 117] : List UInt8)) = false := beq_eq_false_iff_ne.mpr c
  rw [cf]; clear c cf
  simp only [mir_Do.j0]
  rw [if_neg (by decide : ¬ (false = true))]
  have em : ∀ n : Int, Int.tmod (n % 4294967296) 32 = n % 32 := fun n => by rw [Int.tmod_eq_emod_of_nonneg (by omega)]; omega
  by_cases c : a0.toList = ([97, 110, 100] : List UInt8)
  · rw [if_pos c, if_pos c, bits_in, wrap64_bits, bits_and x0 x1 y0 y1]
  rw [if_neg c, if_neg c]; clear c
  by_cases c : a0.toList = ([111, 114] : List UInt8)
  · rw [if_pos c, if_pos c, bits_in, wrap64_bits, bits_or x0 x1 y0 y1]
  rw [if_neg c, if_neg c]; clear c
  by_cases c : a0.toList = ([120, 111, 114] : List UInt8)
  · rw [if_pos c, if_pos c, bits_in, wrap64_bits, bits_xor x0 x1 y0 y1]
  rw [if_neg c, if_neg c]; clear c
  rw [em, power_is (by omega) (by omega)]
  simp only [Option.bind_some]
  have hs : min (y % 32).toNat 32 = (y % 32).toNat := Nat.min_eq_left (by omega)
  have hp := two_pow_bd (s := (y % 32).toNat) (by omega)
  have es : shl .i32 x (y % 32) = wrap32 (x * 2 ^ (y % 32).toNat) := by unfold shl; rw [wrap_i32]; simp only [IntKind.bits]; rw [hs]
  have eu : shr .u32 (x % 4294967296) (y % 32) = x % 4294967296 / 2 ^ (y % 32).toNat := by unfold shr; simp only [IntKind.bits]; rw [hs]
  have er : shr .i32 x (y % 32) = x / 2 ^ (y % 32).toNat := by unfold shr; simp only [IntKind.bits]; rw [hs]
  have h0 : 0 ≤ y % 32 := by omega
  rw [es, eu, er]; clear es eu er hs em
  generalize hq : (2 : Int) ^ (y % 32).toNat = p at *
  clear hq
  by_cases c : a0.toList = ([115, 108, 108] : List UInt8)
  · rw [if_pos c, if_pos c, if_pos h0, word_is]
    simp only [Option.bind_some]
    rw [sll_is p hp.1 hp.2 x0 x1]
  rw [if_neg c, if_neg c]; clear c
  have hp0 : ¬ p = 0 := by omega
  by_cases c : a0.toList = ([115, 114, 108] : List UInt8)
  · rw [if_pos c, if_pos c, if_pos h0, if_neg hp0, word_is]
    simp only [Option.bind_some]
    have b := quot_bd (x := x % 4294967296) (p := p) (by omega) (by omega) (by omega)
    rw [Int.tdiv_eq_ediv_of_nonneg (by omega), wrap64_32, wrap64_self (n := x % 4294967296 / p) (by omega) (by omega)]
  rw [if_neg c, if_neg c]; clear c
  by_cases c : a0.toList = ([115, 114, 97] : List UInt8)
  · rw [if_pos c, if_pos c, if_pos h0, if_neg hp0, if_neg hp0, if_neg hp0, word_is]
    simp only [Option.bind_some]
    have b := quot_bd' (x := x) (p := p) x0 x1 hp.1
    have t := tmod_bd x p (by omega)
    have e := Int.mul_ediv_add_emod x p
    have e2 : x - x % p = p * (x / p) := by omega
    have e3 := Int.emod_nonneg x hp0
    have e4 := Int.emod_lt_of_pos x (show 0 < p by omega)
    rw [wrap64_self (n := x.tmod p + p) (by omega) (by omega), tmod_c _ _ (by omega), wrap64_self (n := x - x % p) (by omega) (by omega), e2, Int.mul_tdiv_cancel_left _ hp0, wrap64_32, wrap64_self (n := x / p) (by omega) (by omega)]
  rw [if_neg c, if_neg c]; clear c
  by_cases c : a0.toList = ([115, 108, 116] : List UInt8)
  · rw [if_pos c, if_pos c, flag_is]
    obtain ⟨v, hv, v0, v1⟩ := flag_in (decide (x < y))
    rw [hv]; simp only [Option.bind_some]
    rw [wrap64_32, wrap32_self (by omega) (by omega)]
  rw [if_neg c, if_neg c]; clear c
  by_cases c : a0.toList = ([115, 108, 116, 117] : List UInt8)
  · rw [if_pos c, if_pos c, flag_is]
    obtain ⟨v, hv, v0, v1⟩ := flag_in (decide (x % 4294967296 < y % 4294967296))
    rw [hv]; simp only [Option.bind_some]
    rw [wrap64_32, wrap32_self (by omega) (by omega)]
  rw [if_neg c, if_neg c]

theorem some_ite {α β : Type} {c : Prop} [Decidable c] {a b : Option (α × β)} (ha : ∃ v f, a = some (v, f)) (hb : ∃ v f, b = some (v, f)) : ∃ v f, (if c then a else b) = some (v, f) := by
  split
  · exact ha
  · exact hb
theorem do_some (a0 : ByteArray) (a1 a2 : Int) : ∃ v f, ferruleref12_Do.f a0 a1 a2 = some (v, f) := by
  unfold ferruleref12_Do.f
  rw [word_is, word_is]
  have x0 := wrap32_lo a1
  have x1 := wrap32_hi a1
  have y0 := wrap32_lo a2
  have y1 := wrap32_hi a2
  generalize wrap32 a1 = x at *
  generalize wrap32 a2 = y at *
  simp only [Option.bind_some, whole_is]
  rw [divide_is (x := x) (by omega) (by omega), divide_is (x := x % 4294967296) (by omega) (by omega)]
  have em : Int.tmod (y % 4294967296) 32 = y % 32 := by rw [Int.tmod_eq_emod_of_nonneg (by omega)]; omega
  rw [em, power_is (by omega) (by omega), high_is (by omega) (by omega) (by omega) (by omega), high_is (by omega) (by omega) (by omega) (by omega)]
  have hp := two_pow_bd (s := (y % 32).toNat) (by omega)
  generalize (2 : Int) ^ (y % 32).toNat = p at *
  have hp0 : ¬ p = 0 := by omega
  obtain ⟨v1, h1, _, _⟩ := flag_in (decide (x < y))
  obtain ⟨v2, h2, _, _⟩ := flag_in (decide (x % 4294967296 < y % 4294967296))
  rw [h1, h2]
  simp only [Option.bind_some, word_is, if_neg hp0]
  repeat' (first | exact ⟨_, _, rfl⟩ | refine some_ite ?_ ?_)

theorem MirDoes : ferrulelaw12_MirDoes.Pure := by
  intro a0 a1 a2 _ _ _
  refine ⟨3, ?_⟩
  unfold ferrulelaw12_MirDoes.f
  rw [do_is 0 a0 a1 a2, do_is 0 _ (-1) (-1)]
  obtain ⟨v, f, h⟩ := do_some a0 a1 a2
  have one : ferruleref12_Do.f (⟨#[109, 117, 108, 104, 117]⟩ : ByteArray) (-1) (-1) = some (-2, true) := by
    have c : (⟨([109, 117, 108, 104, 117] : List UInt8).toArray⟩ : ByteArray).toList = ([109, 117, 108, 104, 117] : List UInt8) := ByteArray.toList_mk _
    rw [← do_is 0]
    unfold mir_Do.f
    rw [if_neg (by rw [c]; decide), if_neg (by rw [c]; decide), if_neg (by rw [c]; decide), if_neg (by rw [c]; decide), if_pos c]
    decide +kernel
  rw [h, one]; simp only [Option.bind_some]
  simp

end Go.Proofs.Ytocjfdpknfnamaa.Pure
