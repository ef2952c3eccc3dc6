/- The walks of mir.Do and its callees: each call comes to what its Lean function says, in any world; lines by the kit's print, turned by hand where a shift of 32 bits is widened. -/
import Derived.Test.YtocjfdpknfnamaaPMirDoesx0
namespace Go.Proofs.Ytocjfdpknfnamaa.PMirDoes
open Go.RowKit Go.Proofs.YtocjfdpknfnamaaW.PrintWords Go.Proofs.YtocjfdpknfnamaaW.PrintLast Go.Proofs.YtocjfdpknfnamaaW.PrintMore
attribute [local go_sem] max2_int min2_int max_two min_two max_three min_three max_four min_four   -- for this text's walks alone
set_option linter.unusedVariables false
set_option linter.unusedSimpArgs false

/-! ### mir_quotient: function 30 -/
def mir_quotient.f (a0 : Int) (a1 : Int) : Option (Int × Int) := if a1 = 0 then (some ((-1), a0)) else (some (wrap64 (Int.tdiv a0 a1), Int.tmod a0 a1))
set_option maxHeartbeats 8000000 in
set_option maxRecDepth 100000 in
theorem mir_quotient.calls (a0 : Int) (a1 : Int) (r1 : Int) (r2 : Int) (w : World) (h : mir_quotient.f a0 a1 = some (r1, r2)) :
    Calls Try.prog 30 #[.int .i64 a0, .int .i64 a1] w fun e w' => e = .returned (.tuple #[.int .i64 r1, .int .i64 r2]) ∧ Drawn0 w w' := by
  have H : (if a1 = 0 then (some ((-1), a0)) else (some (wrap64 (Int.tdiv a0 a1), Int.tmod a0 a1))) = some (r1, r2) := h
  clear h
  by_cases c3 : a1 = 0
  · rw [if_pos c3] at H
    have c3b0 : (a1 == 0) = true := beq_iff_eq.mpr c3
    have c3b1 : (a1 != 0) = false := bne_eq_false_iff_eq.mpr c3
    clear c3
    simp only [Option.some.injEq, Prod.mk.injEq] at H
    obtain ⟨rfl, rfl⟩ := H
    go_enter Try.func30, Try.ntmps30
    go_wp2
    repeat (go_quiet (fail); try go_wp2)
    go_ret2
    exact ⟨by first | rfl | (simp; done) | (simp [*]; done), by repeat (first | exact Drawn0.refl _ | apply Drawn0.step)⟩
  · rw [if_neg c3] at H
    have c3b0 : (a1 == 0) = false := beq_eq_false_iff_ne.mpr c3
    have c3b1 : (a1 != 0) = true := bne_iff_ne.mpr c3
    simp only [Option.some.injEq, Prod.mk.injEq] at H
    obtain ⟨rfl, rfl⟩ := H
    go_enter Try.func30, Try.ntmps30
    go_wp2
    repeat (go_quiet (fail); try go_wp2)
    go_ret2
    exact ⟨by first | rfl | (simp; done) | (simp [*]; done), by repeat (first | exact Drawn0.refl _ | apply Drawn0.step)⟩

/-! ### mir_divide: function 23 -/
def mir_divide.j0 : Nat → ByteArray → Int → Int → Bool → Option (Int)
  | 0, _, _, _, _ => none
  | k + 1, x0, x1, x2, x14 => if x14 = true then ((mir_quotient.f ((x1) % 4294967296) ((x2) % 4294967296)).bind fun bt101 => (if 0 < (x0.size : Int) then (if (bt x0 0) = 100 then (some bt101.1) else (some bt101.2)) else (none))) else ((mir_quotient.f x1 x2).bind fun bt103 => (if 0 < (x0.size : Int) then (if (bt x0 0) = 100 then (some bt103.1) else (some bt103.2)) else (none)))
def mir_divide.f (k : Nat) (a0 : ByteArray) (a1 : Int) (a2 : Int) : Option (Int) := if a0.toList = ([100, 105, 118, 117] : List UInt8) then (mir_divide.j0 k a0 a1 a2 true) else (mir_divide.j0 k a0 a1 a2 (a0.toList == ([114, 101, 109, 117] : List UInt8)))
theorem mir_divide.mono_l : ∀ k, (∀ y0 y1 y2 y3, LeO (mir_divide.j0 k y0 y1 y2 y3) (mir_divide.j0 (k + 1) y0 y1 y2 y3))
  | 0 => fun _ _ _ _ r h => by simp [mir_divide.j0] at h
  | k + 1 => by
    have ih0 := mir_divide.mono_l k
    · intro y0 y1 y2 y3
      unfold mir_divide.j0
      repeat' first
      | (with_reducible exact ih0 _ _ _ _)
      | (with_reducible exact LeO.refl _)
      | (with_reducible exact LeO.none _)
      | (with_reducible refine LeO.ite ?_ ?_)
      | (with_reducible refine LeO.bind ?_ (fun _ => ?_))
      | exact ih0 _ _ _ _
      | exact LeO.none _
      | refine LeO.ite ?_ ?_
      | refine LeO.bind ?_ (fun _ => ?_)
theorem mir_divide.mono : ∀ a0 a1 a2 k, LeO (mir_divide.f k a0 a1 a2) (mir_divide.f (k + 1) a0 a1 a2) := by
  intro a0 a1 a2 k
  have ih0 := mir_divide.mono_l k
  unfold mir_divide.f
  repeat' first
      | (with_reducible exact ih0 _ _ _ _)
      | (with_reducible exact LeO.refl _)
      | (with_reducible exact LeO.none _)
      | (with_reducible refine LeO.ite ?_ ?_)
      | (with_reducible refine LeO.bind ?_ (fun _ => ?_))
      | exact ih0 _ _ _ _
      | exact LeO.none _
      | refine LeO.ite ?_ ?_
      | refine LeO.bind ?_ (fun _ => ?_)
set_option maxHeartbeats 8000000 in
set_option maxRecDepth 100000 in
theorem mir_divide.calls (k : Nat) (a0 : ByteArray) (a1 : Int) (a2 : Int) (r : Int) (w : World) (h : mir_divide.f k a0 a1 a2 = some r) :
    Calls Try.prog 23 #[.string a0, .int .i64 a1, .int .i64 a2] w fun e w' => e = .returned (.int .i64 r) ∧ Drawn0 w w' := by
  have H : (if a0.toList = ([100, 105, 118, 117] : List UInt8) then (mir_divide.j0 k a0 a1 a2 true) else (mir_divide.j0 k a0 a1 a2 (a0.toList == ([114, 101, 109, 117] : List UInt8)))) = some r := h
  clear h
  have HC4 := Aside0.mk H
  clear H
  go_enter Try.func23, Try.ntmps23
  go_upto_region 1 with (fail)
  go_cut [14] (fun v14 wc => ∃ (kq : Nat) (x14_3 : Bool), v14 = .bool x14_3 ∧ Aside0 (mir_divide.j0 kq a0 a1 a2 x14_3 = some r) ∧ Aside0 (kq ≤ k) ∧ Drawn0 w wc)
  case first =>
    have H := HC4.out
    clear HC4
    by_cases c5 : a0.toList = ([100, 105, 118, 117] : List UInt8)
    · rw [if_pos c5] at H
      have c5b0 : (a0.toList == ([100, 105, 118, 117] : List UInt8)) = true := beq_iff_eq.mpr c5
      have c5b1 : (a0.toList != ([100, 105, 118, 117] : List UInt8)) = false := bne_eq_false_iff_eq.mpr c5
      clear c5
      (first | rw [c5b0] | (simp only [i64_w, i32_w]; rw [c5b0]) | skip)
      have H' := Aside0.mk H
      clear H
      go_wp2
      go_meet
      case rel => exact ⟨_, (true), (by first | rfl | (simp; done) | (simp [*]; done)), H', ⟨by first | omega | exact Nat.le_refl _⟩, by repeat (first | exact Drawn0.refl _ | apply Drawn0.step)⟩
    · rw [if_neg c5] at H
      have c5b0 : (a0.toList == ([100, 105, 118, 117] : List UInt8)) = false := beq_eq_false_iff_ne.mpr c5
      have c5b1 : (a0.toList != ([100, 105, 118, 117] : List UInt8)) = true := bne_iff_ne.mpr c5
      (first | rw [c5b0] | (simp only [i64_w, i32_w]; rw [c5b0]) | skip)
      have H' := Aside0.mk H
      clear H
      go_wp2
      go_meet
      case rel => exact ⟨_, ((a0.toList == ([114, 101, 109, 117] : List UInt8))), (by first | rfl | (simp; done) | (simp [*]; done)), H', ⟨by first | omega | exact Nat.le_refl _⟩, by repeat (first | exact Drawn0.refl _ | apply Drawn0.step)⟩
  case rest =>
    clear HC4
    try clear c2
    try clear p2
    try clear c5
    try clear c5b0
    try clear c5b1
    obtain ⟨kq, x14_3, rfl, HA, HJ3, ⟨mc3, rfl⟩⟩ := hcut
    cases kq with
    | zero => exact absurd HA.out (by simp [mir_divide.j0])
    | succ kj3 =>
      have H := HA.out
      clear HA
      simp only [mir_divide.j0] at H
      by_cases c6 : x14_3 = true
      · subst c6
        have H1 : ((mir_quotient.f ((a1) % 4294967296) ((a2) % 4294967296)).bind fun bt101 => (if 0 < (a0.size : Int) then (if (bt a0 0) = 100 then (some bt101.1) else (some bt101.2)) else (none))) = some r := by rw [if_pos rfl] at H; exact H
        clear H
        have H := H1
        clear H1
        replace H := Option.bind_eq_some_iff.mp H
        obtain ⟨⟨t101, t102⟩, A70, H⟩ := H
        replace H : (if 0 < (a0.size : Int) then (if (bt a0 0) = 100 then (some t101) else (some t102)) else (none)) = some r := H
        have A7 := Aside0.mk A70
        clear A70
        by_cases c8 : 0 < (a0.size : Int)
        · rw [if_pos c8] at H
          have c8b0 : decide (0 < (a0.size : Int)) = true := decide_eq_true c8
          have c8b1 : decide (0 < a0.size) = true := decide_eq_true (by omega)
          clear c8
          by_cases c10 : (bt a0 0) = 100
          · rw [if_pos c10] at H
            have c10b0 : ((bt a0 0) == 100) = true := beq_iff_eq.mpr c10
            have c10b1 : ((bt a0 0) != 100) = false := bne_eq_false_iff_eq.mpr c10
            clear c10
            obtain rfl := Option.some.inj H
            go_wp2_with (first | ((with_reducible refine gate_callee (f := 30) rfl ?_); refine goesL_ (some 24) rfl rfl Try.func30 (by kernel_rfl) rfl #[.int .i64 ((a1) % 4294967296), .int .i64 ((a2) % 4294967296)] rfl (by (try simp only [List.map_toArray, List.map_cons, List.map_nil]); first | done | rfl | (simp only [List.length_drop, List.length_take]; rfl)) ?_; (with_reducible refine (mir_quotient.calls ((a1) % 4294967296) ((a2) % 4294967296) t101 t102 _ A7.out).mono ?_); rintro e w' ⟨rfl, ⟨nd, rfl⟩⟩; refine ⟨_, rfl, ?_⟩; have p9 : 0 ≤ (0 : Int) := (by omega); have q9 : 0 < a0.size := (by have : (0 : Int) < (a0.size : Int) := of_decide_eq_true (by first | (with_reducible assumption) | assumption); omega); have hx9 : ∀ h : 0 < a0.size, ((a0[0]'h).toNat : Int) = bt a0 0 := bt_at a0 0; clear p9; have qi9 : (0 < (a0.size : Int)) = True := eq_true (of_decide_eq_true (by first | (with_reducible assumption) | assumption)); replace q9 := eq_true q9))
            go_ret
            exact ⟨by first | rfl | (simp; done) | (simp [*]; done), by repeat (first | exact Drawn0.refl _ | apply Drawn0.step)⟩
          · rw [if_neg c10] at H
            have c10b0 : ((bt a0 0) == 100) = false := beq_eq_false_iff_ne.mpr c10
            have c10b1 : ((bt a0 0) != 100) = true := bne_iff_ne.mpr c10
            obtain rfl := Option.some.inj H
            go_wp2_with (first | ((with_reducible refine gate_callee (f := 30) rfl ?_); refine goesL_ (some 24) rfl rfl Try.func30 (by kernel_rfl) rfl #[.int .i64 ((a1) % 4294967296), .int .i64 ((a2) % 4294967296)] rfl (by (try simp only [List.map_toArray, List.map_cons, List.map_nil]); first | done | rfl | (simp only [List.length_drop, List.length_take]; rfl)) ?_; (with_reducible refine (mir_quotient.calls ((a1) % 4294967296) ((a2) % 4294967296) t101 t102 _ A7.out).mono ?_); rintro e w' ⟨rfl, ⟨nd, rfl⟩⟩; refine ⟨_, rfl, ?_⟩; have p9 : 0 ≤ (0 : Int) := (by omega); have q9 : 0 < a0.size := (by have : (0 : Int) < (a0.size : Int) := of_decide_eq_true (by first | (with_reducible assumption) | assumption); omega); have hx9 : ∀ h : 0 < a0.size, ((a0[0]'h).toNat : Int) = bt a0 0 := bt_at a0 0; clear p9; have qi9 : (0 < (a0.size : Int)) = True := eq_true (of_decide_eq_true (by first | (with_reducible assumption) | assumption)); replace q9 := eq_true q9))
            go_ret
            exact ⟨by first | rfl | (simp; done) | (simp [*]; done), by repeat (first | exact Drawn0.refl _ | apply Drawn0.step)⟩
        · rw [if_neg c8] at H
          exact absurd H (by simp)
      · replace c6 := Bool.eq_false_iff.mpr c6
        subst c6
        have H1 : ((mir_quotient.f a1 a2).bind fun bt103 => (if 0 < (a0.size : Int) then (if (bt a0 0) = 100 then (some bt103.1) else (some bt103.2)) else (none))) = some r := by rw [if_neg (show ¬ (false = true) by decide)] at H; exact H
        clear H
        have H := H1
        clear H1
        replace H := Option.bind_eq_some_iff.mp H
        obtain ⟨⟨t103, t104⟩, A110, H⟩ := H
        replace H : (if 0 < (a0.size : Int) then (if (bt a0 0) = 100 then (some t103) else (some t104)) else (none)) = some r := H
        have A11 := Aside0.mk A110
        clear A110
        by_cases c12 : 0 < (a0.size : Int)
        · rw [if_pos c12] at H
          have c12b0 : decide (0 < (a0.size : Int)) = true := decide_eq_true c12
          have c12b1 : decide (0 < a0.size) = true := decide_eq_true (by omega)
          clear c12
          by_cases c14 : (bt a0 0) = 100
          · rw [if_pos c14] at H
            have c14b0 : ((bt a0 0) == 100) = true := beq_iff_eq.mpr c14
            have c14b1 : ((bt a0 0) != 100) = false := bne_eq_false_iff_eq.mpr c14
            clear c14
            obtain rfl := Option.some.inj H
            go_wp2_with (first | ((with_reducible refine gate_callee (f := 30) rfl ?_); refine goesL_ (some 24) rfl rfl Try.func30 (by kernel_rfl) rfl #[.int .i64 a1, .int .i64 a2] rfl (by (try simp only [List.map_toArray, List.map_cons, List.map_nil]); first | done | rfl | (simp only [List.length_drop, List.length_take]; rfl)) ?_; (with_reducible refine (mir_quotient.calls a1 a2 t103 t104 _ A11.out).mono ?_); rintro e w' ⟨rfl, ⟨nd, rfl⟩⟩; refine ⟨_, rfl, ?_⟩; have p13 : 0 ≤ (0 : Int) := (by omega); have q13 : 0 < a0.size := (by have : (0 : Int) < (a0.size : Int) := of_decide_eq_true (by first | (with_reducible assumption) | assumption); omega); have hx13 : ∀ h : 0 < a0.size, ((a0[0]'h).toNat : Int) = bt a0 0 := bt_at a0 0; clear p13; have qi13 : (0 < (a0.size : Int)) = True := eq_true (of_decide_eq_true (by first | (with_reducible assumption) | assumption)); replace q13 := eq_true q13))
            go_ret
            exact ⟨by first | rfl | (simp; done) | (simp [*]; done), by repeat (first | exact Drawn0.refl _ | apply Drawn0.step)⟩
          · rw [if_neg c14] at H
            have c14b0 : ((bt a0 0) == 100) = false := beq_eq_false_iff_ne.mpr c14
            have c14b1 : ((bt a0 0) != 100) = true := bne_iff_ne.mpr c14
            obtain rfl := Option.some.inj H
            go_wp2_with (first | ((with_reducible refine gate_callee (f := 30) rfl ?_); refine goesL_ (some 24) rfl rfl Try.func30 (by kernel_rfl) rfl #[.int .i64 a1, .int .i64 a2] rfl (by (try simp only [List.map_toArray, List.map_cons, List.map_nil]); first | done | rfl | (simp only [List.length_drop, List.length_take]; rfl)) ?_; (with_reducible refine (mir_quotient.calls a1 a2 t103 t104 _ A11.out).mono ?_); rintro e w' ⟨rfl, ⟨nd, rfl⟩⟩; refine ⟨_, rfl, ?_⟩; have p13 : 0 ≤ (0 : Int) := (by omega); have q13 : 0 < a0.size := (by have : (0 : Int) < (a0.size : Int) := of_decide_eq_true (by first | (with_reducible assumption) | assumption); omega); have hx13 : ∀ h : 0 < a0.size, ((a0[0]'h).toNat : Int) = bt a0 0 := bt_at a0 0; clear p13; have qi13 : (0 < (a0.size : Int)) = True := eq_true (of_decide_eq_true (by first | (with_reducible assumption) | assumption)); replace q13 := eq_true q13))
            go_ret
            exact ⟨by first | rfl | (simp; done) | (simp [*]; done), by repeat (first | exact Drawn0.refl _ | apply Drawn0.step)⟩
        · rw [if_neg c12] at H
          exact absurd H (by simp)

/-! ### mir_flag: function 24 -/
def mir_flag.f (a0 : Bool) : Option (Int) := if a0 = true then (some 1) else (some 0)
set_option maxHeartbeats 8000000 in
set_option maxRecDepth 100000 in
theorem mir_flag.calls (a0 : Bool) (r : Int) (w : World) (h : mir_flag.f a0 = some r) :
    Calls Try.prog 24 #[.bool a0] w fun e w' => e = .returned (.int .i64 r) ∧ Drawn0 w w' := by
  have H : (if a0 = true then (some 1) else (some 0)) = some r := h
  clear h
  by_cases c2 : a0 = true
  · subst c2
    have H1 : (some 1) = some r := by rw [if_pos rfl] at H; exact H
    clear H
    have H := H1
    clear H1
    obtain rfl := Option.some.inj H
    go_enter Try.func24, Try.ntmps24
    go_wp2
    go_ret
    exact ⟨by first | rfl | (simp; done) | (simp [*]; done), by repeat (first | exact Drawn0.refl _ | apply Drawn0.step)⟩
  · replace c2 := Bool.eq_false_iff.mpr c2
    subst c2
    have H1 : (some 0) = some r := by rw [if_neg (show ¬ (false = true) by decide)] at H; exact H
    clear H
    have H := H1
    clear H1
    obtain rfl := Option.some.inj H
    go_enter Try.func24, Try.ntmps24
    go_wp2
    go_ret
    exact ⟨by first | rfl | (simp; done) | (simp [*]; done), by repeat (first | exact Drawn0.refl _ | apply Drawn0.step)⟩

/-! ### mir_Do: function 13 -/
def mir_Do.j0 : Nat → ByteArray → Int → Int → Int → ByteArray → Bool → Option (Int × Bool)
  | 0, _, _, _, _, _, _ => none
  | k + 1, x0, x8, x9, x10, x19, x57 => if x57 = true then ((mir_divide.f k x0 (wrap64 (x8)) (wrap64 (x9))).bind fun t105 => (some (wrap64 (wrap32 (t105)), true))) else (if x19.toList = ([97, 110, 100] : List UInt8) then (some (wrap64 (wrap32 (wrap64 (Go.bits .and .i32 x8 x9))), true)) else (if x19.toList = ([111, 114] : List UInt8) then (some (wrap64 (wrap32 (wrap64 (Go.bits .or .i32 x8 x9))), true)) else (if x19.toList = ([120, 111, 114] : List UInt8) then (some (wrap64 (wrap32 (wrap64 (Go.bits .xor .i32 x8 x9))), true)) else (if x19.toList = ([115, 108, 108] : List UInt8) then (if 0 ≤ x10 then (some (wrap64 (wrap32 (wrap64 (shl .i32 x8 x10))), true)) else (none)) else (if x19.toList = ([115, 114, 108] : List UInt8) then (if 0 ≤ x10 then (some (wrap64 (wrap32 (wrap64 (shr .u32 ((x8) % 4294967296) x10))), true)) else (none)) else (if x19.toList = ([115, 114, 97] : List UInt8) then (if 0 ≤ x10 then (some (wrap64 (wrap32 (wrap64 (shr .i32 x8 x10))), true)) else (none)) else (if x19.toList = ([115, 108, 116] : List UInt8) then ((mir_flag.f (decide (x8 < x9))).bind fun t106 => (some (wrap64 (wrap32 (t106)), true))) else (if x19.toList = ([115, 108, 116, 117] : List UInt8) then ((mir_flag.f (decide (((x8) % 4294967296) < ((x9) % 4294967296)))).bind fun t107 => (some (wrap64 (wrap32 (t107)), true))) else (some (0, false))))))))))
def mir_Do.f (k : Nat) (a0 : ByteArray) (a1 : Int) (a2 : Int) : Option (Int × Bool) := if a0.toList = ([97, 100, 100] : List UInt8) then (some (wrap64 (wrap32 (wrap64 (wrap32 ((wrap32 (a1)) + (wrap32 (a2)))))), true)) else (if a0.toList = ([115, 117, 98] : List UInt8) then (some (wrap64 (wrap32 (wrap64 (wrap32 ((wrap32 (a1)) - (wrap32 (a2)))))), true)) else (if a0.toList = ([109, 117, 108] : List UInt8) then (some (wrap64 (wrap32 (wrap64 (wrap32 ((wrap32 (a1)) * (wrap32 (a2)))))), true)) else (if a0.toList = ([109, 117, 108, 104] : List UInt8) then (some (wrap64 (wrap32 ((wrap64 ((wrap64 (wrap32 (a1))) * (wrap64 (wrap32 (a2))))) / 4294967296)), true)) else (if a0.toList = ([109, 117, 108, 104, 117] : List UInt8) then (some (wrap64 (wrap32 (wrap64 ((IntKind.u64.wrap (((wrap32 (a1)) % 4294967296) * ((wrap32 (a2)) % 4294967296))) / 4294967296))), true)) else (if a0.toList = ([100, 105, 118] : List UInt8) then (mir_Do.j0 k a0 (wrap32 (a1)) (wrap32 (a2)) (Go.bits .and .u64 (IntKind.u64.wrap (wrap32 (a2))) 31) a0 (a0.toList == ([100, 105, 118] : List UInt8))) else (if a0.toList = ([100, 105, 118, 117] : List UInt8) then (mir_Do.j0 k a0 (wrap32 (a1)) (wrap32 (a2)) (Go.bits .and .u64 (IntKind.u64.wrap (wrap32 (a2))) 31) a0 (a0.toList == ([100, 105, 118, 117] : List UInt8))) else (if a0.toList = ([114, 101, 109] : List UInt8) then (mir_Do.j0 k a0 (wrap32 (a1)) (wrap32 (a2)) (Go.bits .and .u64 (IntKind.u64.wrap (wrap32 (a2))) 31) a0 (a0.toList == ([114, 101, 109] : List UInt8))) else (mir_Do.j0 k a0 (wrap32 (a1)) (wrap32 (a2)) (Go.bits .and .u64 (IntKind.u64.wrap (wrap32 (a2))) 31) a0 (a0.toList == ([114, 101, 109, 117] : List UInt8))))))))))
theorem mir_Do.mono_l : ∀ k, (∀ y0 y1 y2 y3 y4 y5, LeO (mir_Do.j0 k y0 y1 y2 y3 y4 y5) (mir_Do.j0 (k + 1) y0 y1 y2 y3 y4 y5))
  | 0 => fun _ _ _ _ _ _ r h => by simp [mir_Do.j0] at h
  | k + 1 => by
    have ih0 := mir_Do.mono_l k
    · intro y0 y1 y2 y3 y4 y5
      unfold mir_Do.j0
      repeat' first
      | (with_reducible exact ih0 _ _ _ _ _ _)
      | (with_reducible exact mir_divide.mono _ _ _ _)
      | (with_reducible exact LeO.refl _)
      | (with_reducible exact LeO.none _)
      | (with_reducible refine LeO.ite ?_ ?_)
      | (with_reducible refine LeO.bind ?_ (fun _ => ?_))
      | exact ih0 _ _ _ _ _ _
      | exact mir_divide.mono _ _ _ _
      | exact LeO.none _
      | refine LeO.ite ?_ ?_
      | refine LeO.bind ?_ (fun _ => ?_)
theorem mir_Do.mono : ∀ a0 a1 a2 k, LeO (mir_Do.f k a0 a1 a2) (mir_Do.f (k + 1) a0 a1 a2) := by
  intro a0 a1 a2 k
  have ih0 := mir_Do.mono_l k
  unfold mir_Do.f
  repeat' first
      | (with_reducible exact ih0 _ _ _ _ _ _)
      | (with_reducible exact mir_divide.mono _ _ _ _)
      | (with_reducible exact LeO.refl _)
      | (with_reducible exact LeO.none _)
      | (with_reducible refine LeO.ite ?_ ?_)
      | (with_reducible refine LeO.bind ?_ (fun _ => ?_))
      | exact ih0 _ _ _ _ _ _
      | exact mir_divide.mono _ _ _ _
      | exact LeO.none _
      | refine LeO.ite ?_ ?_
      | refine LeO.bind ?_ (fun _ => ?_)
set_option maxHeartbeats 8000000 in
set_option maxRecDepth 100000 in
theorem mir_Do.calls (k : Nat) (a0 : ByteArray) (a1 : Int) (a2 : Int) (r1 : Int) (r2 : Bool) (w : World) (h : mir_Do.f k a0 a1 a2 = some (r1, r2)) :
    Calls Try.prog 13 #[.string a0, .int .i64 a1, .int .i64 a2] w fun e w' => e = .returned (.tuple #[.int .i64 r1, .bool r2]) ∧ Drawn0 w w' := by
  have H : (if a0.toList = ([97, 100, 100] : List UInt8) then (some (wrap64 (wrap32 (wrap64 (wrap32 ((wrap32 (a1)) + (wrap32 (a2)))))), true)) else (if a0.toList = ([115, 117, 98] : List UInt8) then (some (wrap64 (wrap32 (wrap64 (wrap32 ((wrap32 (a1)) - (wrap32 (a2)))))), true)) else (if a0.toList = ([109, 117, 108] : List UInt8) then (some (wrap64 (wrap32 (wrap64 (wrap32 ((wrap32 (a1)) * (wrap32 (a2)))))), true)) else (if a0.toList = ([109, 117, 108, 104] : List UInt8) then (some (wrap64 (wrap32 ((wrap64 ((wrap64 (wrap32 (a1))) * (wrap64 (wrap32 (a2))))) / 4294967296)), true)) else (if a0.toList = ([109, 117, 108, 104, 117] : List UInt8) then (some (wrap64 (wrap32 (wrap64 ((IntKind.u64.wrap (((wrap32 (a1)) % 4294967296) * ((wrap32 (a2)) % 4294967296))) / 4294967296))), true)) else (if a0.toList = ([100, 105, 118] : List UInt8) then (mir_Do.j0 k a0 (wrap32 (a1)) (wrap32 (a2)) (Go.bits .and .u64 (IntKind.u64.wrap (wrap32 (a2))) 31) a0 (a0.toList == ([100, 105, 118] : List UInt8))) else (if a0.toList = ([100, 105, 118, 117] : List UInt8) then (mir_Do.j0 k a0 (wrap32 (a1)) (wrap32 (a2)) (Go.bits .and .u64 (IntKind.u64.wrap (wrap32 (a2))) 31) a0 (a0.toList == ([100, 105, 118, 117] : List UInt8))) else (if a0.toList = ([114, 101, 109] : List UInt8) then (mir_Do.j0 k a0 (wrap32 (a1)) (wrap32 (a2)) (Go.bits .and .u64 (IntKind.u64.wrap (wrap32 (a2))) 31) a0 (a0.toList == ([114, 101, 109] : List UInt8))) else (mir_Do.j0 k a0 (wrap32 (a1)) (wrap32 (a2)) (Go.bits .and .u64 (IntKind.u64.wrap (wrap32 (a2))) 31) a0 (a0.toList == ([114, 101, 109, 117] : List UInt8))))))))))) = some (r1, r2) := h
  clear h
  by_cases c4 : a0.toList = ([97, 100, 100] : List UInt8)
  · rw [if_pos c4] at H
    have c4b0 : (a0.toList == ([97, 100, 100] : List UInt8)) = true := beq_iff_eq.mpr c4
    have c4b1 : (a0.toList != ([97, 100, 100] : List UInt8)) = false := bne_eq_false_iff_eq.mpr c4
    clear c4
    simp only [Option.some.injEq, Prod.mk.injEq] at H
    obtain ⟨rfl, rfl⟩ := H
    go_enter Try.func13, Try.ntmps13
    go_wp2
    go_ret2
    exact ⟨by first | rfl | (simp; done) | (simp [*]; done), by repeat (first | exact Drawn0.refl _ | apply Drawn0.step)⟩
  · rw [if_neg c4] at H
    have c4b0 : (a0.toList == ([97, 100, 100] : List UInt8)) = false := beq_eq_false_iff_ne.mpr c4
    have c4b1 : (a0.toList != ([97, 100, 100] : List UInt8)) = true := bne_iff_ne.mpr c4
    by_cases c5 : a0.toList = ([115, 117, 98] : List UInt8)
    · rw [if_pos c5] at H
      have c5b0 : (a0.toList == ([115, 117, 98] : List UInt8)) = true := beq_iff_eq.mpr c5
      have c5b1 : (a0.toList != ([115, 117, 98] : List UInt8)) = false := bne_eq_false_iff_eq.mpr c5
      clear c5
      simp only [Option.some.injEq, Prod.mk.injEq] at H
      obtain ⟨rfl, rfl⟩ := H
      go_enter Try.func13, Try.ntmps13
      go_wp2
      go_ret2
      exact ⟨by first | rfl | (simp; done) | (simp [*]; done), by repeat (first | exact Drawn0.refl _ | apply Drawn0.step)⟩
    · rw [if_neg c5] at H
      have c5b0 : (a0.toList == ([115, 117, 98] : List UInt8)) = false := beq_eq_false_iff_ne.mpr c5
      have c5b1 : (a0.toList != ([115, 117, 98] : List UInt8)) = true := bne_iff_ne.mpr c5
      by_cases c6 : a0.toList = ([109, 117, 108] : List UInt8)
      · rw [if_pos c6] at H
        have c6b0 : (a0.toList == ([109, 117, 108] : List UInt8)) = true := beq_iff_eq.mpr c6
        have c6b1 : (a0.toList != ([109, 117, 108] : List UInt8)) = false := bne_eq_false_iff_eq.mpr c6
        clear c6
        simp only [Option.some.injEq, Prod.mk.injEq] at H
        obtain ⟨rfl, rfl⟩ := H
        go_enter Try.func13, Try.ntmps13
        go_wp2
        go_ret2
        exact ⟨by first | rfl | (simp; done) | (simp [*]; done), by repeat (first | exact Drawn0.refl _ | apply Drawn0.step)⟩
      · rw [if_neg c6] at H
        have c6b0 : (a0.toList == ([109, 117, 108] : List UInt8)) = false := beq_eq_false_iff_ne.mpr c6
        have c6b1 : (a0.toList != ([109, 117, 108] : List UInt8)) = true := bne_iff_ne.mpr c6
        by_cases c7 : a0.toList = ([109, 117, 108, 104] : List UInt8)
        · rw [if_pos c7] at H
          have c7b0 : (a0.toList == ([109, 117, 108, 104] : List UInt8)) = true := beq_iff_eq.mpr c7
          have c7b1 : (a0.toList != ([109, 117, 108, 104] : List UInt8)) = false := bne_eq_false_iff_eq.mpr c7
          clear c7
          simp only [Option.some.injEq, Prod.mk.injEq] at H
          obtain ⟨rfl, rfl⟩ := H
          go_enter Try.func13, Try.ntmps13
          go_wp2
          go_ret2
          exact ⟨by first | rfl | (simp; done) | (simp [*]; done), by repeat (first | exact Drawn0.refl _ | apply Drawn0.step)⟩
        · rw [if_neg c7] at H
          have c7b0 : (a0.toList == ([109, 117, 108, 104] : List UInt8)) = false := beq_eq_false_iff_ne.mpr c7
          have c7b1 : (a0.toList != ([109, 117, 108, 104] : List UInt8)) = true := bne_iff_ne.mpr c7
          by_cases c8 : a0.toList = ([109, 117, 108, 104, 117] : List UInt8)
          · rw [if_pos c8] at H
            have c8b0 : (a0.toList == ([109, 117, 108, 104, 117] : List UInt8)) = true := beq_iff_eq.mpr c8
            have c8b1 : (a0.toList != ([109, 117, 108, 104, 117] : List UInt8)) = false := bne_eq_false_iff_eq.mpr c8
            clear c8
            simp only [Option.some.injEq, Prod.mk.injEq] at H
            obtain ⟨rfl, rfl⟩ := H
            go_enter Try.func13, Try.ntmps13
            go_wp2
            go_ret2
            exact ⟨by first | rfl | (simp; done) | (simp [*]; done), by repeat (first | exact Drawn0.refl _ | apply Drawn0.step)⟩
          · rw [if_neg c8] at H
            have c8b0 : (a0.toList == ([109, 117, 108, 104, 117] : List UInt8)) = false := beq_eq_false_iff_ne.mpr c8
            have c8b1 : (a0.toList != ([109, 117, 108, 104, 117] : List UInt8)) = true := bne_iff_ne.mpr c8
            have HC9 := Aside0.mk H
            clear H
            go_enter Try.func13, Try.ntmps13
            go_upto_if 57 with (fail)
            go_cut [57] (fun v57 wc => ∃ (kq : Nat) (x57_8 : Bool), v57 = .bool x57_8 ∧ Aside0 (mir_Do.j0 kq a0 (wrap32 (a1)) (wrap32 (a2)) (Go.bits .and .u64 (IntKind.u64.wrap (wrap32 (a2))) 31) a0 x57_8 = some (r1, r2)) ∧ Aside0 (kq ≤ k) ∧ Drawn0 w wc)
            case first =>
              have H := HC9.out
              clear HC9
              by_cases c10 : a0.toList = ([100, 105, 118] : List UInt8)
              · rw [if_pos c10] at H
                have c10b0 : (a0.toList == ([100, 105, 118] : List UInt8)) = true := beq_iff_eq.mpr c10
                have c10b1 : (a0.toList != ([100, 105, 118] : List UInt8)) = false := bne_eq_false_iff_eq.mpr c10
                clear c10
                (first | rw [c10b0] | (simp only [i64_w, i32_w]; rw [c10b0]) | skip)
                have H' := Aside0.mk H
                clear H
                go_wp2
                go_meet
                case rel => exact ⟨_, ((a0.toList == ([100, 105, 118] : List UInt8))), (by first | rfl | (simp; done) | (simp [*]; done)), H', ⟨by first | omega | exact Nat.le_refl _⟩, by repeat (first | exact Drawn0.refl _ | apply Drawn0.step)⟩
              · rw [if_neg c10] at H
                have c10b0 : (a0.toList == ([100, 105, 118] : List UInt8)) = false := beq_eq_false_iff_ne.mpr c10
                have c10b1 : (a0.toList != ([100, 105, 118] : List UInt8)) = true := bne_iff_ne.mpr c10
                (first | rw [c10b0] | (simp only [i64_w, i32_w]; rw [c10b0]) | skip)
                by_cases c11 : a0.toList = ([100, 105, 118, 117] : List UInt8)
                · rw [if_pos c11] at H
                  have c11b0 : (a0.toList == ([100, 105, 118, 117] : List UInt8)) = true := beq_iff_eq.mpr c11
                  have c11b1 : (a0.toList != ([100, 105, 118, 117] : List UInt8)) = false := bne_eq_false_iff_eq.mpr c11
                  clear c11
                  have H' := Aside0.mk H
                  clear H
                  go_wp2
                  go_meet
                  case rel => exact ⟨_, ((a0.toList == ([100, 105, 118, 117] : List UInt8))), (by first | rfl | (simp; done) | (simp [*]; done)), H', ⟨by first | omega | exact Nat.le_refl _⟩, by repeat (first | exact Drawn0.refl _ | apply Drawn0.step)⟩
                · rw [if_neg c11] at H
                  have c11b0 : (a0.toList == ([100, 105, 118, 117] : List UInt8)) = false := beq_eq_false_iff_ne.mpr c11
                  have c11b1 : (a0.toList != ([100, 105, 118, 117] : List UInt8)) = true := bne_iff_ne.mpr c11
                  by_cases c12 : a0.toList = ([114, 101, 109] : List UInt8)
                  · rw [if_pos c12] at H
                    have c12b0 : (a0.toList == ([114, 101, 109] : List UInt8)) = true := beq_iff_eq.mpr c12
                    have c12b1 : (a0.toList != ([114, 101, 109] : List UInt8)) = false := bne_eq_false_iff_eq.mpr c12
                    clear c12
                    have H' := Aside0.mk H
                    clear H
                    go_wp2
                    go_meet
                    case rel => exact ⟨_, ((a0.toList == ([114, 101, 109] : List UInt8))), (by first | rfl | (simp; done) | (simp [*]; done)), H', ⟨by first | omega | exact Nat.le_refl _⟩, by repeat (first | exact Drawn0.refl _ | apply Drawn0.step)⟩
                  · rw [if_neg c12] at H
                    have c12b0 : (a0.toList == ([114, 101, 109] : List UInt8)) = false := beq_eq_false_iff_ne.mpr c12
                    have c12b1 : (a0.toList != ([114, 101, 109] : List UInt8)) = true := bne_iff_ne.mpr c12
                    have H' := Aside0.mk H
                    clear H
                    go_wp2
                    go_meet
                    case rel => exact ⟨_, ((a0.toList == ([114, 101, 109, 117] : List UInt8))), (by first | rfl | (simp; done) | (simp [*]; done)), H', ⟨by first | omega | exact Nat.le_refl _⟩, by repeat (first | exact Drawn0.refl _ | apply Drawn0.step)⟩
            case rest =>
              clear HC9
              try clear c1
              try clear p2
              try clear p3
              try clear c4
              try clear c4b0
              try clear c4b1
              try clear c5
              try clear c5b0
              try clear c5b1
              try clear c6
              try clear c6b0
              try clear c6b1
              try clear p6
              try clear c7
              try clear c7b0
              try clear c7b1
              try clear c8
              try clear c8b0
              try clear c8b1
              try clear c10
              try clear c10b0
              try clear c10b1
              try clear c11
              try clear c11b0
              try clear c11b1
              try clear c12
              try clear c12b0
              try clear c12b1
              obtain ⟨kq, x57_8, rfl, HA, HJ8, ⟨mc8, rfl⟩⟩ := hcut
              cases kq with
              | zero => exact absurd HA.out (by simp [mir_Do.j0])
              | succ kj8 =>
                have H := HA.out
                clear HA
                simp only [mir_Do.j0] at H
                by_cases c13 : x57_8 = true
                · subst c13
                  have H1 : ((mir_divide.f kj8 a0 (wrap64 ((wrap32 (a1)))) (wrap64 ((wrap32 (a2))))).bind fun t105 => (some (wrap64 (wrap32 (t105)), true))) = some (r1, r2) := by rw [if_pos rfl] at H; exact H
                  clear H
                  have H := H1
                  clear H1
                  replace H := Option.bind_eq_some_iff.mp H
                  obtain ⟨t105, A140, H⟩ := H
                  replace H : (some (wrap64 (wrap32 (t105)), true)) = some (r1, r2) := H
                  have A14 := Aside0.mk A140
                  clear A140
                  simp only [Option.some.injEq, Prod.mk.injEq] at H
                  obtain ⟨rfl, rfl⟩ := H
                  go_wp2_with (first | ((with_reducible refine gate_callee (f := 23) rfl ?_); refine goesL_ (some 67) rfl rfl Try.func23 (by kernel_rfl) rfl #[.string a0, .int .i64 (wrap64 ((wrap32 (a1)))), .int .i64 (wrap64 ((wrap32 (a2))))] rfl (by (try simp only [List.map_toArray, List.map_cons, List.map_nil]); first | done | rfl | (simp only [List.length_drop, List.length_take]; rfl)) ?_; (with_reducible refine (mir_divide.calls kj8 a0 (wrap64 ((wrap32 (a1)))) (wrap64 ((wrap32 (a2)))) t105 _ A14.out).mono ?_); rintro e w' ⟨rfl, ⟨nd, rfl⟩⟩; refine ⟨_, rfl, ?_⟩))
                  go_ret2
                  exact ⟨by first | rfl | (simp; done) | (simp [*]; done), by repeat (first | exact Drawn0.refl _ | apply Drawn0.step)⟩
                · replace c13 := Bool.eq_false_iff.mpr c13
                  subst c13
                  have H1 : (if a0.toList = ([97, 110, 100] : List UInt8) then (some (wrap64 (wrap32 (wrap64 (Go.bits .and .i32 (wrap32 (a1)) (wrap32 (a2))))), true)) else (if a0.toList = ([111, 114] : List UInt8) then (some (wrap64 (wrap32 (wrap64 (Go.bits .or .i32 (wrap32 (a1)) (wrap32 (a2))))), true)) else (if a0.toList = ([120, 111, 114] : List UInt8) then (some (wrap64 (wrap32 (wrap64 (Go.bits .xor .i32 (wrap32 (a1)) (wrap32 (a2))))), true)) else (if a0.toList = ([115, 108, 108] : List UInt8) then (if 0 ≤ (Go.bits .and .u64 (IntKind.u64.wrap (wrap32 (a2))) 31) then (some (wrap64 (wrap32 (wrap64 (shl .i32 (wrap32 (a1)) (Go.bits .and .u64 (IntKind.u64.wrap (wrap32 (a2))) 31)))), true)) else (none)) else (if a0.toList = ([115, 114, 108] : List UInt8) then (if 0 ≤ (Go.bits .and .u64 (IntKind.u64.wrap (wrap32 (a2))) 31) then (some (wrap64 (wrap32 (wrap64 (shr .u32 (((wrap32 (a1))) % 4294967296) (Go.bits .and .u64 (IntKind.u64.wrap (wrap32 (a2))) 31)))), true)) else (none)) else (if a0.toList = ([115, 114, 97] : List UInt8) then (if 0 ≤ (Go.bits .and .u64 (IntKind.u64.wrap (wrap32 (a2))) 31) then (some (wrap64 (wrap32 (wrap64 (shr .i32 (wrap32 (a1)) (Go.bits .and .u64 (IntKind.u64.wrap (wrap32 (a2))) 31)))), true)) else (none)) else (if a0.toList = ([115, 108, 116] : List UInt8) then ((mir_flag.f (decide ((wrap32 (a1)) < (wrap32 (a2))))).bind fun t106 => (some (wrap64 (wrap32 (t106)), true))) else (if a0.toList = ([115, 108, 116, 117] : List UInt8) then ((mir_flag.f (decide ((((wrap32 (a1))) % 4294967296) < (((wrap32 (a2))) % 4294967296)))).bind fun t107 => (some (wrap64 (wrap32 (t107)), true))) else (some (0, false)))))))))) = some (r1, r2) := by rw [if_neg (show ¬ (false = true) by decide)] at H; exact H
                  clear H
                  have H := H1
                  clear H1
                  by_cases c15 : a0.toList = ([97, 110, 100] : List UInt8)
                  · rw [if_pos c15] at H
                    have c15b0 : (a0.toList == ([97, 110, 100] : List UInt8)) = true := beq_iff_eq.mpr c15
                    have c15b1 : (a0.toList != ([97, 110, 100] : List UInt8)) = false := bne_eq_false_iff_eq.mpr c15
                    clear c15
                    simp only [Option.some.injEq, Prod.mk.injEq] at H
                    obtain ⟨rfl, rfl⟩ := H
                    go_wp2
                    go_ret2
                    exact ⟨by first | rfl | (simp; done) | (simp [*]; done), by repeat (first | exact Drawn0.refl _ | apply Drawn0.step)⟩
                  · rw [if_neg c15] at H
                    have c15b0 : (a0.toList == ([97, 110, 100] : List UInt8)) = false := beq_eq_false_iff_ne.mpr c15
                    have c15b1 : (a0.toList != ([97, 110, 100] : List UInt8)) = true := bne_iff_ne.mpr c15
                    by_cases c16 : a0.toList = ([111, 114] : List UInt8)
                    · rw [if_pos c16] at H
                      have c16b0 : (a0.toList == ([111, 114] : List UInt8)) = true := beq_iff_eq.mpr c16
                      have c16b1 : (a0.toList != ([111, 114] : List UInt8)) = false := bne_eq_false_iff_eq.mpr c16
                      clear c16
                      simp only [Option.some.injEq, Prod.mk.injEq] at H
                      obtain ⟨rfl, rfl⟩ := H
                      go_wp2
                      go_ret2
                      exact ⟨by first | rfl | (simp; done) | (simp [*]; done), by repeat (first | exact Drawn0.refl _ | apply Drawn0.step)⟩
                    · rw [if_neg c16] at H
                      have c16b0 : (a0.toList == ([111, 114] : List UInt8)) = false := beq_eq_false_iff_ne.mpr c16
                      have c16b1 : (a0.toList != ([111, 114] : List UInt8)) = true := bne_iff_ne.mpr c16
                      by_cases c17 : a0.toList = ([120, 111, 114] : List UInt8)
                      · rw [if_pos c17] at H
                        have c17b0 : (a0.toList == ([120, 111, 114] : List UInt8)) = true := beq_iff_eq.mpr c17
                        have c17b1 : (a0.toList != ([120, 111, 114] : List UInt8)) = false := bne_eq_false_iff_eq.mpr c17
                        clear c17
                        simp only [Option.some.injEq, Prod.mk.injEq] at H
                        obtain ⟨rfl, rfl⟩ := H
                        go_wp2
                        go_ret2
                        exact ⟨by first | rfl | (simp; done) | (simp [*]; done), by repeat (first | exact Drawn0.refl _ | apply Drawn0.step)⟩
                      · rw [if_neg c17] at H
                        have c17b0 : (a0.toList == ([120, 111, 114] : List UInt8)) = false := beq_eq_false_iff_ne.mpr c17
                        have c17b1 : (a0.toList != ([120, 111, 114] : List UInt8)) = true := bne_iff_ne.mpr c17
                        by_cases c18 : a0.toList = ([115, 108, 108] : List UInt8)
                        · rw [if_pos c18] at H
                          have c18b0 : (a0.toList == ([115, 108, 108] : List UInt8)) = true := beq_iff_eq.mpr c18
                          have c18b1 : (a0.toList != ([115, 108, 108] : List UInt8)) = false := bne_eq_false_iff_eq.mpr c18
                          clear c18
                          obtain ⟨ji19, hji19⟩ : ∃ j_ : Int, (Go.bits .and .u64 (IntKind.u64.wrap (wrap32 (a2))) 31) = j_ := ⟨_, rfl⟩
                          replace H : (if 0 ≤ (ji19) then (some (wrap64 (wrap32 (wrap64 (shl .i32 (wrap32 (a1)) (ji19)))), true)) else (none)) = some (r1, r2) := by first | (rw [hji19] at H; exact H) | (simp only [hji19] at H ⊢; exact H)
                          by_cases c20 : 0 ≤ (ji19)
                          · rw [if_pos c20] at H
                            have c20b0 := eq_true c20
                            have c20b1 : decide (0 ≤ (ji19)) = true := decide_eq_true c20
                            clear c20
                            obtain ⟨ji21, hji21⟩ : ∃ j_ : Int, (shl .i32 (wrap32 (a1)) (ji19)) = j_ := ⟨_, rfl⟩
                            replace H : (some (wrap64 (wrap32 (wrap64 (ji21))), true)) = some (r1, r2) := by first | (rw [hji21] at H; exact H) | (simp only [hji21] at H ⊢; exact H)
                            have hji21_ : (IntKind.i32.wrap ((wrap32 (a1)) * 2 ^ min (ji19).toNat 32)) = ji21 := hji21
                            have hji21z : (ji19) ≤ 32 → (IntKind.i32.wrap ((wrap32 (a1)) * 2 ^ (ji19).toNat)) = ji21 := shl_small hji21
                            have hji21y : (wrap32 ((wrap32 (a1)) * 2 ^ min (ji19).toNat 32)) = ji21 := (i32_w _).symm.trans hji21_
                            have hji21x : (ji19) ≤ 32 → (wrap32 ((wrap32 (a1)) * 2 ^ (ji19).toNat)) = ji21 := fun h_ => (i32_w _).symm.trans (hji21z h_)
                            simp only [Option.some.injEq, Prod.mk.injEq] at H
                            obtain ⟨rfl, rfl⟩ := H
                            go_wp2
                            go_ret2
                            exact ⟨by first | rfl | (simp; done) | (simp only [← hji19, ← hji21] <;> (first | rfl | simp)) | (simp [*]; done), by repeat (first | exact Drawn0.refl _ | apply Drawn0.step)⟩
                          · rw [if_neg c20] at H
                            exact absurd H (by simp)
                        · rw [if_neg c18] at H
                          have c18b0 : (a0.toList == ([115, 108, 108] : List UInt8)) = false := beq_eq_false_iff_ne.mpr c18
                          have c18b1 : (a0.toList != ([115, 108, 108] : List UInt8)) = true := bne_iff_ne.mpr c18
                          by_cases c22 : a0.toList = ([115, 114, 108] : List UInt8)
                          · rw [if_pos c22] at H
                            have c22b0 : (a0.toList == ([115, 114, 108] : List UInt8)) = true := beq_iff_eq.mpr c22
                            have c22b1 : (a0.toList != ([115, 114, 108] : List UInt8)) = false := bne_eq_false_iff_eq.mpr c22
                            clear c22
                            obtain ⟨ji23, hji23⟩ : ∃ j_ : Int, (Go.bits .and .u64 (IntKind.u64.wrap (wrap32 (a2))) 31) = j_ := ⟨_, rfl⟩
                            replace H : (if 0 ≤ (ji23) then (some (wrap64 (wrap32 (wrap64 (shr .u32 (((wrap32 (a1))) % 4294967296) (ji23)))), true)) else (none)) = some (r1, r2) := by first | (rw [hji23] at H; exact H) | (simp only [hji23] at H ⊢; exact H)
                            by_cases c24 : 0 ≤ (ji23)
                            · rw [if_pos c24] at H
                              have c24b0 := eq_true c24
                              have c24b1 : decide (0 ≤ (ji23)) = true := decide_eq_true c24
                              clear c24
                              obtain ⟨ji25, hji25⟩ : ∃ j_ : Int, (shr .u32 (((wrap32 (a1))) % 4294967296) (ji23)) = j_ := ⟨_, rfl⟩
                              replace H : (some (wrap64 (wrap32 (wrap64 (ji25))), true)) = some (r1, r2) := by first | (rw [hji25] at H; exact H) | (simp only [hji25] at H ⊢; exact H)
                              have hji25_ : ((((wrap32 (a1))) % 4294967296) / 2 ^ min (ji23).toNat 32) = ji25 := hji25
                              have hji25z : (ji23) ≤ 32 → ((((wrap32 (a1))) % 4294967296) / 2 ^ (ji23).toNat) = ji25 := shr_small hji25
                              simp only [Option.some.injEq, Prod.mk.injEq] at H
                              obtain ⟨rfl, rfl⟩ := H
                              go_wp2
                              go_ret2
                              exact ⟨by first | rfl | (simp; done) | (simp only [← hji23, ← hji25] <;> (first | rfl | simp)) | (simp [*]; done), by repeat (first | exact Drawn0.refl _ | apply Drawn0.step)⟩
                            · rw [if_neg c24] at H
                              exact absurd H (by simp)
                          · rw [if_neg c22] at H
                            have c22b0 : (a0.toList == ([115, 114, 108] : List UInt8)) = false := beq_eq_false_iff_ne.mpr c22
                            have c22b1 : (a0.toList != ([115, 114, 108] : List UInt8)) = true := bne_iff_ne.mpr c22
                            by_cases c26 : a0.toList = ([115, 114, 97] : List UInt8)
                            · rw [if_pos c26] at H
                              have c26b0 : (a0.toList == ([115, 114, 97] : List UInt8)) = true := beq_iff_eq.mpr c26
                              have c26b1 : (a0.toList != ([115, 114, 97] : List UInt8)) = false := bne_eq_false_iff_eq.mpr c26
                              clear c26
                              obtain ⟨ji27, hji27⟩ : ∃ j_ : Int, (Go.bits .and .u64 (IntKind.u64.wrap (wrap32 (a2))) 31) = j_ := ⟨_, rfl⟩
                              replace H : (if 0 ≤ (ji27) then (some (wrap64 (wrap32 (wrap64 (shr .i32 (wrap32 (a1)) (ji27)))), true)) else (none)) = some (r1, r2) := by first | (rw [hji27] at H; exact H) | (simp only [hji27] at H ⊢; exact H)
                              by_cases c28 : 0 ≤ (ji27)
                              · rw [if_pos c28] at H
                                have c28b0 := eq_true c28
                                have c28b1 : decide (0 ≤ (ji27)) = true := decide_eq_true c28
                                clear c28
                                obtain ⟨ji29, hji29⟩ : ∃ j_ : Int, (shr .i32 (wrap32 (a1)) (ji27)) = j_ := ⟨_, rfl⟩
                                replace H : (some (wrap64 (wrap32 (wrap64 (ji29))), true)) = some (r1, r2) := by first | (rw [hji29] at H; exact H) | (simp only [hji29] at H ⊢; exact H)
                                have hji29_ : ((wrap32 (a1)) / 2 ^ min (ji27).toNat 32) = ji29 := hji29
                                have hji29z : (ji27) ≤ 32 → ((wrap32 (a1)) / 2 ^ (ji27).toNat) = ji29 := shr_small hji29
                                simp only [Option.some.injEq, Prod.mk.injEq] at H
                                obtain ⟨rfl, rfl⟩ := H
                                go_wp2
                                go_ret2
                                exact ⟨by first | rfl | (simp; done) | (simp only [← hji27, ← hji29] <;> (first | rfl | simp)) | (simp [*]; done), by repeat (first | exact Drawn0.refl _ | apply Drawn0.step)⟩
                              · rw [if_neg c28] at H
                                exact absurd H (by simp)
                            · rw [if_neg c26] at H
                              have c26b0 : (a0.toList == ([115, 114, 97] : List UInt8)) = false := beq_eq_false_iff_ne.mpr c26
                              have c26b1 : (a0.toList != ([115, 114, 97] : List UInt8)) = true := bne_iff_ne.mpr c26
                              by_cases c30 : a0.toList = ([115, 108, 116] : List UInt8)
                              · rw [if_pos c30] at H
                                have c30b0 : (a0.toList == ([115, 108, 116] : List UInt8)) = true := beq_iff_eq.mpr c30
                                have c30b1 : (a0.toList != ([115, 108, 116] : List UInt8)) = false := bne_eq_false_iff_eq.mpr c30
                                clear c30
                                replace H := Option.bind_eq_some_iff.mp H
                                obtain ⟨t106, A310, H⟩ := H
                                replace H : (some (wrap64 (wrap32 (t106)), true)) = some (r1, r2) := H
                                have A31 := Aside0.mk A310
                                clear A310
                                simp only [Option.some.injEq, Prod.mk.injEq] at H
                                obtain ⟨rfl, rfl⟩ := H
                                go_wp2_with (first | ((with_reducible refine gate_callee (f := 24) rfl ?_); refine goesL_ (some 110) rfl rfl Try.func24 (by kernel_rfl) rfl #[.bool (decide ((wrap32 (a1)) < (wrap32 (a2))))] rfl (by (try simp only [List.map_toArray, List.map_cons, List.map_nil]); first | done | rfl | (simp only [List.length_drop, List.length_take]; rfl)) ?_; (with_reducible refine (mir_flag.calls (decide ((wrap32 (a1)) < (wrap32 (a2)))) t106 _ A31.out).mono ?_); rintro e w' ⟨rfl, ⟨nd, rfl⟩⟩; refine ⟨_, rfl, ?_⟩))
                                go_ret2
                                exact ⟨by first | rfl | (simp; done) | (simp [*]; done), by repeat (first | exact Drawn0.refl _ | apply Drawn0.step)⟩
                              · rw [if_neg c30] at H
                                have c30b0 : (a0.toList == ([115, 108, 116] : List UInt8)) = false := beq_eq_false_iff_ne.mpr c30
                                have c30b1 : (a0.toList != ([115, 108, 116] : List UInt8)) = true := bne_iff_ne.mpr c30
                                by_cases c32 : a0.toList = ([115, 108, 116, 117] : List UInt8)
                                · rw [if_pos c32] at H
                                  have c32b0 : (a0.toList == ([115, 108, 116, 117] : List UInt8)) = true := beq_iff_eq.mpr c32
                                  have c32b1 : (a0.toList != ([115, 108, 116, 117] : List UInt8)) = false := bne_eq_false_iff_eq.mpr c32
                                  clear c32
                                  replace H := Option.bind_eq_some_iff.mp H
                                  obtain ⟨t107, A330, H⟩ := H
                                  replace H : (some (wrap64 (wrap32 (t107)), true)) = some (r1, r2) := H
                                  have A33 := Aside0.mk A330
                                  clear A330
                                  simp only [Option.some.injEq, Prod.mk.injEq] at H
                                  obtain ⟨rfl, rfl⟩ := H
                                  go_wp2_with (first | ((with_reducible refine gate_callee (f := 24) rfl ?_); refine goesL_ (some 118) rfl rfl Try.func24 (by kernel_rfl) rfl #[.bool (decide ((((wrap32 (a1))) % 4294967296) < (((wrap32 (a2))) % 4294967296)))] rfl (by (try simp only [List.map_toArray, List.map_cons, List.map_nil]); first | done | rfl | (simp only [List.length_drop, List.length_take]; rfl)) ?_; (with_reducible refine (mir_flag.calls (decide ((((wrap32 (a1))) % 4294967296) < (((wrap32 (a2))) % 4294967296))) t107 _ A33.out).mono ?_); rintro e w' ⟨rfl, ⟨nd, rfl⟩⟩; refine ⟨_, rfl, ?_⟩))
                                  go_ret2
                                  exact ⟨by first | rfl | (simp; done) | (simp [*]; done), by repeat (first | exact Drawn0.refl _ | apply Drawn0.step)⟩
                                · rw [if_neg c32] at H
                                  have c32b0 : (a0.toList == ([115, 108, 116, 117] : List UInt8)) = false := beq_eq_false_iff_ne.mpr c32
                                  have c32b1 : (a0.toList != ([115, 108, 116, 117] : List UInt8)) = true := bne_iff_ne.mpr c32
                                  simp only [Option.some.injEq, Prod.mk.injEq] at H
                                  obtain ⟨rfl, rfl⟩ := H
                                  go_wp2
                                  go_ret2
                                  exact ⟨by first | rfl | (simp; done) | (simp [*]; done), by repeat (first | exact Drawn0.refl _ | apply Drawn0.step)⟩

/-! ### ferruleref12_Word: function 16 -/
def ferruleref12_Word.f (a0 : Int) : Option (Int) := if (Int.tmod (wrap64 ((Int.tmod a0 4294967296) + 4294967296)) 4294967296) ≥ 2147483648 then (some (wrap64 ((Int.tmod (wrap64 ((Int.tmod a0 4294967296) + 4294967296)) 4294967296) - 4294967296))) else (some (Int.tmod (wrap64 ((Int.tmod a0 4294967296) + 4294967296)) 4294967296))
set_option maxHeartbeats 8000000 in
set_option maxRecDepth 100000 in
theorem ferruleref12_Word.calls (a0 : Int) (r : Int) (w : World) (h : ferruleref12_Word.f a0 = some r) :
    Calls Try.prog 16 #[.int .i64 a0] w fun e w' => e = .returned (.int .i64 r) ∧ Drawn0 w w' := by
  have H : (if (Int.tmod (wrap64 ((Int.tmod a0 4294967296) + 4294967296)) 4294967296) ≥ 2147483648 then (some (wrap64 ((Int.tmod (wrap64 ((Int.tmod a0 4294967296) + 4294967296)) 4294967296) - 4294967296))) else (some (Int.tmod (wrap64 ((Int.tmod a0 4294967296) + 4294967296)) 4294967296))) = some r := h
  clear h
  by_cases c2 : (Int.tmod (wrap64 ((Int.tmod a0 4294967296) + 4294967296)) 4294967296) ≥ 2147483648
  · rw [if_pos c2] at H
    have c2b0 : decide (2147483648 ≤ (Int.tmod (wrap64 ((Int.tmod a0 4294967296) + 4294967296)) 4294967296)) = true := decide_eq_true c2
    clear c2
    obtain rfl := Option.some.inj H
    go_enter Try.func16, Try.ntmps16
    go_wp2
    go_ret
    exact ⟨by first | rfl | (simp; done) | (simp [*]; done), by repeat (first | exact Drawn0.refl _ | apply Drawn0.step)⟩
  · rw [if_neg c2] at H
    have c2b0 : decide (2147483648 ≤ (Int.tmod (wrap64 ((Int.tmod a0 4294967296) + 4294967296)) 4294967296)) = false := decide_eq_false c2
    clear c2
    obtain rfl := Option.some.inj H
    go_enter Try.func16, Try.ntmps16
    go_wp2
    go_ret
    exact ⟨by first | rfl | (simp; done) | (simp [*]; done), by repeat (first | exact Drawn0.refl _ | apply Drawn0.step)⟩

/-! ### ferruleref12_whole: function 25 -/
def ferruleref12_whole.f (a0 : Int) : Option (Int) := some (Int.tmod (wrap64 ((Int.tmod a0 4294967296) + 4294967296)) 4294967296)
set_option maxHeartbeats 8000000 in
set_option maxRecDepth 100000 in
theorem ferruleref12_whole.calls (a0 : Int) (r : Int) (w : World) (h : ferruleref12_whole.f a0 = some r) :
    Calls Try.prog 25 #[.int .i64 a0] w fun e w' => e = .returned (.int .i64 r) ∧ Drawn0 w w' := by
  have H : (some (Int.tmod (wrap64 ((Int.tmod a0 4294967296) + 4294967296)) 4294967296)) = some r := h
  clear h
  obtain rfl := Option.some.inj H
  go_enter Try.func25, Try.ntmps25
  go_wp2
  go_ret
  exact ⟨by first | rfl | (simp; done) | (simp [*]; done), by repeat (first | exact Drawn0.refl _ | apply Drawn0.step)⟩

/-! ### ferruleref12_divide: function 26 -/
def ferruleref12_divide.f (a0 : Int) (a1 : Int) : Option (Int × Int) := if a1 = 0 then (some ((-1), a0)) else (some (wrap64 (Int.tdiv a0 a1), wrap64 (a0 - (wrap64 ((wrap64 (Int.tdiv a0 a1)) * a1)))))
set_option maxHeartbeats 8000000 in
set_option maxRecDepth 100000 in
theorem ferruleref12_divide.calls (a0 : Int) (a1 : Int) (r1 : Int) (r2 : Int) (w : World) (h : ferruleref12_divide.f a0 a1 = some (r1, r2)) :
    Calls Try.prog 26 #[.int .i64 a0, .int .i64 a1] w fun e w' => e = .returned (.tuple #[.int .i64 r1, .int .i64 r2]) ∧ Drawn0 w w' := by
  have H : (if a1 = 0 then (some ((-1), a0)) else (some (wrap64 (Int.tdiv a0 a1), wrap64 (a0 - (wrap64 ((wrap64 (Int.tdiv a0 a1)) * a1)))))) = some (r1, r2) := h
  clear h
  by_cases c3 : a1 = 0
  · rw [if_pos c3] at H
    have c3b0 : (a1 == 0) = true := beq_iff_eq.mpr c3
    have c3b1 : (a1 != 0) = false := bne_eq_false_iff_eq.mpr c3
    clear c3
    simp only [Option.some.injEq, Prod.mk.injEq] at H
    obtain ⟨rfl, rfl⟩ := H
    go_enter Try.func26, Try.ntmps26
    go_wp2
    go_ret2
    exact ⟨by first | rfl | (simp; done) | (simp [*]; done), by repeat (first | exact Drawn0.refl _ | apply Drawn0.step)⟩
  · rw [if_neg c3] at H
    have c3b0 : (a1 == 0) = false := beq_eq_false_iff_ne.mpr c3
    have c3b1 : (a1 != 0) = true := bne_iff_ne.mpr c3
    simp only [Option.some.injEq, Prod.mk.injEq] at H
    obtain ⟨rfl, rfl⟩ := H
    go_enter Try.func26, Try.ntmps26
    go_wp2
    go_ret2
    exact ⟨by first | rfl | (simp; done) | (simp [*]; done), by repeat (first | exact Drawn0.refl _ | apply Drawn0.step)⟩

/-! ### ferruleref12_high: function 27 -/
def ferruleref12_high.f (a0 : Int) (a1 : Int) : Option (Int) := some (wrap64 (Int.tdiv (wrap64 ((wrap64 ((wrap64 ((wrap64 (Int.tdiv (wrap64 (a0 - (Go.bits .and .i64 a0 65535))) 65536)) * a1)) + (wrap64 (Int.tdiv (wrap64 ((wrap64 ((Go.bits .and .i64 a0 65535) * a1)) - (Int.tmod (wrap64 ((Int.tmod (wrap64 ((Go.bits .and .i64 a0 65535) * a1)) 65536) + 65536)) 65536))) 65536)))) - (Int.tmod (wrap64 ((Int.tmod (wrap64 ((wrap64 ((wrap64 (Int.tdiv (wrap64 (a0 - (Go.bits .and .i64 a0 65535))) 65536)) * a1)) + (wrap64 (Int.tdiv (wrap64 ((wrap64 ((Go.bits .and .i64 a0 65535) * a1)) - (Int.tmod (wrap64 ((Int.tmod (wrap64 ((Go.bits .and .i64 a0 65535) * a1)) 65536) + 65536)) 65536))) 65536)))) 65536) + 65536)) 65536))) 65536))
set_option maxHeartbeats 8000000 in
set_option maxRecDepth 100000 in
theorem ferruleref12_high.calls (a0 : Int) (a1 : Int) (r : Int) (w : World) (h : ferruleref12_high.f a0 a1 = some r) :
    Calls Try.prog 27 #[.int .i64 a0, .int .i64 a1] w fun e w' => e = .returned (.int .i64 r) ∧ Drawn0 w w' := by
  have H : (some (wrap64 (Int.tdiv (wrap64 ((wrap64 ((wrap64 ((wrap64 (Int.tdiv (wrap64 (a0 - (Go.bits .and .i64 a0 65535))) 65536)) * a1)) + (wrap64 (Int.tdiv (wrap64 ((wrap64 ((Go.bits .and .i64 a0 65535) * a1)) - (Int.tmod (wrap64 ((Int.tmod (wrap64 ((Go.bits .and .i64 a0 65535) * a1)) 65536) + 65536)) 65536))) 65536)))) - (Int.tmod (wrap64 ((Int.tmod (wrap64 ((wrap64 ((wrap64 (Int.tdiv (wrap64 (a0 - (Go.bits .and .i64 a0 65535))) 65536)) * a1)) + (wrap64 (Int.tdiv (wrap64 ((wrap64 ((Go.bits .and .i64 a0 65535) * a1)) - (Int.tmod (wrap64 ((Int.tmod (wrap64 ((Go.bits .and .i64 a0 65535) * a1)) 65536) + 65536)) 65536))) 65536)))) 65536) + 65536)) 65536))) 65536))) = some r := h
  clear h
  obtain rfl := Option.some.inj H
  go_enter Try.func27, Try.ntmps27
  go_wp2
  go_ret
  exact ⟨by first | rfl | (simp; done) | (simp [*]; done), by repeat (first | exact Drawn0.refl _ | apply Drawn0.step)⟩

/-! ### ferruleref12_power: function 28 -/
def ferruleref12_power.f (a0 : Int) : Option (Int) := if 0 ≤ (IntKind.u64.wrap (a0)) then (some (shl .i64 1 (IntKind.u64.wrap (a0)))) else (none)
set_option maxHeartbeats 8000000 in
set_option maxRecDepth 100000 in
theorem ferruleref12_power.calls (a0 : Int) (r : Int) (w : World) (h : ferruleref12_power.f a0 = some r) :
    Calls Try.prog 28 #[.int .i64 a0] w fun e w' => e = .returned (.int .i64 r) ∧ Drawn0 w w' := by
  have H : (if 0 ≤ (IntKind.u64.wrap (a0)) then (some (shl .i64 1 (IntKind.u64.wrap (a0)))) else (none)) = some r := h
  clear h
  obtain ⟨ji2, hji2⟩ : ∃ j_ : Int, (IntKind.u64.wrap (a0)) = j_ := ⟨_, rfl⟩
  replace H : (if 0 ≤ (ji2) then (some (shl .i64 1 (ji2))) else (none)) = some r := by first | (rw [hji2] at H; exact H) | (simp only [hji2] at H ⊢; exact H)
  by_cases c3 : 0 ≤ (ji2)
  · rw [if_pos c3] at H
    have c3b0 := eq_true c3
    have c3b1 : decide (0 ≤ (ji2)) = true := decide_eq_true c3
    clear c3
    obtain ⟨ji4, hji4⟩ : ∃ j_ : Int, (shl .i64 1 (ji2)) = j_ := ⟨_, rfl⟩
    replace H : (some ji4) = some r := by first | (rw [hji4] at H; exact H) | (simp only [hji4] at H ⊢; exact H)
    have hji4_ : (IntKind.i64.wrap (1 * 2 ^ min (ji2).toNat 64)) = ji4 := hji4
    have hji4z : (ji2) ≤ 64 → (IntKind.i64.wrap (1 * 2 ^ (ji2).toNat)) = ji4 := shl_small hji4
    have hji4u : (IntKind.i64.wrap (2 ^ min (ji2).toNat 64)) = ji4 := by have h_ := hji4_; rw [Int.one_mul] at h_; exact h_
    have hji4v : (ji2) ≤ 64 → (IntKind.i64.wrap (2 ^ (ji2).toNat)) = ji4 := fun hle_ => by have h_ := hji4z hle_; rw [Int.one_mul] at h_; exact h_
    have hji4y : (wrap64 (1 * 2 ^ min (ji2).toNat 64)) = ji4 := (i64_w _).symm.trans hji4_
    have hji4x : (ji2) ≤ 64 → (wrap64 (1 * 2 ^ (ji2).toNat)) = ji4 := fun h_ => (i64_w _).symm.trans (hji4z h_)
    obtain rfl := Option.some.inj H
    go_enter Try.func28, Try.ntmps28
    go_wp2
    go_ret
    exact ⟨by first | rfl | (simp; done) | (simp only [← hji2, ← hji4] <;> (first | rfl | simp)) | (simp [*]; done), by repeat (first | exact Drawn0.refl _ | apply Drawn0.step)⟩
  · rw [if_neg c3] at H
    exact absurd H (by simp)

/-! ### ferruleref12_flag: function 29 -/
def ferruleref12_flag.f (a0 : Bool) : Option (Int) := if a0 = true then (some 1) else (some 0)
set_option maxHeartbeats 8000000 in
set_option maxRecDepth 100000 in
theorem ferruleref12_flag.calls (a0 : Bool) (r : Int) (w : World) (h : ferruleref12_flag.f a0 = some r) :
    Calls Try.prog 29 #[.bool a0] w fun e w' => e = .returned (.int .i64 r) ∧ Drawn0 w w' := by
  have H : (if a0 = true then (some 1) else (some 0)) = some r := h
  clear h
  by_cases c2 : a0 = true
  · subst c2
    have H1 : (some 1) = some r := by rw [if_pos rfl] at H; exact H
    clear H
    have H := H1
    clear H1
    obtain rfl := Option.some.inj H
    go_enter Try.func29, Try.ntmps29
    go_wp2
    go_ret
    exact ⟨by first | rfl | (simp; done) | (simp [*]; done), by repeat (first | exact Drawn0.refl _ | apply Drawn0.step)⟩
  · replace c2 := Bool.eq_false_iff.mpr c2
    subst c2
    have H1 : (some 0) = some r := by rw [if_neg (show ¬ (false = true) by decide)] at H; exact H
    clear H
    have H := H1
    clear H1
    obtain rfl := Option.some.inj H
    go_enter Try.func29, Try.ntmps29
    go_wp2
    go_ret
    exact ⟨by first | rfl | (simp; done) | (simp [*]; done), by repeat (first | exact Drawn0.refl _ | apply Drawn0.step)⟩

end Go.Proofs.Ytocjfdpknfnamaa.PMirDoes
