/- Steps toward the law Fuel, merged from several texts (some of them began as the kit's print). No condition. -/
import Derived.Outline
import Derived.IntWalk
import Derived.Test.YtpphpcmbpbppoaaZFuel1
section
namespace Go.Proofs.Ytpphpcmbpbppoaa.Mach
open Go.RowKit Go.Proofs.YtpphpcmbpbppoaaW.PrintWords Go.Proofs.YtpphpcmbpbppoaaW.PrintLast Go.Proofs.YtpphpcmbpbppoaaW.PrintMore
set_option linter.unusedVariables false
theorem none_no (h : Nat) (w : World) (hc : w.cell? ⟨h, 0, none⟩ = some (.bool true)) :
  Calls Try.prog 132 #[.pointer (some ⟨h, 0, none⟩)] w fun e w' => e = .returned (.bool false) ∧ w' = w := by
 go_enter Try.func132, Try.ntmps132
 go_wp2
 go_ret
 exact ⟨rfl, rfl⟩
abbrev cls0 : Value := .agg #[.int .i64 4, .int .i64 64, .int .i64 262144]
abbrev cls1 : Value := .agg #[.int .i64 16, .int .i64 32, .int .i64 263168]
abbrev cls2 : Value := .agg #[.int .i64 64, .int .i64 16, .int .i64 265216]
abbrev cls3 : Value := .agg #[.int .i64 128, .int .i64 8, .int .i64 269312]
theorem ix0 (w : World) : (Instr.index 132 classes (.int .i64 0)).run Try.prog w = .ok cls0 w := by kernel_rfl
theorem ix1 (w : World) : (Instr.index 132 classes (.int .i64 1)).run Try.prog w = .ok cls1 w := by kernel_rfl
theorem ix2 (w : World) : (Instr.index 132 classes (.int .i64 2)).run Try.prog w = .ok cls2 w := by kernel_rfl
theorem ix3 (w : World) : (Instr.index 132 classes (.int .i64 3)).run Try.prog w = .ok cls3 w := by kernel_rfl
set_option maxHeartbeats 4000000 in
set_option maxRecDepth 100000 in
theorem find_0 (h : Nat) (x : Int) (w : World) (h0 : 262144 ≤ x) (h1 : x < 263168) (u : Nat) (v : Bool) (hr : w.cell? ⟨h, 1, none⟩ = some (.slice (some ⟨u, 0, none⟩) 64 64)) (hv : w.cell? ⟨u, ((x - 262144) / 16).toNat, none⟩ = some (.bool v)) :
  Calls Try.prog 133 #[.pointer (some ⟨h, 0, none⟩), .int .i64 x] w fun e w' => e = .returned (.tuple #[.int .i64 0, .int .i64 ((x - 262144) / 16), .int .i64 (x - 262144 - 16 * ((x - 262144) / 16)), .bool v]) ∧ Below w.heap.size w w' := by
 have hmf : ∀ (fn : Fn) (first cap : Array Value) (w : World), (Instr.makeFunc fn first cap).run Try.prog w = .ok (.func fn first cap) w := fun _ _ _ _ => rfl
 have i0 := ix0; have i1 := ix1; have i2 := ix2; have i3 := ix3
 have T0 : decide (x ≥ 262144) = true := by simp; omega
 have T1 : decide (x < 263168) = true := by simp; omega
 have hbh : h < w.heap.size := World.block_lt_of_cell? w ⟨h, 1, none⟩ hr
 have hbu : u < w.heap.size := World.block_lt_of_cell? w ⟨u, _, none⟩ hv
 go_enter Try.func133, Try.ntmps133
 go_wp2_with (go_at_call 54; refine (all _).mono ?_; rintro e w1 ⟨rfl, hb⟩)
 have hz : w.heap.size < w1.heap.size := by have := hb.size; simp at this; omega
 have hz_1 : w.heap.size < w1.heap.size + 1 := by omega
 have hz_2 : w.heap.size < w1.heap.size + 1 + 1 := by omega
 have hz_3 : w.heap.size < w1.heap.size + 1 + 1 + 1 := by omega
 have hz_4 : w.heap.size < w1.heap.size + 1 + 1 + 1 + 1 := by omega
 have hz_5 : w.heap.size < w1.heap.size + 1 + 1 + 1 + 1 + 1 := by omega
 have hz_6 : w.heap.size < w1.heap.size + 1 + 1 + 1 + 1 + 1 + 1 := by omega
 have hz_7 : w.heap.size < w1.heap.size + 1 + 1 + 1 + 1 + 1 + 1 + 1 := by omega
 have hz_8 : w.heap.size < w1.heap.size + 1 + 1 + 1 + 1 + 1 + 1 + 1 + 1 := by omega
 have hc : w1.cell? ⟨w.heap.size, 0, none⟩ = some (.int .i64 x) := by
  rw [hb.cell (by simp)]; simp [go_sem]
 have hr1 : w1.cell? ⟨h, 1, none⟩ = some (.slice (some ⟨u, 0, none⟩) 64 64) := by
  rw [hb.cell (by simp; omega), World.cell?_alloc_past _ _ _ hbh]; exact hr
 have hv1 : w1.cell? ⟨u, ((x - 262144) / 16).toNat, none⟩ = some (.bool v) := by
  rw [hb.cell (by simp; omega), World.cell?_alloc_past _ _ _ hbu]; exact hv
 have hbh1 : h < w1.heap.size := by omega
 have hbu1 : u < w1.heap.size := by omega
 have hbh1_1 : h < w1.heap.size + 1 := by omega
 have hbh1_2 : h < w1.heap.size + 1 + 1 := by omega
 have hbh1_3 : h < w1.heap.size + 1 + 1 + 1 := by omega
 have hbh1_4 : h < w1.heap.size + 1 + 1 + 1 + 1 := by omega
 have hbh1_5 : h < w1.heap.size + 1 + 1 + 1 + 1 + 1 := by omega
 have hbh1_6 : h < w1.heap.size + 1 + 1 + 1 + 1 + 1 + 1 := by omega
 have hbh1_7 : h < w1.heap.size + 1 + 1 + 1 + 1 + 1 + 1 + 1 := by omega
 have hbh1_8 : h < w1.heap.size + 1 + 1 + 1 + 1 + 1 + 1 + 1 + 1 := by omega
 have hbu1_1 : u < w1.heap.size + 1 := by omega
 have hbu1_2 : u < w1.heap.size + 1 + 1 := by omega
 have hbu1_3 : u < w1.heap.size + 1 + 1 + 1 := by omega
 have hbu1_4 : u < w1.heap.size + 1 + 1 + 1 + 1 := by omega
 have hbu1_5 : u < w1.heap.size + 1 + 1 + 1 + 1 + 1 := by omega
 have hbu1_6 : u < w1.heap.size + 1 + 1 + 1 + 1 + 1 + 1 := by omega
 have hbu1_7 : u < w1.heap.size + 1 + 1 + 1 + 1 + 1 + 1 + 1 := by omega
 have hbu1_8 : u < w1.heap.size + 1 + 1 + 1 + 1 + 1 + 1 + 1 + 1 := by omega
 have q0 : 0 ≤ (x - 262144) / 16 := by omega
 have q1 : (x - 262144) / 16 < 64 := by omega
 clear hr hv
 refine wp_loop_rounds 5 ?_
 rw [rounds_succ]
 go_wp2_with go_in
 have k0 : IntKind.i64.wrap (x - 262144) = x - 262144 := IntWalk.i64_in _ (by omega)
 have k1 : IntKind.i64.wrap (16 * ((x - 262144) / 16)) = 16 * ((x - 262144) / 16) := IntWalk.i64_in _ (by omega)
 have k2 : IntKind.i64.wrap (x - 262144 - 16 * ((x - 262144) / 16)) = x - 262144 - 16 * ((x - 262144) / 16) := IntWalk.i64_in _ (by omega)
 go_quiet (fail)
 go_wp2
 refine bodyPost_ret (v := .tuple #[.int .i64 0, .int .i64 ((x - 262144) / 16), .int .i64 (x - 262144 - 16 * ((x - 262144) / 16)), .bool v]) (by simp [results, Try.results133, go_sem]) rfl ⟨rfl, ?_⟩
 have hbb : Below w.heap.size w w1 := below_then (below_alloc (Below.refl _ _) _) (by simp) hb
 repeat (first | with_reducible exact hbb | with_reducible refine pw_below_drewN ?_ _ | with_reducible refine below_alloc ?_ _)
set_option maxHeartbeats 4000000 in
set_option maxRecDepth 100000 in
theorem find_1 (h : Nat) (x : Int) (w : World) (h0 : 263168 ≤ x) (h1 : x < 265216) (u : Nat) (v : Bool) (hr : w.cell? ⟨h, 2, none⟩ = some (.slice (some ⟨u, 0, none⟩) 32 32)) (hv : w.cell? ⟨u, ((x - 263168) / 64).toNat, none⟩ = some (.bool v)) :
  Calls Try.prog 133 #[.pointer (some ⟨h, 0, none⟩), .int .i64 x] w fun e w' => e = .returned (.tuple #[.int .i64 1, .int .i64 ((x - 263168) / 64), .int .i64 (x - 263168 - 64 * ((x - 263168) / 64)), .bool v]) ∧ Below w.heap.size w w' := by
 have hmf : ∀ (fn : Fn) (first cap : Array Value) (w : World), (Instr.makeFunc fn first cap).run Try.prog w = .ok (.func fn first cap) w := fun _ _ _ _ => rfl
 have i0 := ix0; have i1 := ix1; have i2 := ix2; have i3 := ix3
 have T0 : decide (x ≥ 262144) = true := by simp; omega
 have T1 : decide (x < 263168) = false := by simp; omega
 have T2 : decide (x ≥ 263168) = true := by simp; omega
 have T3 : decide (x < 265216) = true := by simp; omega
 have hbh : h < w.heap.size := World.block_lt_of_cell? w ⟨h, 2, none⟩ hr
 have hbu : u < w.heap.size := World.block_lt_of_cell? w ⟨u, _, none⟩ hv
 go_enter Try.func133, Try.ntmps133
 go_wp2_with (go_at_call 54; refine (all _).mono ?_; rintro e w1 ⟨rfl, hb⟩)
 have hz : w.heap.size < w1.heap.size := by have := hb.size; simp at this; omega
 have hz_1 : w.heap.size < w1.heap.size + 1 := by omega
 have hz_2 : w.heap.size < w1.heap.size + 1 + 1 := by omega
 have hz_3 : w.heap.size < w1.heap.size + 1 + 1 + 1 := by omega
 have hz_4 : w.heap.size < w1.heap.size + 1 + 1 + 1 + 1 := by omega
 have hz_5 : w.heap.size < w1.heap.size + 1 + 1 + 1 + 1 + 1 := by omega
 have hz_6 : w.heap.size < w1.heap.size + 1 + 1 + 1 + 1 + 1 + 1 := by omega
 have hz_7 : w.heap.size < w1.heap.size + 1 + 1 + 1 + 1 + 1 + 1 + 1 := by omega
 have hz_8 : w.heap.size < w1.heap.size + 1 + 1 + 1 + 1 + 1 + 1 + 1 + 1 := by omega
 have hc : w1.cell? ⟨w.heap.size, 0, none⟩ = some (.int .i64 x) := by
  rw [hb.cell (by simp)]; simp [go_sem]
 have hr1 : w1.cell? ⟨h, 2, none⟩ = some (.slice (some ⟨u, 0, none⟩) 32 32) := by
  rw [hb.cell (by simp; omega), World.cell?_alloc_past _ _ _ hbh]; exact hr
 have hv1 : w1.cell? ⟨u, ((x - 263168) / 64).toNat, none⟩ = some (.bool v) := by
  rw [hb.cell (by simp; omega), World.cell?_alloc_past _ _ _ hbu]; exact hv
 have hbh1 : h < w1.heap.size := by omega
 have hbu1 : u < w1.heap.size := by omega
 have hbh1_1 : h < w1.heap.size + 1 := by omega
 have hbh1_2 : h < w1.heap.size + 1 + 1 := by omega
 have hbh1_3 : h < w1.heap.size + 1 + 1 + 1 := by omega
 have hbh1_4 : h < w1.heap.size + 1 + 1 + 1 + 1 := by omega
 have hbh1_5 : h < w1.heap.size + 1 + 1 + 1 + 1 + 1 := by omega
 have hbh1_6 : h < w1.heap.size + 1 + 1 + 1 + 1 + 1 + 1 := by omega
 have hbh1_7 : h < w1.heap.size + 1 + 1 + 1 + 1 + 1 + 1 + 1 := by omega
 have hbh1_8 : h < w1.heap.size + 1 + 1 + 1 + 1 + 1 + 1 + 1 + 1 := by omega
 have hbu1_1 : u < w1.heap.size + 1 := by omega
 have hbu1_2 : u < w1.heap.size + 1 + 1 := by omega
 have hbu1_3 : u < w1.heap.size + 1 + 1 + 1 := by omega
 have hbu1_4 : u < w1.heap.size + 1 + 1 + 1 + 1 := by omega
 have hbu1_5 : u < w1.heap.size + 1 + 1 + 1 + 1 + 1 := by omega
 have hbu1_6 : u < w1.heap.size + 1 + 1 + 1 + 1 + 1 + 1 := by omega
 have hbu1_7 : u < w1.heap.size + 1 + 1 + 1 + 1 + 1 + 1 + 1 := by omega
 have hbu1_8 : u < w1.heap.size + 1 + 1 + 1 + 1 + 1 + 1 + 1 + 1 := by omega
 have q0 : 0 ≤ (x - 263168) / 64 := by omega
 have q1 : (x - 263168) / 64 < 32 := by omega
 clear hr hv
 refine wp_loop_rounds 5 ?_
 rw [rounds_succ]
 go_wp2_with go_in
 rw [rounds_succ]
 go_wp2_with go_in
 have k0 : IntKind.i64.wrap (x - 263168) = x - 263168 := IntWalk.i64_in _ (by omega)
 have k1 : IntKind.i64.wrap (64 * ((x - 263168) / 64)) = 64 * ((x - 263168) / 64) := IntWalk.i64_in _ (by omega)
 have k2 : IntKind.i64.wrap (x - 263168 - 64 * ((x - 263168) / 64)) = x - 263168 - 64 * ((x - 263168) / 64) := IntWalk.i64_in _ (by omega)
 go_quiet (fail)
 go_wp2
 refine bodyPost_ret (v := .tuple #[.int .i64 1, .int .i64 ((x - 263168) / 64), .int .i64 (x - 263168 - 64 * ((x - 263168) / 64)), .bool v]) (by simp [results, Try.results133, go_sem]) rfl ⟨rfl, ?_⟩
 have hbb : Below w.heap.size w w1 := below_then (below_alloc (Below.refl _ _) _) (by simp) hb
 repeat (first | with_reducible exact hbb | with_reducible refine pw_below_drewN ?_ _ | with_reducible refine below_alloc ?_ _)
set_option maxHeartbeats 4000000 in
set_option maxRecDepth 100000 in
theorem find_2 (h : Nat) (x : Int) (w : World) (h0 : 265216 ≤ x) (h1 : x < 269312) (u : Nat) (v : Bool) (hr : w.cell? ⟨h, 3, none⟩ = some (.slice (some ⟨u, 0, none⟩) 16 16)) (hv : w.cell? ⟨u, ((x - 265216) / 256).toNat, none⟩ = some (.bool v)) :
  Calls Try.prog 133 #[.pointer (some ⟨h, 0, none⟩), .int .i64 x] w fun e w' => e = .returned (.tuple #[.int .i64 2, .int .i64 ((x - 265216) / 256), .int .i64 (x - 265216 - 256 * ((x - 265216) / 256)), .bool v]) ∧ Below w.heap.size w w' := by
 have hmf : ∀ (fn : Fn) (first cap : Array Value) (w : World), (Instr.makeFunc fn first cap).run Try.prog w = .ok (.func fn first cap) w := fun _ _ _ _ => rfl
 have i0 := ix0; have i1 := ix1; have i2 := ix2; have i3 := ix3
 have T0 : decide (x ≥ 262144) = true := by simp; omega
 have T1 : decide (x < 263168) = false := by simp; omega
 have T2 : decide (x ≥ 263168) = true := by simp; omega
 have T3 : decide (x < 265216) = false := by simp; omega
 have T4 : decide (x ≥ 265216) = true := by simp; omega
 have T5 : decide (x < 269312) = true := by simp; omega
 have hbh : h < w.heap.size := World.block_lt_of_cell? w ⟨h, 3, none⟩ hr
 have hbu : u < w.heap.size := World.block_lt_of_cell? w ⟨u, _, none⟩ hv
 go_enter Try.func133, Try.ntmps133
 go_wp2_with (go_at_call 54; refine (all _).mono ?_; rintro e w1 ⟨rfl, hb⟩)
 have hz : w.heap.size < w1.heap.size := by have := hb.size; simp at this; omega
 have hz_1 : w.heap.size < w1.heap.size + 1 := by omega
 have hz_2 : w.heap.size < w1.heap.size + 1 + 1 := by omega
 have hz_3 : w.heap.size < w1.heap.size + 1 + 1 + 1 := by omega
 have hz_4 : w.heap.size < w1.heap.size + 1 + 1 + 1 + 1 := by omega
 have hz_5 : w.heap.size < w1.heap.size + 1 + 1 + 1 + 1 + 1 := by omega
 have hz_6 : w.heap.size < w1.heap.size + 1 + 1 + 1 + 1 + 1 + 1 := by omega
 have hz_7 : w.heap.size < w1.heap.size + 1 + 1 + 1 + 1 + 1 + 1 + 1 := by omega
 have hz_8 : w.heap.size < w1.heap.size + 1 + 1 + 1 + 1 + 1 + 1 + 1 + 1 := by omega
 have hc : w1.cell? ⟨w.heap.size, 0, none⟩ = some (.int .i64 x) := by
  rw [hb.cell (by simp)]; simp [go_sem]
 have hr1 : w1.cell? ⟨h, 3, none⟩ = some (.slice (some ⟨u, 0, none⟩) 16 16) := by
  rw [hb.cell (by simp; omega), World.cell?_alloc_past _ _ _ hbh]; exact hr
 have hv1 : w1.cell? ⟨u, ((x - 265216) / 256).toNat, none⟩ = some (.bool v) := by
  rw [hb.cell (by simp; omega), World.cell?_alloc_past _ _ _ hbu]; exact hv
 have hbh1 : h < w1.heap.size := by omega
 have hbu1 : u < w1.heap.size := by omega
 have hbh1_1 : h < w1.heap.size + 1 := by omega
 have hbh1_2 : h < w1.heap.size + 1 + 1 := by omega
 have hbh1_3 : h < w1.heap.size + 1 + 1 + 1 := by omega
 have hbh1_4 : h < w1.heap.size + 1 + 1 + 1 + 1 := by omega
 have hbh1_5 : h < w1.heap.size + 1 + 1 + 1 + 1 + 1 := by omega
 have hbh1_6 : h < w1.heap.size + 1 + 1 + 1 + 1 + 1 + 1 := by omega
 have hbh1_7 : h < w1.heap.size + 1 + 1 + 1 + 1 + 1 + 1 + 1 := by omega
 have hbh1_8 : h < w1.heap.size + 1 + 1 + 1 + 1 + 1 + 1 + 1 + 1 := by omega
 have hbu1_1 : u < w1.heap.size + 1 := by omega
 have hbu1_2 : u < w1.heap.size + 1 + 1 := by omega
 have hbu1_3 : u < w1.heap.size + 1 + 1 + 1 := by omega
 have hbu1_4 : u < w1.heap.size + 1 + 1 + 1 + 1 := by omega
 have hbu1_5 : u < w1.heap.size + 1 + 1 + 1 + 1 + 1 := by omega
 have hbu1_6 : u < w1.heap.size + 1 + 1 + 1 + 1 + 1 + 1 := by omega
 have hbu1_7 : u < w1.heap.size + 1 + 1 + 1 + 1 + 1 + 1 + 1 := by omega
 have hbu1_8 : u < w1.heap.size + 1 + 1 + 1 + 1 + 1 + 1 + 1 + 1 := by omega
 have q0 : 0 ≤ (x - 265216) / 256 := by omega
 have q1 : (x - 265216) / 256 < 16 := by omega
 clear hr hv
 refine wp_loop_rounds 5 ?_
 rw [rounds_succ]
 go_wp2_with go_in
 rw [rounds_succ]
 go_wp2_with go_in
 rw [rounds_succ]
 go_wp2_with go_in
 have k0 : IntKind.i64.wrap (x - 265216) = x - 265216 := IntWalk.i64_in _ (by omega)
 have k1 : IntKind.i64.wrap (256 * ((x - 265216) / 256)) = 256 * ((x - 265216) / 256) := IntWalk.i64_in _ (by omega)
 have k2 : IntKind.i64.wrap (x - 265216 - 256 * ((x - 265216) / 256)) = x - 265216 - 256 * ((x - 265216) / 256) := IntWalk.i64_in _ (by omega)
 go_quiet (fail)
 go_wp2
 refine bodyPost_ret (v := .tuple #[.int .i64 2, .int .i64 ((x - 265216) / 256), .int .i64 (x - 265216 - 256 * ((x - 265216) / 256)), .bool v]) (by simp [results, Try.results133, go_sem]) rfl ⟨rfl, ?_⟩
 have hbb : Below w.heap.size w w1 := below_then (below_alloc (Below.refl _ _) _) (by simp) hb
 repeat (first | with_reducible exact hbb | with_reducible refine pw_below_drewN ?_ _ | with_reducible refine below_alloc ?_ _)
set_option maxHeartbeats 4000000 in
set_option maxRecDepth 100000 in
theorem find_3 (h : Nat) (x : Int) (w : World) (h0 : 269312 ≤ x) (h1 : x < 273408) (u : Nat) (v : Bool) (hr : w.cell? ⟨h, 4, none⟩ = some (.slice (some ⟨u, 0, none⟩) 8 8)) (hv : w.cell? ⟨u, ((x - 269312) / 512).toNat, none⟩ = some (.bool v)) :
  Calls Try.prog 133 #[.pointer (some ⟨h, 0, none⟩), .int .i64 x] w fun e w' => e = .returned (.tuple #[.int .i64 3, .int .i64 ((x - 269312) / 512), .int .i64 (x - 269312 - 512 * ((x - 269312) / 512)), .bool v]) ∧ Below w.heap.size w w' := by
 have hmf : ∀ (fn : Fn) (first cap : Array Value) (w : World), (Instr.makeFunc fn first cap).run Try.prog w = .ok (.func fn first cap) w := fun _ _ _ _ => rfl
 have i0 := ix0; have i1 := ix1; have i2 := ix2; have i3 := ix3
 have T0 : decide (x ≥ 262144) = true := by simp; omega
 have T1 : decide (x < 263168) = false := by simp; omega
 have T2 : decide (x ≥ 263168) = true := by simp; omega
 have T3 : decide (x < 265216) = false := by simp; omega
 have T4 : decide (x ≥ 265216) = true := by simp; omega
 have T5 : decide (x < 269312) = false := by simp; omega
 have T6 : decide (x ≥ 269312) = true := by simp; omega
 have T7 : decide (x < 273408) = true := by simp; omega
 have hbh : h < w.heap.size := World.block_lt_of_cell? w ⟨h, 4, none⟩ hr
 have hbu : u < w.heap.size := World.block_lt_of_cell? w ⟨u, _, none⟩ hv
 go_enter Try.func133, Try.ntmps133
 go_wp2_with (go_at_call 54; refine (all _).mono ?_; rintro e w1 ⟨rfl, hb⟩)
 have hz : w.heap.size < w1.heap.size := by have := hb.size; simp at this; omega
 have hz_1 : w.heap.size < w1.heap.size + 1 := by omega
 have hz_2 : w.heap.size < w1.heap.size + 1 + 1 := by omega
 have hz_3 : w.heap.size < w1.heap.size + 1 + 1 + 1 := by omega
 have hz_4 : w.heap.size < w1.heap.size + 1 + 1 + 1 + 1 := by omega
 have hz_5 : w.heap.size < w1.heap.size + 1 + 1 + 1 + 1 + 1 := by omega
 have hz_6 : w.heap.size < w1.heap.size + 1 + 1 + 1 + 1 + 1 + 1 := by omega
 have hz_7 : w.heap.size < w1.heap.size + 1 + 1 + 1 + 1 + 1 + 1 + 1 := by omega
 have hz_8 : w.heap.size < w1.heap.size + 1 + 1 + 1 + 1 + 1 + 1 + 1 + 1 := by omega
 have hc : w1.cell? ⟨w.heap.size, 0, none⟩ = some (.int .i64 x) := by
  rw [hb.cell (by simp)]; simp [go_sem]
 have hr1 : w1.cell? ⟨h, 4, none⟩ = some (.slice (some ⟨u, 0, none⟩) 8 8) := by
  rw [hb.cell (by simp; omega), World.cell?_alloc_past _ _ _ hbh]; exact hr
 have hv1 : w1.cell? ⟨u, ((x - 269312) / 512).toNat, none⟩ = some (.bool v) := by
  rw [hb.cell (by simp; omega), World.cell?_alloc_past _ _ _ hbu]; exact hv
 have hbh1 : h < w1.heap.size := by omega
 have hbu1 : u < w1.heap.size := by omega
 have hbh1_1 : h < w1.heap.size + 1 := by omega
 have hbh1_2 : h < w1.heap.size + 1 + 1 := by omega
 have hbh1_3 : h < w1.heap.size + 1 + 1 + 1 := by omega
 have hbh1_4 : h < w1.heap.size + 1 + 1 + 1 + 1 := by omega
 have hbh1_5 : h < w1.heap.size + 1 + 1 + 1 + 1 + 1 := by omega
 have hbh1_6 : h < w1.heap.size + 1 + 1 + 1 + 1 + 1 + 1 := by omega
 have hbh1_7 : h < w1.heap.size + 1 + 1 + 1 + 1 + 1 + 1 + 1 := by omega
 have hbh1_8 : h < w1.heap.size + 1 + 1 + 1 + 1 + 1 + 1 + 1 + 1 := by omega
 have hbu1_1 : u < w1.heap.size + 1 := by omega
 have hbu1_2 : u < w1.heap.size + 1 + 1 := by omega
 have hbu1_3 : u < w1.heap.size + 1 + 1 + 1 := by omega
 have hbu1_4 : u < w1.heap.size + 1 + 1 + 1 + 1 := by omega
 have hbu1_5 : u < w1.heap.size + 1 + 1 + 1 + 1 + 1 := by omega
 have hbu1_6 : u < w1.heap.size + 1 + 1 + 1 + 1 + 1 + 1 := by omega
 have hbu1_7 : u < w1.heap.size + 1 + 1 + 1 + 1 + 1 + 1 + 1 := by omega
 have hbu1_8 : u < w1.heap.size + 1 + 1 + 1 + 1 + 1 + 1 + 1 + 1 := by omega
 have q0 : 0 ≤ (x - 269312) / 512 := by omega
 have q1 : (x - 269312) / 512 < 8 := by omega
 clear hr hv
 refine wp_loop_rounds 5 ?_
 rw [rounds_succ]
 go_wp2_with go_in
 rw [rounds_succ]
 go_wp2_with go_in
 rw [rounds_succ]
 go_wp2_with go_in
 rw [rounds_succ]
 go_wp2_with go_in
 have k0 : IntKind.i64.wrap (x - 269312) = x - 269312 := IntWalk.i64_in _ (by omega)
 have k1 : IntKind.i64.wrap (512 * ((x - 269312) / 512)) = 512 * ((x - 269312) / 512) := IntWalk.i64_in _ (by omega)
 have k2 : IntKind.i64.wrap (x - 269312 - 512 * ((x - 269312) / 512)) = x - 269312 - 512 * ((x - 269312) / 512) := IntWalk.i64_in _ (by omega)
 go_quiet (fail)
 go_wp2
 refine bodyPost_ret (v := .tuple #[.int .i64 3, .int .i64 ((x - 269312) / 512), .int .i64 (x - 269312 - 512 * ((x - 269312) / 512)), .bool v]) (by simp [results, Try.results133, go_sem]) rfl ⟨rfl, ?_⟩
 have hbb : Below w.heap.size w w1 := below_then (below_alloc (Below.refl _ _) _) (by simp) hb
 repeat (first | with_reducible exact hbb | with_reducible refine pw_below_drewN ?_ _ | with_reducible refine below_alloc ?_ _)
set_option maxHeartbeats 4000000 in
set_option maxRecDepth 100000 in
theorem find_low (h : Nat) (x : Int) (w : World) (h1 : x < 262144) :
  Calls Try.prog 133 #[.pointer (some ⟨h, 0, none⟩), .int .i64 x] w fun e w' => e = .returned (.tuple #[.int .i64 0, .int .i64 0, .int .i64 0, .bool false]) ∧ Below w.heap.size w w' := by
 have hmf : ∀ (fn : Fn) (first cap : Array Value) (w : World), (Instr.makeFunc fn first cap).run Try.prog w = .ok (.func fn first cap) w := fun _ _ _ _ => rfl
 have i0 := ix0; have i1 := ix1; have i2 := ix2; have i3 := ix3
 have T0 : decide (x ≥ 262144) = false := by simp; omega
 have T1 : decide (x ≥ 263168) = false := by simp; omega
 have T2 : decide (x ≥ 265216) = false := by simp; omega
 have T3 : decide (x ≥ 269312) = false := by simp; omega
 go_enter Try.func133, Try.ntmps133
 go_wp2_with (go_at_call 54; refine (all _).mono ?_; rintro e w1 ⟨rfl, hb⟩)
 have hz : w.heap.size < w1.heap.size := by have := hb.size; simp at this; omega
 have hz_1 : w.heap.size < w1.heap.size + 1 := by omega
 have hz_2 : w.heap.size < w1.heap.size + 1 + 1 := by omega
 have hz_3 : w.heap.size < w1.heap.size + 1 + 1 + 1 := by omega
 have hz_4 : w.heap.size < w1.heap.size + 1 + 1 + 1 + 1 := by omega
 have hz_5 : w.heap.size < w1.heap.size + 1 + 1 + 1 + 1 + 1 := by omega
 have hz_6 : w.heap.size < w1.heap.size + 1 + 1 + 1 + 1 + 1 + 1 := by omega
 have hz_7 : w.heap.size < w1.heap.size + 1 + 1 + 1 + 1 + 1 + 1 + 1 := by omega
 have hz_8 : w.heap.size < w1.heap.size + 1 + 1 + 1 + 1 + 1 + 1 + 1 + 1 := by omega
 have hc : w1.cell? ⟨w.heap.size, 0, none⟩ = some (.int .i64 x) := by
  rw [hb.cell (by simp)]; simp [go_sem]
 refine wp_loop_rounds 5 ?_
 rw [rounds_succ]
 go_wp2_with go_in
 rw [rounds_succ]
 go_wp2_with go_in
 rw [rounds_succ]
 go_wp2_with go_in
 rw [rounds_succ]
 go_wp2_with go_in
 rw [rounds_succ]
 go_wp2
 refine bodyPost_ret (v := .tuple #[.int .i64 0, .int .i64 0, .int .i64 0, .bool false]) (by simp [results, Try.results133, go_sem]) rfl ⟨rfl, ?_⟩
 have hbb : Below w.heap.size w w1 := below_then (below_alloc (Below.refl _ _) _) (by simp) hb
 repeat (first | with_reducible exact hbb | with_reducible refine pw_below_drewN ?_ _ | with_reducible refine below_alloc ?_ _)
set_option maxHeartbeats 4000000 in
set_option maxRecDepth 100000 in
theorem find_high (h : Nat) (x : Int) (w : World) (h0 : 273408 ≤ x) :
  Calls Try.prog 133 #[.pointer (some ⟨h, 0, none⟩), .int .i64 x] w fun e w' => e = .returned (.tuple #[.int .i64 0, .int .i64 0, .int .i64 0, .bool false]) ∧ Below w.heap.size w w' := by
 have hmf : ∀ (fn : Fn) (first cap : Array Value) (w : World), (Instr.makeFunc fn first cap).run Try.prog w = .ok (.func fn first cap) w := fun _ _ _ _ => rfl
 have i0 := ix0; have i1 := ix1; have i2 := ix2; have i3 := ix3
 have T0 : decide (x ≥ 262144) = true := by simp; omega
 have T1 : decide (x < 263168) = false := by simp; omega
 have T2 : decide (x ≥ 263168) = true := by simp; omega
 have T3 : decide (x < 265216) = false := by simp; omega
 have T4 : decide (x ≥ 265216) = true := by simp; omega
 have T5 : decide (x < 269312) = false := by simp; omega
 have T6 : decide (x ≥ 269312) = true := by simp; omega
 have T7 : decide (x < 273408) = false := by simp; omega
 go_enter Try.func133, Try.ntmps133
 go_wp2_with (go_at_call 54; refine (all _).mono ?_; rintro e w1 ⟨rfl, hb⟩)
 have hz : w.heap.size < w1.heap.size := by have := hb.size; simp at this; omega
 have hz_1 : w.heap.size < w1.heap.size + 1 := by omega
 have hz_2 : w.heap.size < w1.heap.size + 1 + 1 := by omega
 have hz_3 : w.heap.size < w1.heap.size + 1 + 1 + 1 := by omega
 have hz_4 : w.heap.size < w1.heap.size + 1 + 1 + 1 + 1 := by omega
 have hz_5 : w.heap.size < w1.heap.size + 1 + 1 + 1 + 1 + 1 := by omega
 have hz_6 : w.heap.size < w1.heap.size + 1 + 1 + 1 + 1 + 1 + 1 := by omega
 have hz_7 : w.heap.size < w1.heap.size + 1 + 1 + 1 + 1 + 1 + 1 + 1 := by omega
 have hz_8 : w.heap.size < w1.heap.size + 1 + 1 + 1 + 1 + 1 + 1 + 1 + 1 := by omega
 have hc : w1.cell? ⟨w.heap.size, 0, none⟩ = some (.int .i64 x) := by
  rw [hb.cell (by simp)]; simp [go_sem]
 refine wp_loop_rounds 5 ?_
 rw [rounds_succ]
 go_wp2_with go_in
 rw [rounds_succ]
 go_wp2_with go_in
 rw [rounds_succ]
 go_wp2_with go_in
 rw [rounds_succ]
 go_wp2_with go_in
 rw [rounds_succ]
 go_wp2
 refine bodyPost_ret (v := .tuple #[.int .i64 0, .int .i64 0, .int .i64 0, .bool false]) (by simp [results, Try.results133, go_sem]) rfl ⟨rfl, ?_⟩
 have hbb : Below w.heap.size w w1 := below_then (below_alloc (Below.refl _ _) _) (by simp) hb
 repeat (first | with_reducible exact hbb | with_reducible refine pw_below_drewN ?_ _ | with_reducible refine below_alloc ?_ _)
end Go.Proofs.Ytpphpcmbpbppoaa.Mach
end
