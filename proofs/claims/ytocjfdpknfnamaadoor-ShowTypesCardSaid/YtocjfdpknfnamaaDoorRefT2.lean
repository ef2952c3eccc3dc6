/- Walks of the reference, as the print wrote them: of its functions only those that are wanted. -/
import Derived.Test.YtocjfdpknfnamaaDoorPShowTypesx0
import Derived.Test.YtocjfdpknfnamaaDoorRefT1
namespace Go.Proofs.YtocjfdpknfnamaaDoor.PShowTypes
open Go.RowKit Go.Proofs.YtocjfdpknfnamaaDoorW.PrintWords Go.Proofs.YtocjfdpknfnamaaDoorW.PrintLast Go.Proofs.YtocjfdpknfnamaaDoorW.PrintMore
attribute [local go_sem] max2_int min2_int max_two min_two max_three min_three max_four min_four   -- for this text's walks alone
set_option linter.unusedVariables false
set_option linter.unusedSimpArgs false

/-! ### ferruleref04_Type: function 8 -/
mutual
def ferruleref04_Type.j0 : Nat → List ByteArray → Bool → Int → ByteArray → Int → List (S24) → Option (ByteArray)
  | 0, _, _, _, _, _, _ => none
  | k + 1, x3, x13, x131000, x131001, x131002, x131003 => if x13 = true then (if 0 ≤ x131000 then (if x131000 < (x3.length : Int) then (some (rdOf ByteArray.empty x3 x131000)) else (none)) else (none)) else (if x131000 = 9 then (some x131001) else (if (x131003.length : Int) = 0 then (some (⟨#[63]⟩ : ByteArray)) else (if 0 < (x131003.length : Int) then ((ferruleref04_Type.f k ((rd_T24 x131003 0).f0) ((rd_T24 x131003 0).f1) ((rd_T24 x131003 0).f2) ((rd_T24 x131003 0).f3)).bind fun t136 => (if x131000 = 10 then (if 1 + t136.size ≤ 9223372036854775807 then (if ((⟨#[91]⟩ : ByteArray) ++ t136).size + 2 ≤ 9223372036854775807 then ((ferruleref04_number.f k x131002).bind fun t137 => (if (((⟨#[91]⟩ : ByteArray) ++ t136) ++ (⟨#[59, 32]⟩ : ByteArray)).size + t137.size ≤ 9223372036854775807 then (if ((((⟨#[91]⟩ : ByteArray) ++ t136) ++ (⟨#[59, 32]⟩ : ByteArray)) ++ t137).size + 1 ≤ 9223372036854775807 then (some (((((⟨#[91]⟩ : ByteArray) ++ t136) ++ (⟨#[59, 32]⟩ : ByteArray)) ++ t137) ++ (⟨#[93]⟩ : ByteArray))) else (none)) else (none))) else (none)) else (none)) else (if x131000 = 11 then (if 4 + t136.size ≤ 9223372036854775807 then (if ((⟨#[66, 111, 120, 60]⟩ : ByteArray) ++ t136).size + 1 ≤ 9223372036854775807 then (some (((⟨#[66, 111, 120, 60]⟩ : ByteArray) ++ t136) ++ (⟨#[62]⟩ : ByteArray))) else (none)) else (none)) else (if x131000 = 12 then (if 1 + t136.size ≤ 9223372036854775807 then (some ((⟨#[38]⟩ : ByteArray) ++ t136)) else (none)) else (if x131000 = 13 then (if 5 + t136.size ≤ 9223372036854775807 then (some ((⟨#[38, 109, 117, 116, 32]⟩ : ByteArray) ++ t136)) else (none)) else (some (⟨#[63]⟩ : ByteArray))))))) else (none))))
def ferruleref04_Type.f : Nat → Int → ByteArray → Int → List (S24) → Option (ByteArray)
  | 0, _, _, _, _ => none
  | k + 1, a0_0, a0_1, a0_2, l0_3 => (some (([(⟨#[63]⟩ : ByteArray), (⟨#[40, 41]⟩ : ByteArray), (⟨#[98, 111, 111, 108]⟩ : ByteArray), (⟨#[105, 56]⟩ : ByteArray), (⟨#[105, 49, 54]⟩ : ByteArray), (⟨#[105, 51, 50]⟩ : ByteArray), (⟨#[117, 56]⟩ : ByteArray), (⟨#[117, 49, 54]⟩ : ByteArray), (⟨#[117, 51, 50]⟩ : ByteArray)] : List ByteArray) : List ByteArray)).bind fun y131 => (if a0_0 ≥ 1 then (ferruleref04_Type.j0 k y131 (decide (a0_0 ≤ 8)) a0_0 a0_1 a0_2 l0_3) else (ferruleref04_Type.j0 k y131 false a0_0 a0_1 a0_2 l0_3))
end
theorem ferruleref04_Type.mono_l : ∀ k, (∀ y0 y1 y2 y3, LeO (ferruleref04_Type.f k y0 y1 y2 y3) (ferruleref04_Type.f (k + 1) y0 y1 y2 y3)) ∧ (∀ y0 y1 y2 y3 y4 y5, LeO (ferruleref04_Type.j0 k y0 y1 y2 y3 y4 y5) (ferruleref04_Type.j0 (k + 1) y0 y1 y2 y3 y4 y5))
  | 0 => ⟨fun _ _ _ _ r h => by simp [ferruleref04_Type.f] at h, fun _ _ _ _ _ _ r h => by simp [ferruleref04_Type.j0] at h⟩
  | k + 1 => by
    obtain ⟨ih0, ih1⟩ := ferruleref04_Type.mono_l k
    refine ⟨?_, ?_⟩
    · intro y0 y1 y2 y3
      unfold ferruleref04_Type.f
      repeat' first
      | (with_reducible exact ih0 _ _ _ _)
      | (with_reducible exact ih1 _ _ _ _ _ _)
      | (with_reducible exact ferruleref04_number.mono _ _)
      | (with_reducible exact LeO.refl _)
      | (with_reducible exact LeO.none _)
      | (with_reducible refine LeO.ite ?_ ?_)
      | (with_reducible refine LeO.bind ?_ (fun _ => ?_))
      | exact ih0 _ _ _ _
      | exact ih1 _ _ _ _ _ _
      | exact ferruleref04_number.mono _ _
      | exact LeO.none _
      | refine LeO.ite ?_ ?_
      | refine LeO.bind ?_ (fun _ => ?_)
    · intro y0 y1 y2 y3 y4 y5
      unfold ferruleref04_Type.j0
      repeat' first
      | (with_reducible exact ih0 _ _ _ _)
      | (with_reducible exact ih1 _ _ _ _ _ _)
      | (with_reducible exact ferruleref04_number.mono _ _)
      | (with_reducible exact LeO.refl _)
      | (with_reducible exact LeO.none _)
      | (with_reducible refine LeO.ite ?_ ?_)
      | (with_reducible refine LeO.bind ?_ (fun _ => ?_))
      | exact ih0 _ _ _ _
      | exact ih1 _ _ _ _ _ _
      | exact ferruleref04_number.mono _ _
      | exact LeO.none _
      | refine LeO.ite ?_ ?_
      | refine LeO.bind ?_ (fun _ => ?_)
theorem ferruleref04_Type.mono : ∀ a0 a1 a2 a3 k, LeO (ferruleref04_Type.f k a0 a1 a2 a3) (ferruleref04_Type.f (k + 1) a0 a1 a2 a3) := by
  intro a0 a1 a2 a3 k
  obtain ⟨ih0, ih1⟩ := ferruleref04_Type.mono_l k
  exact ih0 a0 a1 a2 a3
set_option maxHeartbeats 8000000 in
set_option maxRecDepth 100000 in
theorem ferruleref04_Type.calls (k : Nat) : ∀ (a0_0 : Int) (a0_1 : ByteArray) (a0_2 : Int) (A0_3 : Option Addr) (c0_3 : Nat) (l0_3 : List (S24)) (r : ByteArray) (w : World) (hr0_3 : Kd.C k24 w A0_3 l0_3.length l0_3) (hc0_3 : l0_3.length ≤ c0_3) (h : ferruleref04_Type.f k a0_0 a0_1 a0_2 l0_3 = some r),
    Calls Tryd.prog 8 #[.agg #[.int .i64 a0_0, .string a0_1, .int .i64 a0_2, .slice A0_3 l0_3.length c0_3]] w fun e w' => e = .returned (.string r) ∧ Below w.heap.size w w' := by
  induction k using Nat.strongRecOn with
  | _ k ih =>
  intro a0_0 a0_1 a0_2 A0_3 c0_3 l0_3 r w hr0_3 hc0_3 h
  cases k with
  | zero => exact absurd h (by simp [ferruleref04_Type.f])
  | succ k =>
  simp only [ferruleref04_Type.f] at h
  have hu24 := Tryd.underlying24
  have HR0_3 := Aside0.mk hr0_3
  have HC0_3 := Aside0.mk hc0_3
  clear hr0_3 hc0_3
  have HB := Aside0.mk (Below.refl w.heap.size w)
  have H : ((some (([(⟨#[63]⟩ : ByteArray), (⟨#[40, 41]⟩ : ByteArray), (⟨#[98, 111, 111, 108]⟩ : ByteArray), (⟨#[105, 56]⟩ : ByteArray), (⟨#[105, 49, 54]⟩ : ByteArray), (⟨#[105, 51, 50]⟩ : ByteArray), (⟨#[117, 56]⟩ : ByteArray), (⟨#[117, 49, 54]⟩ : ByteArray), (⟨#[117, 51, 50]⟩ : ByteArray)] : List ByteArray) : List ByteArray)).bind fun y131 => (if a0_0 ≥ 1 then (ferruleref04_Type.j0 k y131 (decide (a0_0 ≤ 8)) a0_0 a0_1 a0_2 l0_3) else (ferruleref04_Type.j0 k y131 false a0_0 a0_1 a0_2 l0_3))) = some r := h
  clear h
  obtain ⟨y131, hy131⟩ : ∃ y_ : List ByteArray, y_ = (([(⟨#[63]⟩ : ByteArray), (⟨#[40, 41]⟩ : ByteArray), (⟨#[98, 111, 111, 108]⟩ : ByteArray), (⟨#[105, 56]⟩ : ByteArray), (⟨#[105, 49, 54]⟩ : ByteArray), (⟨#[105, 51, 50]⟩ : ByteArray), (⟨#[117, 56]⟩ : ByteArray), (⟨#[117, 49, 54]⟩ : ByteArray), (⟨#[117, 51, 50]⟩ : ByteArray)] : List ByteArray)) := ⟨_, rfl⟩
  replace H : (if a0_0 ≥ 1 then (ferruleref04_Type.j0 k y131 (decide (a0_0 ≤ 8)) a0_0 a0_1 a0_2 l0_3) else (ferruleref04_Type.j0 k y131 false a0_0 a0_1 a0_2 l0_3)) = some r := by first | (rw [hy131]; with_reducible exact H) | (have H2_ := (Option.bind_some _ _).symm.trans H; rw [hy131]; with_reducible exact H2_) | (have H2_ := (Option.bind_some _ _).symm.trans H; with_reducible exact H2_) | with_reducible exact H | (rw [hy131]; exact H) | exact H
  have Ny131 := Aside0.mk hy131
  clear hy131
  have HC2 := Aside0.mk H
  clear H
  go_enter Tryd.func8, Tryd.ntmps8
  go_upto_region 2 with (first | ((with_reducible refine gate_dst (N := 1) rfl ?_); refine box_event ?hg (N := 1) ?hd (cs := #[.int .i64 a0_0, .string a0_1, .int .i64 a0_2, .slice A0_3 l0_3.length c0_3]) (t := 24) ?hr ?_; (case hd => rfl); (case hg => rfl); (case hr => first | (go_simp; done) | (go_simp; rfl)); intro gb130 hg w3 hbox hb; have n0_ := Aside0.mk (below_step (by repeat (first | (with_reducible first | exact HB.out | apply below_alloc | apply pw_below_drewN | apply below_drew1) | exact HB.out)) hb); have n1_ := Aside0.mk (hbox); have n2_ := Aside0.mk ((by rw [hg]; exact (below_size (by repeat (first | (with_reducible first | exact HB.out | apply below_alloc | apply pw_below_drewN | apply below_drew1) | exact HB.out))) : w.heap.size ≤ gb130)); have n3_ := Aside0.mk ((by rw [hg]; exact (below_size (by repeat (first | (with_reducible first | exact HB.out | apply below_alloc | apply pw_below_drewN | apply below_drew1) | exact HB.out))) : w.heap.size ≤ gb130)); clear HB; have HB := n0_; have BK130 := n1_; have GW130 := n2_; have GE130 := n3_; clear n0_ n1_ n2_ n3_; clear hb hbox hg) | ((with_reducible refine gate_dst (N := 5) rfl ?_); refine Kd.R_lit Kd.string _ 9 ?hg (N := 5) ?hd (xs := ([(⟨#[63]⟩ : ByteArray), (⟨#[40, 41]⟩ : ByteArray), (⟨#[98, 111, 111, 108]⟩ : ByteArray), (⟨#[105, 56]⟩ : ByteArray), (⟨#[105, 49, 54]⟩ : ByteArray), (⟨#[105, 51, 50]⟩ : ByteArray), (⟨#[117, 56]⟩ : ByteArray), (⟨#[117, 49, 54]⟩ : ByteArray), (⟨#[117, 51, 50]⟩ : ByteArray)] : List ByteArray)) (inner := [.string (⟨#[63]⟩ : ByteArray), .string (⟨#[40, 41]⟩ : ByteArray), .string (⟨#[98, 111, 111, 108]⟩ : ByteArray), .string (⟨#[105, 56]⟩ : ByteArray), .string (⟨#[105, 49, 54]⟩ : ByteArray), .string (⟨#[105, 51, 50]⟩ : ByteArray), .string (⟨#[117, 56]⟩ : ByteArray), .string (⟨#[117, 49, 54]⟩ : ByteArray), .string (⟨#[117, 51, 50]⟩ : ByteArray)]) (ok := fun _ => True) (okp := fun _ => True) ?hr ?hp (fun _ hk => hk) trivial (Below.refl _ _) (Nat.le_refl _) (by simp) ?_; (case hd => rfl); (case hg => rfl); (case hr => first | (go_simp; done) | (go_simp; rfl)); (case hp => exact (Reps.one (show Kd.M Kd.string _ _ _ (⟨#[63]⟩ : ByteArray) [.string (⟨#[63]⟩ : ByteArray)] from rfl) (Reps.one (show Kd.M Kd.string _ _ _ (⟨#[40, 41]⟩ : ByteArray) [.string (⟨#[40, 41]⟩ : ByteArray)] from rfl) (Reps.one (show Kd.M Kd.string _ _ _ (⟨#[98, 111, 111, 108]⟩ : ByteArray) [.string (⟨#[98, 111, 111, 108]⟩ : ByteArray)] from rfl) (Reps.one (show Kd.M Kd.string _ _ _ (⟨#[105, 56]⟩ : ByteArray) [.string (⟨#[105, 56]⟩ : ByteArray)] from rfl) (Reps.one (show Kd.M Kd.string _ _ _ (⟨#[105, 49, 54]⟩ : ByteArray) [.string (⟨#[105, 49, 54]⟩ : ByteArray)] from rfl) (Reps.one (show Kd.M Kd.string _ _ _ (⟨#[105, 51, 50]⟩ : ByteArray) [.string (⟨#[105, 51, 50]⟩ : ByteArray)] from rfl) (Reps.one (show Kd.M Kd.string _ _ _ (⟨#[117, 56]⟩ : ByteArray) [.string (⟨#[117, 56]⟩ : ByteArray)] from rfl) (Reps.one (show Kd.M Kd.string _ _ _ (⟨#[117, 49, 54]⟩ : ByteArray) [.string (⟨#[117, 49, 54]⟩ : ByteArray)] from rfl) (Reps.one (show Kd.M Kd.string _ _ _ (⟨#[117, 51, 50]⟩ : ByteArray) [.string (⟨#[117, 51, 50]⟩ : ByteArray)] from rfl) (Reps.none _ _))))))))))); intro v132 w4 ho5 hb hg_ hnew_; clear hg_ hnew_; (first | rw [← Ny131.out] at ho5 | (simp only [Int.reduceToNat] at ho5; rw [← Ny131.out] at ho5)); have n0_ := Aside0.mk (Kd.R_lower ho5 (below_size (by repeat (first | (with_reducible first | exact HB.out | apply below_alloc | apply pw_below_drewN | apply below_drew1 | refine below_set ?_ GE130.out) | exact HB.out)))); have n1_ := Aside0.mk (blk_below (g := gb130) (o := .cells #[.int .i64 a0_0, .string a0_1, .int .i64 a0_2, .slice A0_3 l0_3.length c0_3] 24 (0, 0)) (by (with_reducible repeat (first | refine blk_drewN ?_ _ | refine blk_drew ?_ | refine blk_alloc ?_ _)); exact BK130.out) hb); have n2_ := Aside0.mk (below_step (by repeat (first | (with_reducible first | exact HB.out | apply below_alloc | apply pw_below_drewN | apply below_drew1 | refine below_set ?_ GE130.out) | exact HB.out)) hb); clear BK130; clear HB; have HO133 := n0_; have BK130 := n1_; have HB := n2_; clear n0_ n1_ n2_; clear hb ho5))
  (try simp only [Act.put, List.setIfInBounds_toArray, List.set_cons_zero, List.set_cons_succ])
  go_cut [13] (fun v13 wc => ∃ (kq : Nat) (x13_1 : Bool), v13 = .bool x13_1 ∧ Aside0 (ferruleref04_Type.j0 kq y131 x13_1 a0_0 a0_1 a0_2 l0_3 = some r) ∧ Aside0 (kq ≤ k) ∧ Aside0 (Kd.R Kd.string 9 wc w.heap.size (fun _ => True) v132 y131) ∧ Aside0 (wc.heap[gb130]? = some (.cells #[.int .i64 a0_0, .string a0_1, .int .i64 a0_2, (.slice A0_3 l0_3.length c0_3)] 24 (0, 0))) ∧ Aside0 (Below w.heap.size w wc))
  case first =>
    have H := HC2.out
    clear HC2
    by_cases c6 : a0_0 ≥ 1
    · rw [if_pos c6] at H
      have c6b0 : decide (1 ≤ a0_0) = true := decide_eq_true c6
      clear c6
      (first | rw [c6b0] | (simp only [i64_w, i32_w]; rw [c6b0]) | skip)
      have H' := Aside0.mk H
      clear H
      have hcz7_0 : w4.cell? ⟨gb130, 0, none⟩ = some (.int .i64 a0_0) := (blk_cell BK130.out 0).trans rfl
      have hcz7_1 : w4.cell? ⟨gb130, 1, none⟩ = some (.string a0_1) := (blk_cell BK130.out 1).trans rfl
      have hcz7_2 : w4.cell? ⟨gb130, 2, none⟩ = some (.int .i64 a0_2) := (blk_cell BK130.out 2).trans rfl
      have hcz7_3 : w4.cell? ⟨gb130, 3, none⟩ = some (.slice A0_3 l0_3.length c0_3) := (blk_cell BK130.out 3).trans rfl
      have hfz7_0 := blk_frozen BK130.out 0
      have hfz7_1 := blk_frozen BK130.out 1
      have hfz7_2 := blk_frozen BK130.out 2
      have hfz7_3 := blk_frozen BK130.out 3
      go_wp2
      go_meet
      case rel => exact ⟨_, (decide (a0_0 ≤ 8)), (by first | rfl | (simp; done) | (simp [*]; done)), H', ⟨by first | omega | exact Nat.le_refl _⟩, ⟨by (with_reducible repeat (first | apply Kd.R_alloc | apply Kd.R_drewN | apply Kd.R_drew)); exact HO133.out⟩, ⟨by (with_reducible repeat (first | refine blk_drewN ?_ _ | refine blk_drew ?_ | refine blk_alloc ?_ _)); exact BK130.out⟩, ⟨by repeat (first | (with_reducible first | exact HB.out | apply below_alloc | apply pw_below_drewN | apply below_drew1 | refine below_set ?_ GE130.out) | exact HB.out)⟩⟩
    · rw [if_neg c6] at H
      have c6b0 : decide (1 ≤ a0_0) = false := decide_eq_false c6
      clear c6
      (first | rw [c6b0] | (simp only [i64_w, i32_w]; rw [c6b0]) | skip)
      have H' := Aside0.mk H
      clear H
      have hcz8_0 : w4.cell? ⟨gb130, 0, none⟩ = some (.int .i64 a0_0) := (blk_cell BK130.out 0).trans rfl
      have hcz8_1 : w4.cell? ⟨gb130, 1, none⟩ = some (.string a0_1) := (blk_cell BK130.out 1).trans rfl
      have hcz8_2 : w4.cell? ⟨gb130, 2, none⟩ = some (.int .i64 a0_2) := (blk_cell BK130.out 2).trans rfl
      have hcz8_3 : w4.cell? ⟨gb130, 3, none⟩ = some (.slice A0_3 l0_3.length c0_3) := (blk_cell BK130.out 3).trans rfl
      have hfz8_0 := blk_frozen BK130.out 0
      have hfz8_1 := blk_frozen BK130.out 1
      have hfz8_2 := blk_frozen BK130.out 2
      have hfz8_3 := blk_frozen BK130.out 3
      go_wp2
      go_meet
      case rel => exact ⟨_, (false), (by first | rfl | (simp; done) | (simp [*]; done)), H', ⟨by first | omega | exact Nat.le_refl _⟩, ⟨by (with_reducible repeat (first | apply Kd.R_alloc | apply Kd.R_drewN | apply Kd.R_drew)); exact HO133.out⟩, ⟨by (with_reducible repeat (first | refine blk_drewN ?_ _ | refine blk_drew ?_ | refine blk_alloc ?_ _)); exact BK130.out⟩, ⟨by repeat (first | (with_reducible first | exact HB.out | apply below_alloc | apply pw_below_drewN | apply below_drew1 | refine below_set ?_ GE130.out) | exact HB.out)⟩⟩
  case rest =>
    clear HC2
    try clear p2
    try clear c6
    try clear c6b0
    try clear c8
    try clear hcz7_0
    try clear hcz7_1
    try clear hcz7_2
    try clear hcz7_3
    try clear hcz8_0
    try clear hcz8_1
    try clear hcz8_2
    try clear hcz8_3
    try clear hfz7_0
    try clear hfz7_1
    try clear hfz7_2
    try clear hfz7_3
    try clear hfz8_0
    try clear hfz8_1
    try clear hfz8_2
    try clear hfz8_3
    obtain ⟨kq, x13_1, rfl, HA, HJ1, HO_3, BK130, HB⟩ := hcut
    cases kq with
    | zero => exact absurd HA.out (by simp [ferruleref04_Type.j0])
    | succ kj1 =>
      have H := HA.out
      clear HA
      simp only [ferruleref04_Type.j0] at H
      by_cases c9 : x13_1 = true
      · subst c9
        have H1 : (if 0 ≤ a0_0 then (if a0_0 < (y131.length : Int) then (some (rdOf ByteArray.empty y131 a0_0)) else (none)) else (none)) = some r := by rw [if_pos rfl] at H; exact H
        clear H
        have H := H1
        clear H1
        by_cases c10 : 0 ≤ a0_0
        · rw [if_pos c10] at H
          have c10b0 : decide (0 ≤ a0_0) = true := decide_eq_true c10
          clear c10
          by_cases c11 : a0_0 < (y131.length : Int)
          · rw [if_pos c11] at H
            have c11b0 : decide (a0_0 < (y131.length : Int)) = true := decide_eq_true c11
            clear c11
            obtain rfl := Option.some.inj H
            have hcz12_0 : wc.cell? ⟨gb130, 0, none⟩ = some (.int .i64 a0_0) := (blk_cell BK130.out 0).trans rfl
            have hcz12_1 : wc.cell? ⟨gb130, 1, none⟩ = some (.string a0_1) := (blk_cell BK130.out 1).trans rfl
            have hcz12_2 : wc.cell? ⟨gb130, 2, none⟩ = some (.int .i64 a0_2) := (blk_cell BK130.out 2).trans rfl
            have hcz12_3 : wc.cell? ⟨gb130, 3, none⟩ = some (.slice A0_3 l0_3.length c0_3) := (blk_cell BK130.out 3).trans rfl
            have hfz12_0 := blk_frozen BK130.out 0
            have hfz12_1 := blk_frozen BK130.out 1
            have hfz12_2 := blk_frozen BK130.out 2
            have hfz12_3 := blk_frozen BK130.out 3
            obtain ⟨Ao13, co13, eo13⟩ := Kd.R_slice HO_3.out
            subst eo13
            have p134 : 0 ≤ (a0_0 : Int) := of_decide_eq_true (by first | (with_reducible assumption) | assumption)
            have q134 : a0_0 < (y131.length : Int) := of_decide_eq_true (by first | (with_reducible assumption) | assumption)
            obtain ⟨ad134, e134, hx134_0⟩ := Kd.at_string (Kd.R_reads' HO_3.out).2.2 a0_0 p134 q134
            cases e134
            replace p134 := eq_true p134
            replace q134 := eq_true q134
            go_wp2
            go_ret
            exact ⟨by first | rfl | (simp [errW_none, errW_some] <;> rfl) | (simp [*, errW_none, errW_some] <;> rfl), by repeat (first | (with_reducible first | exact HB.out | apply below_alloc | apply pw_below_drewN | apply below_drew1 | refine below_set ?_ GE130.out) | exact HB.out)⟩
          · rw [if_neg c11] at H
            exact absurd H (by simp)
        · rw [if_neg c10] at H
          exact absurd H (by simp)
      · replace c9 := Bool.eq_false_iff.mpr c9
        subst c9
        have H1 : (if a0_0 = 9 then (some a0_1) else (if (l0_3.length : Int) = 0 then (some (⟨#[63]⟩ : ByteArray)) else (if 0 < (l0_3.length : Int) then ((ferruleref04_Type.f kj1 ((rd_T24 l0_3 0).f0) ((rd_T24 l0_3 0).f1) ((rd_T24 l0_3 0).f2) ((rd_T24 l0_3 0).f3)).bind fun t136 => (if a0_0 = 10 then (if 1 + t136.size ≤ 9223372036854775807 then (if ((⟨#[91]⟩ : ByteArray) ++ t136).size + 2 ≤ 9223372036854775807 then ((ferruleref04_number.f kj1 a0_2).bind fun t137 => (if (((⟨#[91]⟩ : ByteArray) ++ t136) ++ (⟨#[59, 32]⟩ : ByteArray)).size + t137.size ≤ 9223372036854775807 then (if ((((⟨#[91]⟩ : ByteArray) ++ t136) ++ (⟨#[59, 32]⟩ : ByteArray)) ++ t137).size + 1 ≤ 9223372036854775807 then (some (((((⟨#[91]⟩ : ByteArray) ++ t136) ++ (⟨#[59, 32]⟩ : ByteArray)) ++ t137) ++ (⟨#[93]⟩ : ByteArray))) else (none)) else (none))) else (none)) else (none)) else (if a0_0 = 11 then (if 4 + t136.size ≤ 9223372036854775807 then (if ((⟨#[66, 111, 120, 60]⟩ : ByteArray) ++ t136).size + 1 ≤ 9223372036854775807 then (some (((⟨#[66, 111, 120, 60]⟩ : ByteArray) ++ t136) ++ (⟨#[62]⟩ : ByteArray))) else (none)) else (none)) else (if a0_0 = 12 then (if 1 + t136.size ≤ 9223372036854775807 then (some ((⟨#[38]⟩ : ByteArray) ++ t136)) else (none)) else (if a0_0 = 13 then (if 5 + t136.size ≤ 9223372036854775807 then (some ((⟨#[38, 109, 117, 116, 32]⟩ : ByteArray) ++ t136)) else (none)) else (some (⟨#[63]⟩ : ByteArray))))))) else (none)))) = some r := by rw [if_neg (show ¬ (false = true) by decide)] at H; exact H
        clear H
        have H := H1
        clear H1
        by_cases c14 : a0_0 = 9
        · rw [if_pos c14] at H
          have c14b0 : (a0_0 == 9) = true := beq_iff_eq.mpr c14
          have c14b1 : (a0_0 != 9) = false := bne_eq_false_iff_eq.mpr c14
          clear c14
          obtain rfl := Option.some.inj H
          have hcz15_0 : wc.cell? ⟨gb130, 0, none⟩ = some (.int .i64 a0_0) := (blk_cell BK130.out 0).trans rfl
          have hcz15_1 : wc.cell? ⟨gb130, 1, none⟩ = some (.string a0_1) := (blk_cell BK130.out 1).trans rfl
          have hcz15_2 : wc.cell? ⟨gb130, 2, none⟩ = some (.int .i64 a0_2) := (blk_cell BK130.out 2).trans rfl
          have hcz15_3 : wc.cell? ⟨gb130, 3, none⟩ = some (.slice A0_3 l0_3.length c0_3) := (blk_cell BK130.out 3).trans rfl
          have hfz15_0 := blk_frozen BK130.out 0
          have hfz15_1 := blk_frozen BK130.out 1
          have hfz15_2 := blk_frozen BK130.out 2
          have hfz15_3 := blk_frozen BK130.out 3
          go_wp2
          go_ret
          exact ⟨by first | rfl | (simp [errW_none, errW_some] <;> rfl) | (simp [*, errW_none, errW_some] <;> rfl), by repeat (first | (with_reducible first | exact HB.out | apply below_alloc | apply pw_below_drewN | apply below_drew1 | refine below_set ?_ GE130.out) | exact HB.out)⟩
        · rw [if_neg c14] at H
          have c14b0 : (a0_0 == 9) = false := beq_eq_false_iff_ne.mpr c14
          have c14b1 : (a0_0 != 9) = true := bne_iff_ne.mpr c14
          by_cases c16 : (l0_3.length : Int) = 0
          · rw [if_pos c16] at H
            have c16b0 : ((l0_3.length : Int) == 0) = true := beq_iff_eq.mpr c16
            have c16b1 : ((l0_3.length : Int) != 0) = false := bne_eq_false_iff_eq.mpr c16
            clear c16
            obtain rfl := Option.some.inj H
            have hcz17_0 : wc.cell? ⟨gb130, 0, none⟩ = some (.int .i64 a0_0) := (blk_cell BK130.out 0).trans rfl
            have hcz17_1 : wc.cell? ⟨gb130, 1, none⟩ = some (.string a0_1) := (blk_cell BK130.out 1).trans rfl
            have hcz17_2 : wc.cell? ⟨gb130, 2, none⟩ = some (.int .i64 a0_2) := (blk_cell BK130.out 2).trans rfl
            have hcz17_3 : wc.cell? ⟨gb130, 3, none⟩ = some (.slice A0_3 l0_3.length c0_3) := (blk_cell BK130.out 3).trans rfl
            have hfz17_0 := blk_frozen BK130.out 0
            have hfz17_1 := blk_frozen BK130.out 1
            have hfz17_2 := blk_frozen BK130.out 2
            have hfz17_3 := blk_frozen BK130.out 3
            go_wp2
            go_ret
            exact ⟨by first | rfl | (simp [errW_none, errW_some] <;> rfl) | (simp [*, errW_none, errW_some] <;> rfl), by repeat (first | (with_reducible first | exact HB.out | apply below_alloc | apply pw_below_drewN | apply below_drew1 | refine below_set ?_ GE130.out) | exact HB.out)⟩
          · rw [if_neg c16] at H
            have c16b0 : ((l0_3.length : Int) == 0) = false := beq_eq_false_iff_ne.mpr c16
            have c16b1 : ((l0_3.length : Int) != 0) = true := bne_iff_ne.mpr c16
            have c16b2 : ¬ (l0_3 = []) := fun h_ => c16 (by rw [h_]; rfl)
            by_cases c18 : 0 < (l0_3.length : Int)
            · rw [if_pos c18] at H
              have c18b0 : decide (0 < (l0_3.length : Int)) = true := decide_eq_true c18
              have c18b1 : decide (0 < l0_3.length) = true := decide_eq_true (by omega)
              clear c18
              replace H := Option.bind_eq_some_iff.mp H
              obtain ⟨t136, A190, H⟩ := H
              replace H : (if a0_0 = 10 then (if 1 + t136.size ≤ 9223372036854775807 then (if ((⟨#[91]⟩ : ByteArray) ++ t136).size + 2 ≤ 9223372036854775807 then ((ferruleref04_number.f kj1 a0_2).bind fun t137 => (if (((⟨#[91]⟩ : ByteArray) ++ t136) ++ (⟨#[59, 32]⟩ : ByteArray)).size + t137.size ≤ 9223372036854775807 then (if ((((⟨#[91]⟩ : ByteArray) ++ t136) ++ (⟨#[59, 32]⟩ : ByteArray)) ++ t137).size + 1 ≤ 9223372036854775807 then (some (((((⟨#[91]⟩ : ByteArray) ++ t136) ++ (⟨#[59, 32]⟩ : ByteArray)) ++ t137) ++ (⟨#[93]⟩ : ByteArray))) else (none)) else (none))) else (none)) else (none)) else (if a0_0 = 11 then (if 4 + t136.size ≤ 9223372036854775807 then (if ((⟨#[66, 111, 120, 60]⟩ : ByteArray) ++ t136).size + 1 ≤ 9223372036854775807 then (some (((⟨#[66, 111, 120, 60]⟩ : ByteArray) ++ t136) ++ (⟨#[62]⟩ : ByteArray))) else (none)) else (none)) else (if a0_0 = 12 then (if 1 + t136.size ≤ 9223372036854775807 then (some ((⟨#[38]⟩ : ByteArray) ++ t136)) else (none)) else (if a0_0 = 13 then (if 5 + t136.size ≤ 9223372036854775807 then (some ((⟨#[38, 109, 117, 116, 32]⟩ : ByteArray) ++ t136)) else (none)) else (some (⟨#[63]⟩ : ByteArray)))))) = some r := H
              have A19 := Aside0.mk A190
              clear A190
              by_cases c20 : a0_0 = 10
              · rw [if_pos c20] at H
                have c20b0 : (a0_0 == 10) = true := beq_iff_eq.mpr c20
                have c20b1 : (a0_0 != 10) = false := bne_eq_false_iff_eq.mpr c20
                clear c20
                by_cases c21 : 1 + t136.size ≤ 9223372036854775807
                · rw [if_pos c21] at H
                  have c21b0 := eq_true c21
                  have c21b1 : decide (1 + t136.size ≤ 9223372036854775807) = true := decide_eq_true c21
                  try have c21b2 : (9223372036854775807 < 1 + t136.size) = False := eq_false (Nat.not_lt.2 c21)
                  by_cases c22 : ((⟨#[91]⟩ : ByteArray) ++ t136).size + 2 ≤ 9223372036854775807
                  · rw [if_pos c22] at H
                    have c22b0 := eq_true c22
                    have c22b1 : decide (((⟨#[91]⟩ : ByteArray) ++ t136).size + 2 ≤ 9223372036854775807) = true := decide_eq_true c22
                    try have c22b2 : (9223372036854775807 < ((⟨#[91]⟩ : ByteArray) ++ t136).size + 2) = False := eq_false (Nat.not_lt.2 c22)
                    try have c22b3 : (9223372036854775807 < 1 + t136.size + 2) = False := by have h_ := c22b2; simp only [ByteArray.size_append] at h_; exact h_
                    replace H := Option.bind_eq_some_iff.mp H
                    obtain ⟨t137, A230, H⟩ := H
                    replace H : (if (((⟨#[91]⟩ : ByteArray) ++ t136) ++ (⟨#[59, 32]⟩ : ByteArray)).size + t137.size ≤ 9223372036854775807 then (if ((((⟨#[91]⟩ : ByteArray) ++ t136) ++ (⟨#[59, 32]⟩ : ByteArray)) ++ t137).size + 1 ≤ 9223372036854775807 then (some (((((⟨#[91]⟩ : ByteArray) ++ t136) ++ (⟨#[59, 32]⟩ : ByteArray)) ++ t137) ++ (⟨#[93]⟩ : ByteArray))) else (none)) else (none)) = some r := H
                    have A23 := Aside0.mk A230
                    clear A230
                    by_cases c24 : (((⟨#[91]⟩ : ByteArray) ++ t136) ++ (⟨#[59, 32]⟩ : ByteArray)).size + t137.size ≤ 9223372036854775807
                    · rw [if_pos c24] at H
                      have c24b0 := eq_true c24
                      have c24b1 : decide ((((⟨#[91]⟩ : ByteArray) ++ t136) ++ (⟨#[59, 32]⟩ : ByteArray)).size + t137.size ≤ 9223372036854775807) = true := decide_eq_true c24
                      try have c24b2 : (9223372036854775807 < (((⟨#[91]⟩ : ByteArray) ++ t136) ++ (⟨#[59, 32]⟩ : ByteArray)).size + t137.size) = False := eq_false (Nat.not_lt.2 c24)
                      try have c24b3 : (9223372036854775807 < 1 + t136.size + 2 + t137.size) = False := by have h_ := c24b2; simp only [ByteArray.size_append] at h_; exact h_
                      by_cases c25 : ((((⟨#[91]⟩ : ByteArray) ++ t136) ++ (⟨#[59, 32]⟩ : ByteArray)) ++ t137).size + 1 ≤ 9223372036854775807
                      · rw [if_pos c25] at H
                        have c25b0 := eq_true c25
                        have c25b1 : decide (((((⟨#[91]⟩ : ByteArray) ++ t136) ++ (⟨#[59, 32]⟩ : ByteArray)) ++ t137).size + 1 ≤ 9223372036854775807) = true := decide_eq_true c25
                        try have c25b2 : (9223372036854775807 < ((((⟨#[91]⟩ : ByteArray) ++ t136) ++ (⟨#[59, 32]⟩ : ByteArray)) ++ t137).size + 1) = False := eq_false (Nat.not_lt.2 c25)
                        try have c25b3 : (9223372036854775807 < 1 + t136.size + 2 + t137.size + 1) = False := by have h_ := c25b2; simp only [ByteArray.size_append] at h_; exact h_
                        obtain rfl := Option.some.inj H
                        have hcz26_0 : wc.cell? ⟨gb130, 0, none⟩ = some (.int .i64 a0_0) := (blk_cell BK130.out 0).trans rfl
                        have hcz26_1 : wc.cell? ⟨gb130, 1, none⟩ = some (.string a0_1) := (blk_cell BK130.out 1).trans rfl
                        have hcz26_2 : wc.cell? ⟨gb130, 2, none⟩ = some (.int .i64 a0_2) := (blk_cell BK130.out 2).trans rfl
                        have hcz26_3 : wc.cell? ⟨gb130, 3, none⟩ = some (.slice A0_3 l0_3.length c0_3) := (blk_cell BK130.out 3).trans rfl
                        have hfz26_0 := blk_frozen BK130.out 0
                        have hfz26_1 := blk_frozen BK130.out 1
                        have hfz26_2 := blk_frozen BK130.out 2
                        have hfz26_3 := blk_frozen BK130.out 3
                        have p135 : 0 ≤ (0 : Int) := (by omega)
                        have q135 : 0 < (l0_3.length : Int) := of_decide_eq_true (by first | (with_reducible assumption) | assumption)
                        obtain ⟨ad135, A135_3, c135_3, e135, hx135_0, hx135_1, hx135_2, hx135_3, hl135_3, hi135_3⟩ := at_T24 HR0_3.out 0 p135 q135
                        cases e135
                        have qi135 : (0 < l0_3.length) = True := eq_true (by omega)
                        (try rw [show ((0 : Int)).toNat = 0 from rfl] at hx135_0)
                        (try rw [show 0 * 4 = 0 from rfl] at hx135_0)
                        (try rw [Addr.add_zero'] at hx135_0)
                        (try rw [show ((0 : Int)).toNat = 0 from rfl] at hx135_1)
                        (try rw [show 0 * 4 = 0 from rfl] at hx135_1)
                        (try rw [Addr.add_zero'] at hx135_1)
                        (try rw [show ((0 : Int)).toNat = 0 from rfl] at hx135_2)
                        (try rw [show 0 * 4 = 0 from rfl] at hx135_2)
                        (try rw [Addr.add_zero'] at hx135_2)
                        (try rw [show ((0 : Int)).toNat = 0 from rfl] at hx135_3)
                        (try rw [show 0 * 4 = 0 from rfl] at hx135_3)
                        (try rw [Addr.add_zero'] at hx135_3)
                        replace hx135_0 := (HB.out.cell (World.block_lt_of_cell? w _ hx135_0)).trans hx135_0
                        replace hx135_1 := (HB.out.cell (World.block_lt_of_cell? w _ hx135_1)).trans hx135_1
                        replace hx135_2 := (HB.out.cell (World.block_lt_of_cell? w _ hx135_2)).trans hx135_2
                        replace hx135_3 := (HB.out.cell (World.block_lt_of_cell? w _ hx135_3)).trans hx135_3
                        have HR135_3 := Aside0.mk hi135_3
                        have HC135_3 := Aside0.mk hl135_3
                        clear hi135_3 hl135_3
                        replace p135 := eq_true p135
                        replace q135 := eq_true q135
                        go_wp2_with (first | ((with_reducible refine gate_callee (f := 8) rfl ?_); refine goesL_ (some 32) rfl rfl Tryd.func8 (by kernel_rfl) rfl #[.agg #[.int .i64 ((rd_T24 l0_3 0).f0), .string ((rd_T24 l0_3 0).f1), .int .i64 ((rd_T24 l0_3 0).f2), .slice A135_3 ((rd_T24 l0_3 0).f3).length c135_3]] rfl (by (try simp only [List.map_toArray, List.map_cons, List.map_nil]); first | done | rfl | (simp only [List.length_drop, List.length_take]; rfl)) ?_; (with_reducible refine (ih kj1 (by have := HJ1.out; omega) ((rd_T24 l0_3 0).f0) ((rd_T24 l0_3 0).f1) ((rd_T24 l0_3 0).f2) _ _ ((rd_T24 l0_3 0).f3) t136 _ ?side1 ?side2 A19.out).mono ?_); (case side1 => repeat (first | exact (Kd.C_below HR135_3.out HB.out) | (with_reducible refine Kd.C_alloc ?_ _) | (with_reducible refine Kd.C_drewN ?_ _) | (with_reducible refine Kd.C_drew ?_))); (case side2 => exact HC135_3.out); rintro e w27 ⟨rfl, hb⟩; refine ⟨_, rfl, ?_⟩; have n0_ := Aside0.mk (Kd.R_below (by (with_reducible repeat (first | apply Kd.R_alloc | apply Kd.R_drewN | apply Kd.R_drew)); exact HO_3.out) hb); have n1_ := Aside0.mk (blk_below (g := gb130) (o := .cells #[.int .i64 a0_0, .string a0_1, .int .i64 a0_2, .slice (some ad135) l0_3.length c0_3] 24 (0, 0)) (by (with_reducible repeat (first | refine blk_drewN ?_ _ | refine blk_drew ?_ | refine blk_alloc ?_ _)); exact BK130.out) hb); have n2_ := Aside0.mk (below_step (by repeat (first | (with_reducible first | exact HB.out | apply below_alloc | apply pw_below_drewN | apply below_drew1 | refine below_set ?_ GE130.out) | exact HB.out)) hb); clear HO_3; clear BK130; clear HB; have HO_3 := n0_; have BK130 := n1_; have HB := n2_; clear n0_ n1_ n2_; (try clear hb); (try clear hb2); (try clear hk); (try clear hi); have hcz28_0 : w27.cell? ⟨gb130, 0, none⟩ = some (.int .i64 a0_0) := (blk_cell BK130.out 0).trans rfl; have hcz28_1 : w27.cell? ⟨gb130, 1, none⟩ = some (.string a0_1) := (blk_cell BK130.out 1).trans rfl; have hcz28_2 : w27.cell? ⟨gb130, 2, none⟩ = some (.int .i64 a0_2) := (blk_cell BK130.out 2).trans rfl; have hcz28_3 : w27.cell? ⟨gb130, 3, none⟩ = some (.slice (some ad135) l0_3.length c0_3) := (blk_cell BK130.out 3).trans rfl; have hfz28_0 := blk_frozen BK130.out 0; have hfz28_1 := blk_frozen BK130.out 1; have hfz28_2 := blk_frozen BK130.out 2; have hfz28_3 := blk_frozen BK130.out 3) | ((with_reducible refine gate_callee (f := 18) rfl ?_); refine goesL_ (some 42) rfl rfl Tryd.func18 (by kernel_rfl) rfl #[.int .i64 a0_2] rfl (by (try simp only [List.map_toArray, List.map_cons, List.map_nil]); first | done | rfl | (simp only [List.length_drop, List.length_take]; rfl)) ?_; (with_reducible refine (ferruleref04_number.calls kj1 a0_2 t137 _ A23.out).mono ?_); rintro e w' ⟨rfl, ⟨nd, rfl⟩⟩; refine ⟨_, rfl, ?_⟩))
                        go_ret
                        exact ⟨by first | rfl | (simp [errW_none, errW_some] <;> rfl) | (simp [*, errW_none, errW_some] <;> rfl), by repeat (first | (with_reducible first | exact HB.out | apply below_alloc | apply pw_below_drewN | apply below_drew1 | refine below_set ?_ GE130.out) | exact HB.out)⟩
                      · rw [if_neg c25] at H
                        exact absurd H (by simp)
                    · rw [if_neg c24] at H
                      exact absurd H (by simp)
                  · rw [if_neg c22] at H
                    exact absurd H (by simp)
                · rw [if_neg c21] at H
                  exact absurd H (by simp)
              · rw [if_neg c20] at H
                have c20b0 : (a0_0 == 10) = false := beq_eq_false_iff_ne.mpr c20
                have c20b1 : (a0_0 != 10) = true := bne_iff_ne.mpr c20
                by_cases c29 : a0_0 = 11
                · rw [if_pos c29] at H
                  have c29b0 : (a0_0 == 11) = true := beq_iff_eq.mpr c29
                  have c29b1 : (a0_0 != 11) = false := bne_eq_false_iff_eq.mpr c29
                  clear c29
                  by_cases c30 : 4 + t136.size ≤ 9223372036854775807
                  · rw [if_pos c30] at H
                    have c30b0 := eq_true c30
                    have c30b1 : decide (4 + t136.size ≤ 9223372036854775807) = true := decide_eq_true c30
                    try have c30b2 : (9223372036854775807 < 4 + t136.size) = False := eq_false (Nat.not_lt.2 c30)
                    by_cases c31 : ((⟨#[66, 111, 120, 60]⟩ : ByteArray) ++ t136).size + 1 ≤ 9223372036854775807
                    · rw [if_pos c31] at H
                      have c31b0 := eq_true c31
                      have c31b1 : decide (((⟨#[66, 111, 120, 60]⟩ : ByteArray) ++ t136).size + 1 ≤ 9223372036854775807) = true := decide_eq_true c31
                      try have c31b2 : (9223372036854775807 < ((⟨#[66, 111, 120, 60]⟩ : ByteArray) ++ t136).size + 1) = False := eq_false (Nat.not_lt.2 c31)
                      try have c31b3 : (9223372036854775807 < 4 + t136.size + 1) = False := by have h_ := c31b2; simp only [ByteArray.size_append] at h_; exact h_
                      obtain rfl := Option.some.inj H
                      have hcz32_0 : wc.cell? ⟨gb130, 0, none⟩ = some (.int .i64 a0_0) := (blk_cell BK130.out 0).trans rfl
                      have hcz32_1 : wc.cell? ⟨gb130, 1, none⟩ = some (.string a0_1) := (blk_cell BK130.out 1).trans rfl
                      have hcz32_2 : wc.cell? ⟨gb130, 2, none⟩ = some (.int .i64 a0_2) := (blk_cell BK130.out 2).trans rfl
                      have hcz32_3 : wc.cell? ⟨gb130, 3, none⟩ = some (.slice A0_3 l0_3.length c0_3) := (blk_cell BK130.out 3).trans rfl
                      have hfz32_0 := blk_frozen BK130.out 0
                      have hfz32_1 := blk_frozen BK130.out 1
                      have hfz32_2 := blk_frozen BK130.out 2
                      have hfz32_3 := blk_frozen BK130.out 3
                      have p135 : 0 ≤ (0 : Int) := (by omega)
                      have q135 : 0 < (l0_3.length : Int) := of_decide_eq_true (by first | (with_reducible assumption) | assumption)
                      obtain ⟨ad135, A135_3, c135_3, e135, hx135_0, hx135_1, hx135_2, hx135_3, hl135_3, hi135_3⟩ := at_T24 HR0_3.out 0 p135 q135
                      cases e135
                      have qi135 : (0 < l0_3.length) = True := eq_true (by omega)
                      (try rw [show ((0 : Int)).toNat = 0 from rfl] at hx135_0)
                      (try rw [show 0 * 4 = 0 from rfl] at hx135_0)
                      (try rw [Addr.add_zero'] at hx135_0)
                      (try rw [show ((0 : Int)).toNat = 0 from rfl] at hx135_1)
                      (try rw [show 0 * 4 = 0 from rfl] at hx135_1)
                      (try rw [Addr.add_zero'] at hx135_1)
                      (try rw [show ((0 : Int)).toNat = 0 from rfl] at hx135_2)
                      (try rw [show 0 * 4 = 0 from rfl] at hx135_2)
                      (try rw [Addr.add_zero'] at hx135_2)
                      (try rw [show ((0 : Int)).toNat = 0 from rfl] at hx135_3)
                      (try rw [show 0 * 4 = 0 from rfl] at hx135_3)
                      (try rw [Addr.add_zero'] at hx135_3)
                      replace hx135_0 := (HB.out.cell (World.block_lt_of_cell? w _ hx135_0)).trans hx135_0
                      replace hx135_1 := (HB.out.cell (World.block_lt_of_cell? w _ hx135_1)).trans hx135_1
                      replace hx135_2 := (HB.out.cell (World.block_lt_of_cell? w _ hx135_2)).trans hx135_2
                      replace hx135_3 := (HB.out.cell (World.block_lt_of_cell? w _ hx135_3)).trans hx135_3
                      have HR135_3 := Aside0.mk hi135_3
                      have HC135_3 := Aside0.mk hl135_3
                      clear hi135_3 hl135_3
                      replace p135 := eq_true p135
                      replace q135 := eq_true q135
                      go_wp2_with (first | ((with_reducible refine gate_callee (f := 8) rfl ?_); refine goesL_ (some 32) rfl rfl Tryd.func8 (by kernel_rfl) rfl #[.agg #[.int .i64 ((rd_T24 l0_3 0).f0), .string ((rd_T24 l0_3 0).f1), .int .i64 ((rd_T24 l0_3 0).f2), .slice A135_3 ((rd_T24 l0_3 0).f3).length c135_3]] rfl (by (try simp only [List.map_toArray, List.map_cons, List.map_nil]); first | done | rfl | (simp only [List.length_drop, List.length_take]; rfl)) ?_; (with_reducible refine (ih kj1 (by have := HJ1.out; omega) ((rd_T24 l0_3 0).f0) ((rd_T24 l0_3 0).f1) ((rd_T24 l0_3 0).f2) _ _ ((rd_T24 l0_3 0).f3) t136 _ ?side1 ?side2 A19.out).mono ?_); (case side1 => repeat (first | exact (Kd.C_below HR135_3.out HB.out) | (with_reducible refine Kd.C_alloc ?_ _) | (with_reducible refine Kd.C_drewN ?_ _) | (with_reducible refine Kd.C_drew ?_))); (case side2 => exact HC135_3.out); rintro e w33 ⟨rfl, hb⟩; refine ⟨_, rfl, ?_⟩; have n0_ := Aside0.mk (Kd.R_below (by (with_reducible repeat (first | apply Kd.R_alloc | apply Kd.R_drewN | apply Kd.R_drew)); exact HO_3.out) hb); have n1_ := Aside0.mk (blk_below (g := gb130) (o := .cells #[.int .i64 a0_0, .string a0_1, .int .i64 a0_2, .slice (some ad135) l0_3.length c0_3] 24 (0, 0)) (by (with_reducible repeat (first | refine blk_drewN ?_ _ | refine blk_drew ?_ | refine blk_alloc ?_ _)); exact BK130.out) hb); have n2_ := Aside0.mk (below_step (by repeat (first | (with_reducible first | exact HB.out | apply below_alloc | apply pw_below_drewN | apply below_drew1 | refine below_set ?_ GE130.out) | exact HB.out)) hb); clear HO_3; clear BK130; clear HB; have HO_3 := n0_; have BK130 := n1_; have HB := n2_; clear n0_ n1_ n2_; (try clear hb); (try clear hb2); (try clear hk); (try clear hi); have hcz34_0 : w33.cell? ⟨gb130, 0, none⟩ = some (.int .i64 a0_0) := (blk_cell BK130.out 0).trans rfl; have hcz34_1 : w33.cell? ⟨gb130, 1, none⟩ = some (.string a0_1) := (blk_cell BK130.out 1).trans rfl; have hcz34_2 : w33.cell? ⟨gb130, 2, none⟩ = some (.int .i64 a0_2) := (blk_cell BK130.out 2).trans rfl; have hcz34_3 : w33.cell? ⟨gb130, 3, none⟩ = some (.slice (some ad135) l0_3.length c0_3) := (blk_cell BK130.out 3).trans rfl; have hfz34_0 := blk_frozen BK130.out 0; have hfz34_1 := blk_frozen BK130.out 1; have hfz34_2 := blk_frozen BK130.out 2; have hfz34_3 := blk_frozen BK130.out 3))
                      go_ret
                      exact ⟨by first | rfl | (simp [errW_none, errW_some] <;> rfl) | (simp [*, errW_none, errW_some] <;> rfl), by repeat (first | (with_reducible first | exact HB.out | apply below_alloc | apply pw_below_drewN | apply below_drew1 | refine below_set ?_ GE130.out) | exact HB.out)⟩
                    · rw [if_neg c31] at H
                      exact absurd H (by simp)
                  · rw [if_neg c30] at H
                    exact absurd H (by simp)
                · rw [if_neg c29] at H
                  have c29b0 : (a0_0 == 11) = false := beq_eq_false_iff_ne.mpr c29
                  have c29b1 : (a0_0 != 11) = true := bne_iff_ne.mpr c29
                  by_cases c35 : a0_0 = 12
                  · rw [if_pos c35] at H
                    have c35b0 : (a0_0 == 12) = true := beq_iff_eq.mpr c35
                    have c35b1 : (a0_0 != 12) = false := bne_eq_false_iff_eq.mpr c35
                    clear c35
                    by_cases c36 : 1 + t136.size ≤ 9223372036854775807
                    · rw [if_pos c36] at H
                      have c36b0 := eq_true c36
                      have c36b1 : decide (1 + t136.size ≤ 9223372036854775807) = true := decide_eq_true c36
                      try have c36b2 : (9223372036854775807 < 1 + t136.size) = False := eq_false (Nat.not_lt.2 c36)
                      obtain rfl := Option.some.inj H
                      have hcz37_0 : wc.cell? ⟨gb130, 0, none⟩ = some (.int .i64 a0_0) := (blk_cell BK130.out 0).trans rfl
                      have hcz37_1 : wc.cell? ⟨gb130, 1, none⟩ = some (.string a0_1) := (blk_cell BK130.out 1).trans rfl
                      have hcz37_2 : wc.cell? ⟨gb130, 2, none⟩ = some (.int .i64 a0_2) := (blk_cell BK130.out 2).trans rfl
                      have hcz37_3 : wc.cell? ⟨gb130, 3, none⟩ = some (.slice A0_3 l0_3.length c0_3) := (blk_cell BK130.out 3).trans rfl
                      have hfz37_0 := blk_frozen BK130.out 0
                      have hfz37_1 := blk_frozen BK130.out 1
                      have hfz37_2 := blk_frozen BK130.out 2
                      have hfz37_3 := blk_frozen BK130.out 3
                      have p135 : 0 ≤ (0 : Int) := (by omega)
                      have q135 : 0 < (l0_3.length : Int) := of_decide_eq_true (by first | (with_reducible assumption) | assumption)
                      obtain ⟨ad135, A135_3, c135_3, e135, hx135_0, hx135_1, hx135_2, hx135_3, hl135_3, hi135_3⟩ := at_T24 HR0_3.out 0 p135 q135
                      cases e135
                      have qi135 : (0 < l0_3.length) = True := eq_true (by omega)
                      (try rw [show ((0 : Int)).toNat = 0 from rfl] at hx135_0)
                      (try rw [show 0 * 4 = 0 from rfl] at hx135_0)
                      (try rw [Addr.add_zero'] at hx135_0)
                      (try rw [show ((0 : Int)).toNat = 0 from rfl] at hx135_1)
                      (try rw [show 0 * 4 = 0 from rfl] at hx135_1)
                      (try rw [Addr.add_zero'] at hx135_1)
                      (try rw [show ((0 : Int)).toNat = 0 from rfl] at hx135_2)
                      (try rw [show 0 * 4 = 0 from rfl] at hx135_2)
                      (try rw [Addr.add_zero'] at hx135_2)
                      (try rw [show ((0 : Int)).toNat = 0 from rfl] at hx135_3)
                      (try rw [show 0 * 4 = 0 from rfl] at hx135_3)
                      (try rw [Addr.add_zero'] at hx135_3)
                      replace hx135_0 := (HB.out.cell (World.block_lt_of_cell? w _ hx135_0)).trans hx135_0
                      replace hx135_1 := (HB.out.cell (World.block_lt_of_cell? w _ hx135_1)).trans hx135_1
                      replace hx135_2 := (HB.out.cell (World.block_lt_of_cell? w _ hx135_2)).trans hx135_2
                      replace hx135_3 := (HB.out.cell (World.block_lt_of_cell? w _ hx135_3)).trans hx135_3
                      have HR135_3 := Aside0.mk hi135_3
                      have HC135_3 := Aside0.mk hl135_3
                      clear hi135_3 hl135_3
                      replace p135 := eq_true p135
                      replace q135 := eq_true q135
                      go_wp2_with (first | ((with_reducible refine gate_callee (f := 8) rfl ?_); refine goesL_ (some 32) rfl rfl Tryd.func8 (by kernel_rfl) rfl #[.agg #[.int .i64 ((rd_T24 l0_3 0).f0), .string ((rd_T24 l0_3 0).f1), .int .i64 ((rd_T24 l0_3 0).f2), .slice A135_3 ((rd_T24 l0_3 0).f3).length c135_3]] rfl (by (try simp only [List.map_toArray, List.map_cons, List.map_nil]); first | done | rfl | (simp only [List.length_drop, List.length_take]; rfl)) ?_; (with_reducible refine (ih kj1 (by have := HJ1.out; omega) ((rd_T24 l0_3 0).f0) ((rd_T24 l0_3 0).f1) ((rd_T24 l0_3 0).f2) _ _ ((rd_T24 l0_3 0).f3) t136 _ ?side1 ?side2 A19.out).mono ?_); (case side1 => repeat (first | exact (Kd.C_below HR135_3.out HB.out) | (with_reducible refine Kd.C_alloc ?_ _) | (with_reducible refine Kd.C_drewN ?_ _) | (with_reducible refine Kd.C_drew ?_))); (case side2 => exact HC135_3.out); rintro e w38 ⟨rfl, hb⟩; refine ⟨_, rfl, ?_⟩; have n0_ := Aside0.mk (Kd.R_below (by (with_reducible repeat (first | apply Kd.R_alloc | apply Kd.R_drewN | apply Kd.R_drew)); exact HO_3.out) hb); have n1_ := Aside0.mk (blk_below (g := gb130) (o := .cells #[.int .i64 a0_0, .string a0_1, .int .i64 a0_2, .slice (some ad135) l0_3.length c0_3] 24 (0, 0)) (by (with_reducible repeat (first | refine blk_drewN ?_ _ | refine blk_drew ?_ | refine blk_alloc ?_ _)); exact BK130.out) hb); have n2_ := Aside0.mk (below_step (by repeat (first | (with_reducible first | exact HB.out | apply below_alloc | apply pw_below_drewN | apply below_drew1 | refine below_set ?_ GE130.out) | exact HB.out)) hb); clear HO_3; clear BK130; clear HB; have HO_3 := n0_; have BK130 := n1_; have HB := n2_; clear n0_ n1_ n2_; (try clear hb); (try clear hb2); (try clear hk); (try clear hi); have hcz39_0 : w38.cell? ⟨gb130, 0, none⟩ = some (.int .i64 a0_0) := (blk_cell BK130.out 0).trans rfl; have hcz39_1 : w38.cell? ⟨gb130, 1, none⟩ = some (.string a0_1) := (blk_cell BK130.out 1).trans rfl; have hcz39_2 : w38.cell? ⟨gb130, 2, none⟩ = some (.int .i64 a0_2) := (blk_cell BK130.out 2).trans rfl; have hcz39_3 : w38.cell? ⟨gb130, 3, none⟩ = some (.slice (some ad135) l0_3.length c0_3) := (blk_cell BK130.out 3).trans rfl; have hfz39_0 := blk_frozen BK130.out 0; have hfz39_1 := blk_frozen BK130.out 1; have hfz39_2 := blk_frozen BK130.out 2; have hfz39_3 := blk_frozen BK130.out 3))
                      go_ret
                      exact ⟨by first | rfl | (simp [errW_none, errW_some] <;> rfl) | (simp [*, errW_none, errW_some] <;> rfl), by repeat (first | (with_reducible first | exact HB.out | apply below_alloc | apply pw_below_drewN | apply below_drew1 | refine below_set ?_ GE130.out) | exact HB.out)⟩
                    · rw [if_neg c36] at H
                      exact absurd H (by simp)
                  · rw [if_neg c35] at H
                    have c35b0 : (a0_0 == 12) = false := beq_eq_false_iff_ne.mpr c35
                    have c35b1 : (a0_0 != 12) = true := bne_iff_ne.mpr c35
                    by_cases c40 : a0_0 = 13
                    · rw [if_pos c40] at H
                      have c40b0 : (a0_0 == 13) = true := beq_iff_eq.mpr c40
                      have c40b1 : (a0_0 != 13) = false := bne_eq_false_iff_eq.mpr c40
                      clear c40
                      by_cases c41 : 5 + t136.size ≤ 9223372036854775807
                      · rw [if_pos c41] at H
                        have c41b0 := eq_true c41
                        have c41b1 : decide (5 + t136.size ≤ 9223372036854775807) = true := decide_eq_true c41
                        try have c41b2 : (9223372036854775807 < 5 + t136.size) = False := eq_false (Nat.not_lt.2 c41)
                        obtain rfl := Option.some.inj H
                        have hcz42_0 : wc.cell? ⟨gb130, 0, none⟩ = some (.int .i64 a0_0) := (blk_cell BK130.out 0).trans rfl
                        have hcz42_1 : wc.cell? ⟨gb130, 1, none⟩ = some (.string a0_1) := (blk_cell BK130.out 1).trans rfl
                        have hcz42_2 : wc.cell? ⟨gb130, 2, none⟩ = some (.int .i64 a0_2) := (blk_cell BK130.out 2).trans rfl
                        have hcz42_3 : wc.cell? ⟨gb130, 3, none⟩ = some (.slice A0_3 l0_3.length c0_3) := (blk_cell BK130.out 3).trans rfl
                        have hfz42_0 := blk_frozen BK130.out 0
                        have hfz42_1 := blk_frozen BK130.out 1
                        have hfz42_2 := blk_frozen BK130.out 2
                        have hfz42_3 := blk_frozen BK130.out 3
                        have p135 : 0 ≤ (0 : Int) := (by omega)
                        have q135 : 0 < (l0_3.length : Int) := of_decide_eq_true (by first | (with_reducible assumption) | assumption)
                        obtain ⟨ad135, A135_3, c135_3, e135, hx135_0, hx135_1, hx135_2, hx135_3, hl135_3, hi135_3⟩ := at_T24 HR0_3.out 0 p135 q135
                        cases e135
                        have qi135 : (0 < l0_3.length) = True := eq_true (by omega)
                        (try rw [show ((0 : Int)).toNat = 0 from rfl] at hx135_0)
                        (try rw [show 0 * 4 = 0 from rfl] at hx135_0)
                        (try rw [Addr.add_zero'] at hx135_0)
                        (try rw [show ((0 : Int)).toNat = 0 from rfl] at hx135_1)
                        (try rw [show 0 * 4 = 0 from rfl] at hx135_1)
                        (try rw [Addr.add_zero'] at hx135_1)
                        (try rw [show ((0 : Int)).toNat = 0 from rfl] at hx135_2)
                        (try rw [show 0 * 4 = 0 from rfl] at hx135_2)
                        (try rw [Addr.add_zero'] at hx135_2)
                        (try rw [show ((0 : Int)).toNat = 0 from rfl] at hx135_3)
                        (try rw [show 0 * 4 = 0 from rfl] at hx135_3)
                        (try rw [Addr.add_zero'] at hx135_3)
                        replace hx135_0 := (HB.out.cell (World.block_lt_of_cell? w _ hx135_0)).trans hx135_0
                        replace hx135_1 := (HB.out.cell (World.block_lt_of_cell? w _ hx135_1)).trans hx135_1
                        replace hx135_2 := (HB.out.cell (World.block_lt_of_cell? w _ hx135_2)).trans hx135_2
                        replace hx135_3 := (HB.out.cell (World.block_lt_of_cell? w _ hx135_3)).trans hx135_3
                        have HR135_3 := Aside0.mk hi135_3
                        have HC135_3 := Aside0.mk hl135_3
                        clear hi135_3 hl135_3
                        replace p135 := eq_true p135
                        replace q135 := eq_true q135
                        go_wp2_with (first | ((with_reducible refine gate_callee (f := 8) rfl ?_); refine goesL_ (some 32) rfl rfl Tryd.func8 (by kernel_rfl) rfl #[.agg #[.int .i64 ((rd_T24 l0_3 0).f0), .string ((rd_T24 l0_3 0).f1), .int .i64 ((rd_T24 l0_3 0).f2), .slice A135_3 ((rd_T24 l0_3 0).f3).length c135_3]] rfl (by (try simp only [List.map_toArray, List.map_cons, List.map_nil]); first | done | rfl | (simp only [List.length_drop, List.length_take]; rfl)) ?_; (with_reducible refine (ih kj1 (by have := HJ1.out; omega) ((rd_T24 l0_3 0).f0) ((rd_T24 l0_3 0).f1) ((rd_T24 l0_3 0).f2) _ _ ((rd_T24 l0_3 0).f3) t136 _ ?side1 ?side2 A19.out).mono ?_); (case side1 => repeat (first | exact (Kd.C_below HR135_3.out HB.out) | (with_reducible refine Kd.C_alloc ?_ _) | (with_reducible refine Kd.C_drewN ?_ _) | (with_reducible refine Kd.C_drew ?_))); (case side2 => exact HC135_3.out); rintro e w43 ⟨rfl, hb⟩; refine ⟨_, rfl, ?_⟩; have n0_ := Aside0.mk (Kd.R_below (by (with_reducible repeat (first | apply Kd.R_alloc | apply Kd.R_drewN | apply Kd.R_drew)); exact HO_3.out) hb); have n1_ := Aside0.mk (blk_below (g := gb130) (o := .cells #[.int .i64 a0_0, .string a0_1, .int .i64 a0_2, .slice (some ad135) l0_3.length c0_3] 24 (0, 0)) (by (with_reducible repeat (first | refine blk_drewN ?_ _ | refine blk_drew ?_ | refine blk_alloc ?_ _)); exact BK130.out) hb); have n2_ := Aside0.mk (below_step (by repeat (first | (with_reducible first | exact HB.out | apply below_alloc | apply pw_below_drewN | apply below_drew1 | refine below_set ?_ GE130.out) | exact HB.out)) hb); clear HO_3; clear BK130; clear HB; have HO_3 := n0_; have BK130 := n1_; have HB := n2_; clear n0_ n1_ n2_; (try clear hb); (try clear hb2); (try clear hk); (try clear hi); have hcz44_0 : w43.cell? ⟨gb130, 0, none⟩ = some (.int .i64 a0_0) := (blk_cell BK130.out 0).trans rfl; have hcz44_1 : w43.cell? ⟨gb130, 1, none⟩ = some (.string a0_1) := (blk_cell BK130.out 1).trans rfl; have hcz44_2 : w43.cell? ⟨gb130, 2, none⟩ = some (.int .i64 a0_2) := (blk_cell BK130.out 2).trans rfl; have hcz44_3 : w43.cell? ⟨gb130, 3, none⟩ = some (.slice (some ad135) l0_3.length c0_3) := (blk_cell BK130.out 3).trans rfl; have hfz44_0 := blk_frozen BK130.out 0; have hfz44_1 := blk_frozen BK130.out 1; have hfz44_2 := blk_frozen BK130.out 2; have hfz44_3 := blk_frozen BK130.out 3))
                        go_ret
                        exact ⟨by first | rfl | (simp [errW_none, errW_some] <;> rfl) | (simp [*, errW_none, errW_some] <;> rfl), by repeat (first | (with_reducible first | exact HB.out | apply below_alloc | apply pw_below_drewN | apply below_drew1 | refine below_set ?_ GE130.out) | exact HB.out)⟩
                      · rw [if_neg c41] at H
                        exact absurd H (by simp)
                    · rw [if_neg c40] at H
                      have c40b0 : (a0_0 == 13) = false := beq_eq_false_iff_ne.mpr c40
                      have c40b1 : (a0_0 != 13) = true := bne_iff_ne.mpr c40
                      obtain rfl := Option.some.inj H
                      have hcz45_0 : wc.cell? ⟨gb130, 0, none⟩ = some (.int .i64 a0_0) := (blk_cell BK130.out 0).trans rfl
                      have hcz45_1 : wc.cell? ⟨gb130, 1, none⟩ = some (.string a0_1) := (blk_cell BK130.out 1).trans rfl
                      have hcz45_2 : wc.cell? ⟨gb130, 2, none⟩ = some (.int .i64 a0_2) := (blk_cell BK130.out 2).trans rfl
                      have hcz45_3 : wc.cell? ⟨gb130, 3, none⟩ = some (.slice A0_3 l0_3.length c0_3) := (blk_cell BK130.out 3).trans rfl
                      have hfz45_0 := blk_frozen BK130.out 0
                      have hfz45_1 := blk_frozen BK130.out 1
                      have hfz45_2 := blk_frozen BK130.out 2
                      have hfz45_3 := blk_frozen BK130.out 3
                      have p135 : 0 ≤ (0 : Int) := (by omega)
                      have q135 : 0 < (l0_3.length : Int) := of_decide_eq_true (by first | (with_reducible assumption) | assumption)
                      obtain ⟨ad135, A135_3, c135_3, e135, hx135_0, hx135_1, hx135_2, hx135_3, hl135_3, hi135_3⟩ := at_T24 HR0_3.out 0 p135 q135
                      cases e135
                      have qi135 : (0 < l0_3.length) = True := eq_true (by omega)
                      (try rw [show ((0 : Int)).toNat = 0 from rfl] at hx135_0)
                      (try rw [show 0 * 4 = 0 from rfl] at hx135_0)
                      (try rw [Addr.add_zero'] at hx135_0)
                      (try rw [show ((0 : Int)).toNat = 0 from rfl] at hx135_1)
                      (try rw [show 0 * 4 = 0 from rfl] at hx135_1)
                      (try rw [Addr.add_zero'] at hx135_1)
                      (try rw [show ((0 : Int)).toNat = 0 from rfl] at hx135_2)
                      (try rw [show 0 * 4 = 0 from rfl] at hx135_2)
                      (try rw [Addr.add_zero'] at hx135_2)
                      (try rw [show ((0 : Int)).toNat = 0 from rfl] at hx135_3)
                      (try rw [show 0 * 4 = 0 from rfl] at hx135_3)
                      (try rw [Addr.add_zero'] at hx135_3)
                      replace hx135_0 := (HB.out.cell (World.block_lt_of_cell? w _ hx135_0)).trans hx135_0
                      replace hx135_1 := (HB.out.cell (World.block_lt_of_cell? w _ hx135_1)).trans hx135_1
                      replace hx135_2 := (HB.out.cell (World.block_lt_of_cell? w _ hx135_2)).trans hx135_2
                      replace hx135_3 := (HB.out.cell (World.block_lt_of_cell? w _ hx135_3)).trans hx135_3
                      have HR135_3 := Aside0.mk hi135_3
                      have HC135_3 := Aside0.mk hl135_3
                      clear hi135_3 hl135_3
                      replace p135 := eq_true p135
                      replace q135 := eq_true q135
                      go_wp2_with (first | ((with_reducible refine gate_callee (f := 8) rfl ?_); refine goesL_ (some 32) rfl rfl Tryd.func8 (by kernel_rfl) rfl #[.agg #[.int .i64 ((rd_T24 l0_3 0).f0), .string ((rd_T24 l0_3 0).f1), .int .i64 ((rd_T24 l0_3 0).f2), .slice A135_3 ((rd_T24 l0_3 0).f3).length c135_3]] rfl (by (try simp only [List.map_toArray, List.map_cons, List.map_nil]); first | done | rfl | (simp only [List.length_drop, List.length_take]; rfl)) ?_; (with_reducible refine (ih kj1 (by have := HJ1.out; omega) ((rd_T24 l0_3 0).f0) ((rd_T24 l0_3 0).f1) ((rd_T24 l0_3 0).f2) _ _ ((rd_T24 l0_3 0).f3) t136 _ ?side1 ?side2 A19.out).mono ?_); (case side1 => repeat (first | exact (Kd.C_below HR135_3.out HB.out) | (with_reducible refine Kd.C_alloc ?_ _) | (with_reducible refine Kd.C_drewN ?_ _) | (with_reducible refine Kd.C_drew ?_))); (case side2 => exact HC135_3.out); rintro e w46 ⟨rfl, hb⟩; refine ⟨_, rfl, ?_⟩; have n0_ := Aside0.mk (Kd.R_below (by (with_reducible repeat (first | apply Kd.R_alloc | apply Kd.R_drewN | apply Kd.R_drew)); exact HO_3.out) hb); have n1_ := Aside0.mk (blk_below (g := gb130) (o := .cells #[.int .i64 a0_0, .string a0_1, .int .i64 a0_2, .slice (some ad135) l0_3.length c0_3] 24 (0, 0)) (by (with_reducible repeat (first | refine blk_drewN ?_ _ | refine blk_drew ?_ | refine blk_alloc ?_ _)); exact BK130.out) hb); have n2_ := Aside0.mk (below_step (by repeat (first | (with_reducible first | exact HB.out | apply below_alloc | apply pw_below_drewN | apply below_drew1 | refine below_set ?_ GE130.out) | exact HB.out)) hb); clear HO_3; clear BK130; clear HB; have HO_3 := n0_; have BK130 := n1_; have HB := n2_; clear n0_ n1_ n2_; (try clear hb); (try clear hb2); (try clear hk); (try clear hi); have hcz47_0 : w46.cell? ⟨gb130, 0, none⟩ = some (.int .i64 a0_0) := (blk_cell BK130.out 0).trans rfl; have hcz47_1 : w46.cell? ⟨gb130, 1, none⟩ = some (.string a0_1) := (blk_cell BK130.out 1).trans rfl; have hcz47_2 : w46.cell? ⟨gb130, 2, none⟩ = some (.int .i64 a0_2) := (blk_cell BK130.out 2).trans rfl; have hcz47_3 : w46.cell? ⟨gb130, 3, none⟩ = some (.slice (some ad135) l0_3.length c0_3) := (blk_cell BK130.out 3).trans rfl; have hfz47_0 := blk_frozen BK130.out 0; have hfz47_1 := blk_frozen BK130.out 1; have hfz47_2 := blk_frozen BK130.out 2; have hfz47_3 := blk_frozen BK130.out 3))
                      go_ret
                      exact ⟨by first | rfl | (simp [errW_none, errW_some] <;> rfl) | (simp [*, errW_none, errW_some] <;> rfl), by repeat (first | (with_reducible first | exact HB.out | apply below_alloc | apply pw_below_drewN | apply below_drew1 | refine below_set ?_ GE130.out) | exact HB.out)⟩
            · rw [if_neg c18] at H
              exact absurd H (by simp)

-- NOT PRINTED: function 19 (api_Type)

-- NOT PRINTED: function 20 (show_same)

-- NOT PRINTED: function 21 (api_Expr)

-- NOT PRINTED: function 9 (show_Alike)

end Go.Proofs.YtocjfdpknfnamaaDoor.PShowTypes
