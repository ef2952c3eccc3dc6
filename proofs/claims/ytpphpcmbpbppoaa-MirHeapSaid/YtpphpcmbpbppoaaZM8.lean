/- Steps toward laws of the middle form (M), merged from several texts (some of them began as the kit's print). No condition. -/
import Derived.Deep.WholeRow
import Derived.Great.Walk
import Derived.Test.YtpphpcmbpbppoaaZM7
section
namespace Go.Proofs.Ytpphpcmbpbppoaa.PMirFuel
open Go.RowKit Go.Proofs.YtpphpcmbpbppoaaW.PrintWords Go.Proofs.YtpphpcmbpbppoaaW.PrintLast Go.Proofs.YtpphpcmbpbppoaaW.PrintMore
attribute [local go_sem] max2_int min2_int max_two min_two max_three min_three max_four min_four   
set_option linter.unusedVariables false
set_option linter.unusedSimpArgs false
mutual
def ferruleref10_Same.j0 : Nat → Bool → Int → Int → List Int → Int → Int → List Int → Option (Bool)
  | 0, _, _, _, _, _, _, _ => none
  | k + 1, x26, x199000, x199001, x199002, x200000, x200001, x200002 => if x26 = true then (some false) else (ferruleref10_Same.l0 k 0 x199000 x199001 x199002 x200000 x200001 x200002)
def ferruleref10_Same.l0 : Nat → Int → Int → Int → List Int → Int → Int → List Int → Option (Bool)
  | 0, _, _, _, _, _, _, _ => none
  | k + 1, x5, x199000, x199001, x199002, x200000, x200001, x200002 => if x5 < (x199002.length : Int) then (if 0 ≤ x5 then (if x5 < (x200002.length : Int) then (if (rd x199002 x5) = (rd x200002 x5) then (ferruleref10_Same.l0 k (wrap64 (x5 + 1)) x199000 x199001 x199002 x200000 x200001 x200002) else (some false)) else (none)) else (none)) else (some true)
end
def ferruleref10_Same.f (k : Nat) (a0_0 : Int) (a0_1 : Int) (l0_2 : List Int) (a1_0 : Int) (a1_1 : Int) (l1_2 : List Int) : Option (Bool) := if a0_0 = a1_0 then (if a0_1 = a1_1 then (ferruleref10_Same.j0 k ((l0_2.length : Int) != (l1_2.length : Int)) a0_0 a0_1 l0_2 a1_0 a1_1 l1_2) else (ferruleref10_Same.j0 k true a0_0 a0_1 l0_2 a1_0 a1_1 l1_2)) else (ferruleref10_Same.j0 k true a0_0 a0_1 l0_2 a1_0 a1_1 l1_2)
theorem ferruleref10_Same.mono_l : ∀ k, (∀ y0 y1 y2 y3 y4 y5 y6, LeO (ferruleref10_Same.j0 k y0 y1 y2 y3 y4 y5 y6) (ferruleref10_Same.j0 (k + 1) y0 y1 y2 y3 y4 y5 y6)) ∧ (∀ y0 y1 y2 y3 y4 y5 y6, LeO (ferruleref10_Same.l0 k y0 y1 y2 y3 y4 y5 y6) (ferruleref10_Same.l0 (k + 1) y0 y1 y2 y3 y4 y5 y6))
  | 0 => ⟨fun _ _ _ _ _ _ _ r h => by simp [ferruleref10_Same.j0] at h, fun _ _ _ _ _ _ _ r h => by simp [ferruleref10_Same.l0] at h⟩
  | k + 1 => by
    obtain ⟨ih0, ih1⟩ := ferruleref10_Same.mono_l k
    refine ⟨?_, ?_⟩
    · intro y0 y1 y2 y3 y4 y5 y6
      unfold ferruleref10_Same.j0
      repeat' first
      | (with_reducible exact ih0 _ _ _ _ _ _ _)
      | (with_reducible exact ih1 _ _ _ _ _ _ _)
      | (with_reducible exact LeO.refl _)
      | (with_reducible exact LeO.none _)
      | (with_reducible refine LeO.ite ?_ ?_)
      | (with_reducible refine LeO.bind ?_ (fun _ => ?_))
      | exact ih0 _ _ _ _ _ _ _
      | exact ih1 _ _ _ _ _ _ _
      | exact LeO.none _
      | refine LeO.ite ?_ ?_
      | refine LeO.bind ?_ (fun _ => ?_)
    · intro y0 y1 y2 y3 y4 y5 y6
      unfold ferruleref10_Same.l0
      repeat' first
      | (with_reducible exact ih0 _ _ _ _ _ _ _)
      | (with_reducible exact ih1 _ _ _ _ _ _ _)
      | (with_reducible exact LeO.refl _)
      | (with_reducible exact LeO.none _)
      | (with_reducible refine LeO.ite ?_ ?_)
      | (with_reducible refine LeO.bind ?_ (fun _ => ?_))
      | exact ih0 _ _ _ _ _ _ _
      | exact ih1 _ _ _ _ _ _ _
      | exact LeO.none _
      | refine LeO.ite ?_ ?_
      | refine LeO.bind ?_ (fun _ => ?_)
theorem ferruleref10_Same.mono : ∀ a0 a1 a2 a3 a4 a5 k, LeO (ferruleref10_Same.f k a0 a1 a2 a3 a4 a5) (ferruleref10_Same.f (k + 1) a0 a1 a2 a3 a4 a5) := by
  intro a0 a1 a2 a3 a4 a5 k
  obtain ⟨ih0, ih1⟩ := ferruleref10_Same.mono_l k
  unfold ferruleref10_Same.f
  repeat' first
      | (with_reducible exact ih0 _ _ _ _ _ _ _)
      | (with_reducible exact ih1 _ _ _ _ _ _ _)
      | (with_reducible exact LeO.refl _)
      | (with_reducible exact LeO.none _)
      | (with_reducible refine LeO.ite ?_ ?_)
      | (with_reducible refine LeO.bind ?_ (fun _ => ?_))
      | exact ih0 _ _ _ _ _ _ _
      | exact ih1 _ _ _ _ _ _ _
      | exact LeO.none _
      | refine LeO.ite ?_ ?_
      | refine LeO.bind ?_ (fun _ => ?_)
set_option maxHeartbeats 8000000 in
set_option maxRecDepth 100000 in
theorem ferruleref10_Same.calls (k : Nat) (a0_0 : Int) (a0_1 : Int) (A0_2 : Option Addr) (c0_2 : Nat) (l0_2 : List Int) (a1_0 : Int) (a1_1 : Int) (A1_2 : Option Addr) (c1_2 : Nat) (l1_2 : List Int) (r : Bool) (w : World) (hr0_2 : Kd.C (Kd.int .i64) w A0_2 l0_2.length l0_2) (hc0_2 : l0_2.length ≤ c0_2) (hr1_2 : Kd.C (Kd.int .i64) w A1_2 l1_2.length l1_2) (hc1_2 : l1_2.length ≤ c1_2) (h : ferruleref10_Same.f k a0_0 a0_1 l0_2 a1_0 a1_1 l1_2 = some r) :
    Calls Try.prog 11 #[.agg #[.int .i64 a0_0, .int .i64 a0_1, .slice A0_2 l0_2.length c0_2], .agg #[.int .i64 a1_0, .int .i64 a1_1, .slice A1_2 l1_2.length c1_2]] w fun e w' => e = .returned (.bool r) ∧ Below w.heap.size w w' := by
  have hu26 := Try.underlying26
  have HR0_2 := Aside0.mk hr0_2
  have HC0_2 := Aside0.mk hc0_2
  clear hr0_2 hc0_2
  have HR1_2 := Aside0.mk hr1_2
  have HC1_2 := Aside0.mk hc1_2
  clear hr1_2 hc1_2
  have HB := Aside0.mk (Below.refl w.heap.size w)
  have H : (if a0_0 = a1_0 then (if a0_1 = a1_1 then (ferruleref10_Same.j0 k ((l0_2.length : Int) != (l1_2.length : Int)) a0_0 a0_1 l0_2 a1_0 a1_1 l1_2) else (ferruleref10_Same.j0 k true a0_0 a0_1 l0_2 a1_0 a1_1 l1_2)) else (ferruleref10_Same.j0 k true a0_0 a0_1 l0_2 a1_0 a1_1 l1_2)) = some r := h
  clear h
  have HC3 := Aside0.mk H
  clear H
  go_enter Try.func11, Try.ntmps11
  go_upto_region 1 with (first | ((with_reducible refine gate_dst (N := 2) rfl ?_); (try (refine gate_guard (by rfl) ?_; dsimp only)); refine box_event ?hg (N := 2) ?hd (cs := #[.int .i64 a0_0, .int .i64 a0_1, .slice A0_2 l0_2.length c0_2]) (t := 26) ?hr ?_; (case hd => rfl); (case hg => rfl); (case hr => first | (go_simp; done) | (go_simp; rfl)); intro gb198 hg w4 hbox hb; have n0_ := Aside0.mk (below_step (by repeat (first | (with_reducible first | exact HB.out | apply below_alloc | apply pw_below_drewN | apply below_drew1) | exact HB.out)) hb); have n1_ := Aside0.mk (hbox); have n2_ := Aside0.mk ((by rw [hg]; exact (below_size (by repeat (first | (with_reducible first | exact HB.out | apply below_alloc | apply pw_below_drewN | apply below_drew1) | exact HB.out))) : w.heap.size ≤ gb198)); have n3_ := Aside0.mk ((by rw [hg]; exact (below_size (by repeat (first | (with_reducible first | exact HB.out | apply below_alloc | apply pw_below_drewN | apply below_drew1) | exact HB.out))) : w.heap.size ≤ gb198)); clear HB; have HB := n0_; have BK198 := n1_; have GW198 := n2_; have GE198 := n3_; clear n0_ n1_ n2_ n3_; clear hb hbox hg) | ((with_reducible refine gate_dst (N := 3) rfl ?_); (try (refine gate_guard (by rfl) ?_; dsimp only)); refine box_event ?hg (N := 3) ?hd (cs := #[.int .i64 a1_0, .int .i64 a1_1, .slice A1_2 l1_2.length c1_2]) (t := 26) ?hr ?_; (case hd => rfl); (case hg => rfl); (case hr => first | (go_simp; done) | (go_simp; rfl)); intro gb199 hg w5 hbox hb; have n0_ := Aside0.mk (blk_below (g := gb198) (o := .cells #[.int .i64 a0_0, .int .i64 a0_1, .slice A0_2 l0_2.length c0_2] 26 (0, 0)) (by (with_reducible repeat (first | refine blk_drewN ?_ _ | refine blk_drew ?_ | refine blk_alloc ?_ _)); exact BK198.out) hb); have n1_ := Aside0.mk (below_step (by repeat (first | (with_reducible first | exact HB.out | apply below_alloc | apply pw_below_drewN | apply below_drew1 | refine below_set ?_ GE198.out) | exact HB.out)) hb); have n2_ := Aside0.mk (hbox); have n3_ := Aside0.mk ((by rw [hg]; exact (below_size (by repeat (first | (with_reducible first | exact HB.out | apply below_alloc | apply pw_below_drewN | apply below_drew1 | refine below_set ?_ GE198.out) | exact HB.out))) : w.heap.size ≤ gb199)); have n4_ := Aside0.mk ((by rw [hg]; exact (below_size (by repeat (first | (with_reducible first | exact HB.out | apply below_alloc | apply pw_below_drewN | apply below_drew1 | refine below_set ?_ GE198.out) | exact HB.out))) : w.heap.size ≤ gb199)); have n5_ := Aside0.mk ((by rw [hg]; exact Nat.ne_of_lt (blk_lt (g := gb198) (o := .cells #[.int .i64 a0_0, .int .i64 a0_1, .slice A0_2 l0_2.length c0_2] 26 (0, 0)) (by (with_reducible repeat (first | refine blk_drewN ?_ _ | refine blk_drew ?_ | refine blk_alloc ?_ _)); exact BK198.out)) : gb198 ≠ gb199)); have n6_ := Aside0.mk ((by rw [hg]; exact Nat.ne_of_gt (blk_lt (g := gb198) (o := .cells #[.int .i64 a0_0, .int .i64 a0_1, .slice A0_2 l0_2.length c0_2] 26 (0, 0)) (by (with_reducible repeat (first | refine blk_drewN ?_ _ | refine blk_drew ?_ | refine blk_alloc ?_ _)); exact BK198.out)) : gb199 ≠ gb198)); clear BK198; clear HB; have BK198 := n0_; have HB := n1_; have BK199 := n2_; have GW199 := n3_; have GE199 := n4_; have NB198_199 := n5_; have NB199_198 := n6_; clear n0_ n1_ n2_ n3_ n4_ n5_ n6_; clear hb hbox hg))
  repeat (go_quiet (first | ((with_reducible refine gate_dst (N := 2) rfl ?_); (try (refine gate_guard (by rfl) ?_; dsimp only)); refine box_event ?hg (N := 2) ?hd (cs := #[.int .i64 a0_0, .int .i64 a0_1, .slice A0_2 l0_2.length c0_2]) (t := 26) ?hr ?_; (case hd => rfl); (case hg => rfl); (case hr => first | (go_simp; done) | (go_simp; rfl)); intro gb198 hg w4 hbox hb; have n0_ := Aside0.mk (below_step (by repeat (first | (with_reducible first | exact HB.out | apply below_alloc | apply pw_below_drewN | apply below_drew1) | exact HB.out)) hb); have n1_ := Aside0.mk (hbox); have n2_ := Aside0.mk ((by rw [hg]; exact (below_size (by repeat (first | (with_reducible first | exact HB.out | apply below_alloc | apply pw_below_drewN | apply below_drew1) | exact HB.out))) : w.heap.size ≤ gb198)); have n3_ := Aside0.mk ((by rw [hg]; exact (below_size (by repeat (first | (with_reducible first | exact HB.out | apply below_alloc | apply pw_below_drewN | apply below_drew1) | exact HB.out))) : w.heap.size ≤ gb198)); clear HB; have HB := n0_; have BK198 := n1_; have GW198 := n2_; have GE198 := n3_; clear n0_ n1_ n2_ n3_; clear hb hbox hg) | ((with_reducible refine gate_dst (N := 3) rfl ?_); (try (refine gate_guard (by rfl) ?_; dsimp only)); refine box_event ?hg (N := 3) ?hd (cs := #[.int .i64 a1_0, .int .i64 a1_1, .slice A1_2 l1_2.length c1_2]) (t := 26) ?hr ?_; (case hd => rfl); (case hg => rfl); (case hr => first | (go_simp; done) | (go_simp; rfl)); intro gb199 hg w5 hbox hb; have n0_ := Aside0.mk (blk_below (g := gb198) (o := .cells #[.int .i64 a0_0, .int .i64 a0_1, .slice A0_2 l0_2.length c0_2] 26 (0, 0)) (by (with_reducible repeat (first | refine blk_drewN ?_ _ | refine blk_drew ?_ | refine blk_alloc ?_ _)); exact BK198.out) hb); have n1_ := Aside0.mk (below_step (by repeat (first | (with_reducible first | exact HB.out | apply below_alloc | apply pw_below_drewN | apply below_drew1 | refine below_set ?_ GE198.out) | exact HB.out)) hb); have n2_ := Aside0.mk (hbox); have n3_ := Aside0.mk ((by rw [hg]; exact (below_size (by repeat (first | (with_reducible first | exact HB.out | apply below_alloc | apply pw_below_drewN | apply below_drew1 | refine below_set ?_ GE198.out) | exact HB.out))) : w.heap.size ≤ gb199)); have n4_ := Aside0.mk ((by rw [hg]; exact (below_size (by repeat (first | (with_reducible first | exact HB.out | apply below_alloc | apply pw_below_drewN | apply below_drew1 | refine below_set ?_ GE198.out) | exact HB.out))) : w.heap.size ≤ gb199)); have n5_ := Aside0.mk ((by rw [hg]; exact Nat.ne_of_lt (blk_lt (g := gb198) (o := .cells #[.int .i64 a0_0, .int .i64 a0_1, .slice A0_2 l0_2.length c0_2] 26 (0, 0)) (by (with_reducible repeat (first | refine blk_drewN ?_ _ | refine blk_drew ?_ | refine blk_alloc ?_ _)); exact BK198.out)) : gb198 ≠ gb199)); have n6_ := Aside0.mk ((by rw [hg]; exact Nat.ne_of_gt (blk_lt (g := gb198) (o := .cells #[.int .i64 a0_0, .int .i64 a0_1, .slice A0_2 l0_2.length c0_2] 26 (0, 0)) (by (with_reducible repeat (first | refine blk_drewN ?_ _ | refine blk_drew ?_ | refine blk_alloc ?_ _)); exact BK198.out)) : gb199 ≠ gb198)); clear BK198; clear HB; have BK198 := n0_; have HB := n1_; have BK199 := n2_; have GW199 := n3_; have GE199 := n4_; have NB198_199 := n5_; have NB199_198 := n6_; clear n0_ n1_ n2_ n3_ n4_ n5_ n6_; clear hb hbox hg)); go_upto_region 1 with (first | ((with_reducible refine gate_dst (N := 2) rfl ?_); (try (refine gate_guard (by rfl) ?_; dsimp only)); refine box_event ?hg (N := 2) ?hd (cs := #[.int .i64 a0_0, .int .i64 a0_1, .slice A0_2 l0_2.length c0_2]) (t := 26) ?hr ?_; (case hd => rfl); (case hg => rfl); (case hr => first | (go_simp; done) | (go_simp; rfl)); intro gb198 hg w4 hbox hb; have n0_ := Aside0.mk (below_step (by repeat (first | (with_reducible first | exact HB.out | apply below_alloc | apply pw_below_drewN | apply below_drew1) | exact HB.out)) hb); have n1_ := Aside0.mk (hbox); have n2_ := Aside0.mk ((by rw [hg]; exact (below_size (by repeat (first | (with_reducible first | exact HB.out | apply below_alloc | apply pw_below_drewN | apply below_drew1) | exact HB.out))) : w.heap.size ≤ gb198)); have n3_ := Aside0.mk ((by rw [hg]; exact (below_size (by repeat (first | (with_reducible first | exact HB.out | apply below_alloc | apply pw_below_drewN | apply below_drew1) | exact HB.out))) : w.heap.size ≤ gb198)); clear HB; have HB := n0_; have BK198 := n1_; have GW198 := n2_; have GE198 := n3_; clear n0_ n1_ n2_ n3_; clear hb hbox hg) | ((with_reducible refine gate_dst (N := 3) rfl ?_); (try (refine gate_guard (by rfl) ?_; dsimp only)); refine box_event ?hg (N := 3) ?hd (cs := #[.int .i64 a1_0, .int .i64 a1_1, .slice A1_2 l1_2.length c1_2]) (t := 26) ?hr ?_; (case hd => rfl); (case hg => rfl); (case hr => first | (go_simp; done) | (go_simp; rfl)); intro gb199 hg w5 hbox hb; have n0_ := Aside0.mk (blk_below (g := gb198) (o := .cells #[.int .i64 a0_0, .int .i64 a0_1, .slice A0_2 l0_2.length c0_2] 26 (0, 0)) (by (with_reducible repeat (first | refine blk_drewN ?_ _ | refine blk_drew ?_ | refine blk_alloc ?_ _)); exact BK198.out) hb); have n1_ := Aside0.mk (below_step (by repeat (first | (with_reducible first | exact HB.out | apply below_alloc | apply pw_below_drewN | apply below_drew1 | refine below_set ?_ GE198.out) | exact HB.out)) hb); have n2_ := Aside0.mk (hbox); have n3_ := Aside0.mk ((by rw [hg]; exact (below_size (by repeat (first | (with_reducible first | exact HB.out | apply below_alloc | apply pw_below_drewN | apply below_drew1 | refine below_set ?_ GE198.out) | exact HB.out))) : w.heap.size ≤ gb199)); have n4_ := Aside0.mk ((by rw [hg]; exact (below_size (by repeat (first | (with_reducible first | exact HB.out | apply below_alloc | apply pw_below_drewN | apply below_drew1 | refine below_set ?_ GE198.out) | exact HB.out))) : w.heap.size ≤ gb199)); have n5_ := Aside0.mk ((by rw [hg]; exact Nat.ne_of_lt (blk_lt (g := gb198) (o := .cells #[.int .i64 a0_0, .int .i64 a0_1, .slice A0_2 l0_2.length c0_2] 26 (0, 0)) (by (with_reducible repeat (first | refine blk_drewN ?_ _ | refine blk_drew ?_ | refine blk_alloc ?_ _)); exact BK198.out)) : gb198 ≠ gb199)); have n6_ := Aside0.mk ((by rw [hg]; exact Nat.ne_of_gt (blk_lt (g := gb198) (o := .cells #[.int .i64 a0_0, .int .i64 a0_1, .slice A0_2 l0_2.length c0_2] 26 (0, 0)) (by (with_reducible repeat (first | refine blk_drewN ?_ _ | refine blk_drew ?_ | refine blk_alloc ?_ _)); exact BK198.out)) : gb199 ≠ gb198)); clear BK198; clear HB; have BK198 := n0_; have HB := n1_; have BK199 := n2_; have GW199 := n3_; have GE199 := n4_; have NB198_199 := n5_; have NB199_198 := n6_; clear n0_ n1_ n2_ n3_ n4_ n5_ n6_; clear hb hbox hg)))
  (try simp only [Act.put, List.setIfInBounds_toArray, List.set_cons_zero, List.set_cons_succ])
  go_cut [26] (fun v26 wc => ∃ (kq : Nat) (x26_2 : Bool), v26 = .bool x26_2 ∧ Aside0 (ferruleref10_Same.j0 kq x26_2 a0_0 a0_1 l0_2 a1_0 a1_1 l1_2 = some r) ∧ Aside0 (kq ≤ k) ∧ Aside0 (wc.heap[gb198]? = some (.cells #[.int .i64 a0_0, .int .i64 a0_1, (.slice A0_2 l0_2.length c0_2)] 26 (0, 0))) ∧ Aside0 (wc.heap[gb199]? = some (.cells #[.int .i64 a1_0, .int .i64 a1_1, (.slice A1_2 l1_2.length c1_2)] 26 (0, 0))) ∧ Aside0 (Below w.heap.size w wc))
  case first =>
    have H := HC3.out
    clear HC3
    by_cases c6 : a0_0 = a1_0
    · rw [if_pos c6] at H
      have c6b0 : (a0_0 == a1_0) = true := beq_iff_eq.mpr c6
      have c6b1 : (a0_0 != a1_0) = false := bne_eq_false_iff_eq.mpr c6
      clear c6
      (first | rw [c6b0] | (simp only [i64_w, i32_w]; rw [c6b0]) | skip)
      by_cases c7 : a0_1 = a1_1
      · rw [if_pos c7] at H
        have c7b0 : (a0_1 == a1_1) = true := beq_iff_eq.mpr c7
        have c7b1 : (a0_1 != a1_1) = false := bne_eq_false_iff_eq.mpr c7
        clear c7
        have H' := Aside0.mk H
        clear H
        have hnb8 := NB198_199.out
        have hnc8 := NB199_198.out
        have hcz9_0 : w5.cell? ⟨gb198, 0, none⟩ = some (.int .i64 a0_0) := (blk_cell BK198.out 0).trans rfl
        have hcz9_1 : w5.cell? ⟨gb198, 1, none⟩ = some (.int .i64 a0_1) := (blk_cell BK198.out 1).trans rfl
        have hcz9_2 : w5.cell? ⟨gb198, 2, none⟩ = some (.slice A0_2 l0_2.length c0_2) := (blk_cell BK198.out 2).trans rfl
        have hfz9_0 := blk_frozen BK198.out 0
        have hfz9_1 := blk_frozen BK198.out 1
        have hfz9_2 := blk_frozen BK198.out 2
        have hcz10_0 : w5.cell? ⟨gb199, 0, none⟩ = some (.int .i64 a1_0) := (blk_cell BK199.out 0).trans rfl
        have hcz10_1 : w5.cell? ⟨gb199, 1, none⟩ = some (.int .i64 a1_1) := (blk_cell BK199.out 1).trans rfl
        have hcz10_2 : w5.cell? ⟨gb199, 2, none⟩ = some (.slice A1_2 l1_2.length c1_2) := (blk_cell BK199.out 2).trans rfl
        have hfz10_0 := blk_frozen BK199.out 0
        have hfz10_1 := blk_frozen BK199.out 1
        have hfz10_2 := blk_frozen BK199.out 2
        go_wp2
        repeat (go_quiet (fail); try go_wp2)
        go_meet
        case rel => exact ⟨_, (((l0_2.length : Int) != (l1_2.length : Int))), (by first | rfl | (simp; done) | (simp [*]; done)), H', ⟨by first | omega | exact Nat.le_refl _⟩, ⟨by (with_reducible repeat (first | refine blk_drewN ?_ _ | refine blk_drew ?_ | refine blk_alloc ?_ _)); exact BK198.out⟩, ⟨by (with_reducible repeat (first | refine blk_drewN ?_ _ | refine blk_drew ?_ | refine blk_alloc ?_ _)); exact BK199.out⟩, ⟨by repeat (first | (with_reducible first | exact HB.out | apply below_alloc | apply pw_below_drewN | apply below_drew1 | refine below_set ?_ GE198.out | refine below_set ?_ GE199.out) | exact HB.out)⟩⟩
      · rw [if_neg c7] at H
        have c7b0 : (a0_1 == a1_1) = false := beq_eq_false_iff_ne.mpr c7
        have c7b1 : (a0_1 != a1_1) = true := bne_iff_ne.mpr c7
        have H' := Aside0.mk H
        clear H
        have hnb11 := NB198_199.out
        have hnc11 := NB199_198.out
        have hcz12_0 : w5.cell? ⟨gb198, 0, none⟩ = some (.int .i64 a0_0) := (blk_cell BK198.out 0).trans rfl
        have hcz12_1 : w5.cell? ⟨gb198, 1, none⟩ = some (.int .i64 a0_1) := (blk_cell BK198.out 1).trans rfl
        have hcz12_2 : w5.cell? ⟨gb198, 2, none⟩ = some (.slice A0_2 l0_2.length c0_2) := (blk_cell BK198.out 2).trans rfl
        have hfz12_0 := blk_frozen BK198.out 0
        have hfz12_1 := blk_frozen BK198.out 1
        have hfz12_2 := blk_frozen BK198.out 2
        have hcz13_0 : w5.cell? ⟨gb199, 0, none⟩ = some (.int .i64 a1_0) := (blk_cell BK199.out 0).trans rfl
        have hcz13_1 : w5.cell? ⟨gb199, 1, none⟩ = some (.int .i64 a1_1) := (blk_cell BK199.out 1).trans rfl
        have hcz13_2 : w5.cell? ⟨gb199, 2, none⟩ = some (.slice A1_2 l1_2.length c1_2) := (blk_cell BK199.out 2).trans rfl
        have hfz13_0 := blk_frozen BK199.out 0
        have hfz13_1 := blk_frozen BK199.out 1
        have hfz13_2 := blk_frozen BK199.out 2
        go_wp2
        repeat (go_quiet (fail); try go_wp2)
        go_meet
        case rel => exact ⟨_, (true), (by first | rfl | (simp; done) | (simp [*]; done)), H', ⟨by first | omega | exact Nat.le_refl _⟩, ⟨by (with_reducible repeat (first | refine blk_drewN ?_ _ | refine blk_drew ?_ | refine blk_alloc ?_ _)); exact BK198.out⟩, ⟨by (with_reducible repeat (first | refine blk_drewN ?_ _ | refine blk_drew ?_ | refine blk_alloc ?_ _)); exact BK199.out⟩, ⟨by repeat (first | (with_reducible first | exact HB.out | apply below_alloc | apply pw_below_drewN | apply below_drew1 | refine below_set ?_ GE198.out | refine below_set ?_ GE199.out) | exact HB.out)⟩⟩
    · rw [if_neg c6] at H
      have c6b0 : (a0_0 == a1_0) = false := beq_eq_false_iff_ne.mpr c6
      have c6b1 : (a0_0 != a1_0) = true := bne_iff_ne.mpr c6
      (first | rw [c6b0] | (simp only [i64_w, i32_w]; rw [c6b0]) | skip)
      have H' := Aside0.mk H
      clear H
      have hnb14 := NB198_199.out
      have hnc14 := NB199_198.out
      have hcz15_0 : w5.cell? ⟨gb198, 0, none⟩ = some (.int .i64 a0_0) := (blk_cell BK198.out 0).trans rfl
      have hcz15_1 : w5.cell? ⟨gb198, 1, none⟩ = some (.int .i64 a0_1) := (blk_cell BK198.out 1).trans rfl
      have hcz15_2 : w5.cell? ⟨gb198, 2, none⟩ = some (.slice A0_2 l0_2.length c0_2) := (blk_cell BK198.out 2).trans rfl
      have hfz15_0 := blk_frozen BK198.out 0
      have hfz15_1 := blk_frozen BK198.out 1
      have hfz15_2 := blk_frozen BK198.out 2
      have hcz16_0 : w5.cell? ⟨gb199, 0, none⟩ = some (.int .i64 a1_0) := (blk_cell BK199.out 0).trans rfl
      have hcz16_1 : w5.cell? ⟨gb199, 1, none⟩ = some (.int .i64 a1_1) := (blk_cell BK199.out 1).trans rfl
      have hcz16_2 : w5.cell? ⟨gb199, 2, none⟩ = some (.slice A1_2 l1_2.length c1_2) := (blk_cell BK199.out 2).trans rfl
      have hfz16_0 := blk_frozen BK199.out 0
      have hfz16_1 := blk_frozen BK199.out 1
      have hfz16_2 := blk_frozen BK199.out 2
      go_wp2
      repeat (go_quiet (fail); try go_wp2)
      go_meet
      case rel => exact ⟨_, (true), (by first | rfl | (simp; done) | (simp [*]; done)), H', ⟨by first | omega | exact Nat.le_refl _⟩, ⟨by (with_reducible repeat (first | refine blk_drewN ?_ _ | refine blk_drew ?_ | refine blk_alloc ?_ _)); exact BK198.out⟩, ⟨by (with_reducible repeat (first | refine blk_drewN ?_ _ | refine blk_drew ?_ | refine blk_alloc ?_ _)); exact BK199.out⟩, ⟨by repeat (first | (with_reducible first | exact HB.out | apply below_alloc | apply pw_below_drewN | apply below_drew1 | refine below_set ?_ GE198.out | refine below_set ?_ GE199.out) | exact HB.out)⟩⟩
  case rest =>
    clear HC3
    try clear c1
    try clear p2
    try clear c6
    try clear c6b0
    try clear c6b1
    try clear c7
    try clear c7b0
    try clear c7b1
    try clear c8
    try clear c11
    try clear c14
    try clear hcz10_0
    try clear hcz10_1
    try clear hcz10_2
    try clear hcz12_0
    try clear hcz12_1
    try clear hcz12_2
    try clear hcz13_0
    try clear hcz13_1
    try clear hcz13_2
    try clear hcz15_0
    try clear hcz15_1
    try clear hcz15_2
    try clear hcz16_0
    try clear hcz16_1
    try clear hcz16_2
    try clear hcz9_0
    try clear hcz9_1
    try clear hcz9_2
    try clear hfz10_0
    try clear hfz10_1
    try clear hfz10_2
    try clear hfz12_0
    try clear hfz12_1
    try clear hfz12_2
    try clear hfz13_0
    try clear hfz13_1
    try clear hfz13_2
    try clear hfz15_0
    try clear hfz15_1
    try clear hfz15_2
    try clear hfz16_0
    try clear hfz16_1
    try clear hfz16_2
    try clear hfz9_0
    try clear hfz9_1
    try clear hfz9_2
    obtain ⟨kq, x26_2, rfl, HA, HJ2, BK198, BK199, HB⟩ := hcut
    cases kq with
    | zero => exact absurd HA.out (by simp [ferruleref10_Same.j0])
    | succ kj2 =>
      have H := HA.out
      clear HA
      simp only [ferruleref10_Same.j0] at H
      by_cases c17 : x26_2 = true
      · subst c17
        have H1 : (some false) = some r := by rw [if_pos rfl] at H; exact H
        clear H
        have H := H1
        clear H1
        obtain rfl := Option.some.inj H
        go_wp2
        repeat (go_quiet (fail); try go_wp2)
        go_ret
        exact ⟨by first | rfl | (simp [errW_none, errW_some] <;> rfl) | (simp [*, errW_none, errW_some] <;> rfl), by repeat (first | (with_reducible first | exact HB.out | apply below_alloc | apply pw_below_drewN | apply below_drew1 | refine below_set ?_ GE198.out | refine below_set ?_ GE199.out) | exact HB.out)⟩
      · replace c17 := Bool.eq_false_iff.mpr c17
        subst c17
        have H1 : (ferruleref10_Same.l0 kj2 0 a0_0 a0_1 l0_2 a1_0 a1_1 l1_2) = some r := by rw [if_neg (show ¬ (false = true) by decide)] at H; exact H
        clear H
        have H := H1
        clear H1
        have H' := Aside0.mk H
        clear H
        go_wp2
        repeat (go_quiet (fail); try go_wp2)
        go_loopg [5] kj2 (fun kq v5 w' => ∃ (x5_2 : Int), v5 = .int .i64 x5_2 ∧ Aside0 (ferruleref10_Same.l0 kq x5_2 a0_0 a0_1 l0_2 a1_0 a1_1 l1_2 = some r) ∧ Aside0 (kq ≤ kj2) ∧ Aside0 (w'.heap[gb198]? = some (.cells #[.int .i64 a0_0, .int .i64 a0_1, (.slice A0_2 l0_2.length c0_2)] 26 (0, 0))) ∧ Aside0 (w'.heap[gb199]? = some (.cells #[.int .i64 a1_0, .int .i64 a1_1, (.slice A1_2 l1_2.length c1_2)] 26 (0, 0))) ∧ Aside0 (Below w.heap.size w w'))
        case atStart => exact ⟨(0), (by first | rfl | (simp; done) | (simp [*]; done)), H', ⟨Nat.le_refl _⟩, ⟨by (with_reducible repeat (first | refine blk_drewN ?_ _ | refine blk_drew ?_ | refine blk_alloc ?_ _)); exact BK198.out⟩, ⟨by (with_reducible repeat (first | refine blk_drewN ?_ _ | refine blk_drew ?_ | refine blk_alloc ?_ _)); exact BK199.out⟩, ⟨by repeat (first | (with_reducible first | exact HB.out | apply below_alloc | apply pw_below_drewN | apply below_drew1 | refine below_set ?_ GE198.out | refine below_set ?_ GE199.out) | exact HB.out)⟩⟩
        case round =>
          clear H'
          try clear c1
          try clear p2
          try clear c6
          try clear c6b0
          try clear c6b1
          try clear c7
          try clear c7b0
          try clear c7b1
          try clear c8
          try clear c11
          try clear c14
          try clear c17
          try clear hcz10_0
          try clear hcz10_1
          try clear hcz10_2
          try clear hcz12_0
          try clear hcz12_1
          try clear hcz12_2
          try clear hcz13_0
          try clear hcz13_1
          try clear hcz13_2
          try clear hcz15_0
          try clear hcz15_1
          try clear hcz15_2
          try clear hcz16_0
          try clear hcz16_1
          try clear hcz16_2
          try clear hcz9_0
          try clear hcz9_1
          try clear hcz9_2
          try clear hfz10_0
          try clear hfz10_1
          try clear hfz10_2
          try clear hfz12_0
          try clear hfz12_1
          try clear hfz12_2
          try clear hfz13_0
          try clear hfz13_1
          try clear hfz13_2
          try clear hfz15_0
          try clear hfz15_1
          try clear hfz15_2
          try clear hfz16_0
          try clear hfz16_1
          try clear hfz16_2
          try clear hfz9_0
          try clear hfz9_1
          try clear hfz9_2
          try clear p2
          obtain ⟨x5_2, rfl, HA, HK2, BK198, BK199, HB⟩ := hrel
          cases gk with
          | zero => exact absurd HA.out (by simp [ferruleref10_Same.l0])
          | succ k2 =>
            have H := HA.out
            clear HA
            simp only [ferruleref10_Same.l0] at H
            by_cases c18 : x5_2 < (l0_2.length : Int)
            · rw [if_pos c18] at H
              have c18b0 : decide (x5_2 < (l0_2.length : Int)) = true := decide_eq_true c18
              clear c18
              by_cases c19 : 0 ≤ x5_2
              · rw [if_pos c19] at H
                have c19b0 : decide (0 ≤ x5_2) = true := decide_eq_true c19
                clear c19
                by_cases c20 : x5_2 < (l1_2.length : Int)
                · rw [if_pos c20] at H
                  have c20b0 : decide (x5_2 < (l1_2.length : Int)) = true := decide_eq_true c20
                  clear c20
                  by_cases c21 : (rd l0_2 x5_2) = (rd l1_2 x5_2)
                  · rw [if_pos c21] at H
                    have c21b0 : ((rd l0_2 x5_2) == (rd l1_2 x5_2)) = true := beq_iff_eq.mpr c21
                    have c21b1 : ((rd l0_2 x5_2) != (rd l1_2 x5_2)) = false := bne_eq_false_iff_eq.mpr c21
                    clear c21
                    have H' := Aside0.mk H
                    clear H
                    have hnb22 := NB198_199.out
                    have hnc22 := NB199_198.out
                    have hcz23_0 : wr.cell? ⟨gb198, 0, none⟩ = some (.int .i64 a0_0) := (blk_cell BK198.out 0).trans rfl
                    have hcz23_1 : wr.cell? ⟨gb198, 1, none⟩ = some (.int .i64 a0_1) := (blk_cell BK198.out 1).trans rfl
                    have hcz23_2 : wr.cell? ⟨gb198, 2, none⟩ = some (.slice A0_2 l0_2.length c0_2) := (blk_cell BK198.out 2).trans rfl
                    have hfz23_0 := blk_frozen BK198.out 0
                    have hfz23_1 := blk_frozen BK198.out 1
                    have hfz23_2 := blk_frozen BK198.out 2
                    have p200 : 0 ≤ (x5_2 : Int) := of_decide_eq_true (by first | (with_reducible assumption) | assumption)
                    have q200 : x5_2 < (l0_2.length : Int) := of_decide_eq_true (by first | (with_reducible assumption) | assumption)
                    obtain ⟨ad200, e200, hx200_0⟩ := Kd.at_int HR0_2.out x5_2 p200 q200
                    cases e200
                    replace hx200_0 := (HB.out.cell (World.block_lt_of_cell? w _ hx200_0)).trans hx200_0
                    replace p200 := eq_true p200
                    replace q200 := eq_true q200
                    have hcz24_0 : wr.cell? ⟨gb199, 0, none⟩ = some (.int .i64 a1_0) := (blk_cell BK199.out 0).trans rfl
                    have hcz24_1 : wr.cell? ⟨gb199, 1, none⟩ = some (.int .i64 a1_1) := (blk_cell BK199.out 1).trans rfl
                    have hcz24_2 : wr.cell? ⟨gb199, 2, none⟩ = some (.slice A1_2 l1_2.length c1_2) := (blk_cell BK199.out 2).trans rfl
                    have hfz24_0 := blk_frozen BK199.out 0
                    have hfz24_1 := blk_frozen BK199.out 1
                    have hfz24_2 := blk_frozen BK199.out 2
                    have p201 : 0 ≤ (x5_2 : Int) := of_decide_eq_true (by first | (with_reducible assumption) | assumption)
                    have q201 : x5_2 < (l1_2.length : Int) := of_decide_eq_true (by first | (with_reducible assumption) | assumption)
                    obtain ⟨ad201, e201, hx201_0⟩ := Kd.at_int HR1_2.out x5_2 p201 q201
                    cases e201
                    replace hx201_0 := (HB.out.cell (World.block_lt_of_cell? w _ hx201_0)).trans hx201_0
                    replace p201 := eq_true p201
                    replace q201 := eq_true q201
                    go_wp2
                    repeat (go_quiet (fail); try go_wp2)
                    go_roundg k2
                    case measure => have := HJ2.out; have := HK2.out; omega
                    case rel => exact ⟨(wrap64 (x5_2 + 1)), (by first | rfl | (simp; done) | (simp [*]; done)), H', ⟨by have := HJ2.out; have := HK2.out; omega⟩, ⟨by (with_reducible repeat (first | refine blk_drewN ?_ _ | refine blk_drew ?_ | refine blk_alloc ?_ _)); exact BK198.out⟩, ⟨by (with_reducible repeat (first | refine blk_drewN ?_ _ | refine blk_drew ?_ | refine blk_alloc ?_ _)); exact BK199.out⟩, ⟨by repeat (first | (with_reducible first | exact HB.out | apply below_alloc | apply pw_below_drewN | apply below_drew1 | refine below_set ?_ GE198.out | refine below_set ?_ GE199.out) | exact HB.out)⟩⟩
                  · rw [if_neg c21] at H
                    have c21b0 : ((rd l0_2 x5_2) == (rd l1_2 x5_2)) = false := beq_eq_false_iff_ne.mpr c21
                    have c21b1 : ((rd l0_2 x5_2) != (rd l1_2 x5_2)) = true := bne_iff_ne.mpr c21
                    obtain rfl := Option.some.inj H
                    have hnb25 := NB198_199.out
                    have hnc25 := NB199_198.out
                    have hcz26_0 : wr.cell? ⟨gb198, 0, none⟩ = some (.int .i64 a0_0) := (blk_cell BK198.out 0).trans rfl
                    have hcz26_1 : wr.cell? ⟨gb198, 1, none⟩ = some (.int .i64 a0_1) := (blk_cell BK198.out 1).trans rfl
                    have hcz26_2 : wr.cell? ⟨gb198, 2, none⟩ = some (.slice A0_2 l0_2.length c0_2) := (blk_cell BK198.out 2).trans rfl
                    have hfz26_0 := blk_frozen BK198.out 0
                    have hfz26_1 := blk_frozen BK198.out 1
                    have hfz26_2 := blk_frozen BK198.out 2
                    have p200 : 0 ≤ (x5_2 : Int) := of_decide_eq_true (by first | (with_reducible assumption) | assumption)
                    have q200 : x5_2 < (l0_2.length : Int) := of_decide_eq_true (by first | (with_reducible assumption) | assumption)
                    obtain ⟨ad200, e200, hx200_0⟩ := Kd.at_int HR0_2.out x5_2 p200 q200
                    cases e200
                    replace hx200_0 := (HB.out.cell (World.block_lt_of_cell? w _ hx200_0)).trans hx200_0
                    replace p200 := eq_true p200
                    replace q200 := eq_true q200
                    have hcz27_0 : wr.cell? ⟨gb199, 0, none⟩ = some (.int .i64 a1_0) := (blk_cell BK199.out 0).trans rfl
                    have hcz27_1 : wr.cell? ⟨gb199, 1, none⟩ = some (.int .i64 a1_1) := (blk_cell BK199.out 1).trans rfl
                    have hcz27_2 : wr.cell? ⟨gb199, 2, none⟩ = some (.slice A1_2 l1_2.length c1_2) := (blk_cell BK199.out 2).trans rfl
                    have hfz27_0 := blk_frozen BK199.out 0
                    have hfz27_1 := blk_frozen BK199.out 1
                    have hfz27_2 := blk_frozen BK199.out 2
                    have p201 : 0 ≤ (x5_2 : Int) := of_decide_eq_true (by first | (with_reducible assumption) | assumption)
                    have q201 : x5_2 < (l1_2.length : Int) := of_decide_eq_true (by first | (with_reducible assumption) | assumption)
                    obtain ⟨ad201, e201, hx201_0⟩ := Kd.at_int HR1_2.out x5_2 p201 q201
                    cases e201
                    replace hx201_0 := (HB.out.cell (World.block_lt_of_cell? w _ hx201_0)).trans hx201_0
                    replace p201 := eq_true p201
                    replace q201 := eq_true q201
                    go_wp2
                    repeat (go_quiet (fail); try go_wp2)
                    go_ret
                    exact ⟨by first | rfl | (simp [errW_none, errW_some] <;> rfl) | (simp [*, errW_none, errW_some] <;> rfl), by repeat (first | (with_reducible first | exact HB.out | apply below_alloc | apply pw_below_drewN | apply below_drew1 | refine below_set ?_ GE198.out | refine below_set ?_ GE199.out) | exact HB.out)⟩
                · rw [if_neg c20] at H
                  exact absurd H (by simp)
              · rw [if_neg c19] at H
                exact absurd H (by simp)
            · rw [if_neg c18] at H
              have c18b0 : decide (x5_2 < (l0_2.length : Int)) = false := decide_eq_false c18
              clear c18
              obtain rfl := Option.some.inj H
              have hnb28 := NB198_199.out
              have hnc28 := NB199_198.out
              have hcz29_0 : wr.cell? ⟨gb198, 0, none⟩ = some (.int .i64 a0_0) := (blk_cell BK198.out 0).trans rfl
              have hcz29_1 : wr.cell? ⟨gb198, 1, none⟩ = some (.int .i64 a0_1) := (blk_cell BK198.out 1).trans rfl
              have hcz29_2 : wr.cell? ⟨gb198, 2, none⟩ = some (.slice A0_2 l0_2.length c0_2) := (blk_cell BK198.out 2).trans rfl
              have hfz29_0 := blk_frozen BK198.out 0
              have hfz29_1 := blk_frozen BK198.out 1
              have hfz29_2 := blk_frozen BK198.out 2
              go_wp2
              repeat (go_quiet (fail); try go_wp2)
              go_ret
              exact ⟨by first | rfl | (simp [errW_none, errW_some] <;> rfl) | (simp [*, errW_none, errW_some] <;> rfl), by repeat (first | (with_reducible first | exact HB.out | apply below_alloc | apply pw_below_drewN | apply below_drew1 | refine below_set ?_ GE198.out | refine below_set ?_ GE199.out) | exact HB.out)⟩
def ferrulelaw12_local.f (a0 : Int) : Option (Bool × Int) := some (false, a0)
set_option maxHeartbeats 8000000 in
set_option maxRecDepth 100000 in
theorem ferrulelaw12_local.calls (a0 : Int) (r1 : Bool) (r2 : Int) (w : World) (h : ferrulelaw12_local.f a0 = some (r1, r2)) :
    Calls Try.prog 14 #[.int .i64 a0] w fun e w' => e = .returned (.agg #[.bool r1, .int .i64 r2]) ∧ Below w.heap.size w w' := by
  have hu30 := Try.underlying30
  have HB := Aside0.mk (Below.refl w.heap.size w)
  have H : (some (false, a0)) = some (r1, r2) := h
  clear h
  simp only [Option.some.injEq, Prod.mk.injEq] at H
  obtain ⟨rfl, rfl⟩ := H
  go_enter Try.func14, Try.ntmps14
  go_wp2_with (first | ((with_reducible refine gate_dst (N := 2) rfl ?_); refine box_event ?hg (N := 2) ?hd (cs := #[.bool false, .int .i64 0]) (t := 30) ?hr ?_; (case hd => rfl); (case hg => rfl); (case hr => first | (go_simp; done) | (go_simp; rfl)); intro gb202 hg w2 hbox hb; have n0_ := Aside0.mk (below_step (by repeat (first | (with_reducible first | exact HB.out | apply below_alloc | apply pw_below_drewN | apply below_drew1) | exact HB.out)) hb); have n1_ := Aside0.mk (hbox); have n2_ := Aside0.mk ((by rw [hg]; exact (below_size (by repeat (first | (with_reducible first | exact HB.out | apply below_alloc | apply pw_below_drewN | apply below_drew1) | exact HB.out))) : w.heap.size ≤ gb202)); have n3_ := Aside0.mk ((by rw [hg]; exact (below_size (by repeat (first | (with_reducible first | exact HB.out | apply below_alloc | apply pw_below_drewN | apply below_drew1) | exact HB.out))) : w.heap.size ≤ gb202)); clear HB; have HB := n0_; have BK202 := n1_; have GW202 := n2_; have GE202 := n3_; clear n0_ n1_ n2_ n3_; clear hb hbox hg; have hcz3_0 : w2.cell? ⟨gb202, 0, none⟩ = some (.bool false) := (blk_cell BK202.out 0).trans rfl; have hcz3_1 : w2.cell? ⟨gb202, 1, none⟩ = some (.int .i64 0) := (blk_cell BK202.out 1).trans rfl; have hfz3_0 := blk_frozen BK202.out 0; have hfz3_1 := blk_frozen BK202.out 1))
  refine bodyPost_ret (results_cell_row rfl _ _ gb202 30 #[.bool false, .int .i64 a0] (0, 0) _ rfl (by (with_reducible repeat (first | refine blk_drewN ?_ _ | refine blk_drew ?_ | refine blk_alloc ?_ _)); refine blk_put (cs := #[.bool false, .int .i64 0]) ?_ 1 _ rfl; (with_reducible repeat (first | refine blk_drewN ?_ _ | refine blk_drew ?_ | refine blk_alloc ?_ _)); refine blk_put (cs := #[.bool false, .int .i64 0]) ?_ 0 _ rfl; (with_reducible repeat (first | refine blk_drewN ?_ _ | refine blk_drew ?_ | refine blk_alloc ?_ _)); exact BK202.out) Try.underlying30 rfl (by kernel_rfl)) rfl ?_
  exact ⟨by first | rfl | (simp [errW_none, errW_some] <;> rfl) | (simp [*, errW_none, errW_some] <;> rfl), by repeat (first | (with_reducible first | exact HB.out | apply below_alloc | apply pw_below_drewN | apply below_drew1 | refine below_set ?_ GE202.out) | exact HB.out)⟩
def ferruleref12_Word.f (a0 : Int) : Option (Int) := if (Int.tmod (wrap64 ((Int.tmod a0 4294967296) + 4294967296)) 4294967296) ≥ 2147483648 then (some (wrap64 ((Int.tmod (wrap64 ((Int.tmod a0 4294967296) + 4294967296)) 4294967296) - 4294967296))) else (some (Int.tmod (wrap64 ((Int.tmod a0 4294967296) + 4294967296)) 4294967296))
set_option maxHeartbeats 8000000 in
set_option maxRecDepth 100000 in
theorem ferruleref12_Word.calls (a0 : Int) (r : Int) (w : World) (h : ferruleref12_Word.f a0 = some r) :
    Calls Try.prog 15 #[.int .i64 a0] w fun e w' => e = .returned (.int .i64 r) ∧ Drawn0 w w' := by
  have H : (if (Int.tmod (wrap64 ((Int.tmod a0 4294967296) + 4294967296)) 4294967296) ≥ 2147483648 then (some (wrap64 ((Int.tmod (wrap64 ((Int.tmod a0 4294967296) + 4294967296)) 4294967296) - 4294967296))) else (some (Int.tmod (wrap64 ((Int.tmod a0 4294967296) + 4294967296)) 4294967296))) = some r := h
  clear h
  by_cases c2 : (Int.tmod (wrap64 ((Int.tmod a0 4294967296) + 4294967296)) 4294967296) ≥ 2147483648
  · rw [if_pos c2] at H
    have c2b0 : decide (2147483648 ≤ (Int.tmod (wrap64 ((Int.tmod a0 4294967296) + 4294967296)) 4294967296)) = true := decide_eq_true c2
    clear c2
    obtain rfl := Option.some.inj H
    go_enter Try.func15, Try.ntmps15
    go_wp2
    go_ret
    exact ⟨by first | rfl | (simp; done) | (simp [*]; done), by repeat (first | exact Drawn0.refl _ | apply Drawn0.step)⟩
  · rw [if_neg c2] at H
    have c2b0 : decide (2147483648 ≤ (Int.tmod (wrap64 ((Int.tmod a0 4294967296) + 4294967296)) 4294967296)) = false := decide_eq_false c2
    clear c2
    obtain rfl := Option.some.inj H
    go_enter Try.func15, Try.ntmps15
    go_wp2
    go_ret
    exact ⟨by first | rfl | (simp; done) | (simp [*]; done), by repeat (first | exact Drawn0.refl _ | apply Drawn0.step)⟩
def ferrulelaw12_num.f (a0 : Int) : Option (Bool × Int) := some (true, a0)
set_option maxHeartbeats 8000000 in
set_option maxRecDepth 100000 in
theorem ferrulelaw12_num.calls (a0 : Int) (r1 : Bool) (r2 : Int) (w : World) (h : ferrulelaw12_num.f a0 = some (r1, r2)) :
    Calls Try.prog 10 #[.int .i64 a0] w fun e w' => e = .returned (.agg #[.bool r1, .int .i64 r2]) ∧ Below w.heap.size w w' := by
  have hu30 := Try.underlying30
  have HB := Aside0.mk (Below.refl w.heap.size w)
  have H : (some (true, a0)) = some (r1, r2) := h
  clear h
  simp only [Option.some.injEq, Prod.mk.injEq] at H
  obtain ⟨rfl, rfl⟩ := H
  go_enter Try.func10, Try.ntmps10
  go_wp2_with (first | ((with_reducible refine gate_dst (N := 2) rfl ?_); refine box_event ?hg (N := 2) ?hd (cs := #[.bool false, .int .i64 0]) (t := 30) ?hr ?_; (case hd => rfl); (case hg => rfl); (case hr => first | (go_simp; done) | (go_simp; rfl)); intro gb197 hg w2 hbox hb; have n0_ := Aside0.mk (below_step (by repeat (first | (with_reducible first | exact HB.out | apply below_alloc | apply pw_below_drewN | apply below_drew1) | exact HB.out)) hb); have n1_ := Aside0.mk (hbox); have n2_ := Aside0.mk ((by rw [hg]; exact (below_size (by repeat (first | (with_reducible first | exact HB.out | apply below_alloc | apply pw_below_drewN | apply below_drew1) | exact HB.out))) : w.heap.size ≤ gb197)); have n3_ := Aside0.mk ((by rw [hg]; exact (below_size (by repeat (first | (with_reducible first | exact HB.out | apply below_alloc | apply pw_below_drewN | apply below_drew1) | exact HB.out))) : w.heap.size ≤ gb197)); clear HB; have HB := n0_; have BK197 := n1_; have GW197 := n2_; have GE197 := n3_; clear n0_ n1_ n2_ n3_; clear hb hbox hg; have hcz3_0 : w2.cell? ⟨gb197, 0, none⟩ = some (.bool false) := (blk_cell BK197.out 0).trans rfl; have hcz3_1 : w2.cell? ⟨gb197, 1, none⟩ = some (.int .i64 0) := (blk_cell BK197.out 1).trans rfl; have hfz3_0 := blk_frozen BK197.out 0; have hfz3_1 := blk_frozen BK197.out 1))
  refine bodyPost_ret (results_cell_row rfl _ _ gb197 30 #[.bool true, .int .i64 a0] (0, 0) _ rfl (by (with_reducible repeat (first | refine blk_drewN ?_ _ | refine blk_drew ?_ | refine blk_alloc ?_ _)); refine blk_put (cs := #[.bool true, .int .i64 0]) ?_ 1 _ rfl; (with_reducible repeat (first | refine blk_drewN ?_ _ | refine blk_drew ?_ | refine blk_alloc ?_ _)); refine blk_put (cs := #[.bool false, .int .i64 0]) ?_ 0 _ rfl; (with_reducible repeat (first | refine blk_drewN ?_ _ | refine blk_drew ?_ | refine blk_alloc ?_ _)); exact BK197.out) Try.underlying30 rfl (by kernel_rfl)) rfl ?_
  exact ⟨by first | rfl | (simp [errW_none, errW_some] <;> rfl) | (simp [*, errW_none, errW_some] <;> rfl), by repeat (first | (with_reducible first | exact HB.out | apply below_alloc | apply pw_below_drewN | apply below_drew1 | refine below_set ?_ GE197.out) | exact HB.out)⟩
end Go.Proofs.Ytpphpcmbpbppoaa.PMirFuel
end
section
namespace Go.Proofs.Ytpphpcmbpbppoaa.Mach
open Go.RowKit Go.Proofs.YtpphpcmbpbppoaaW.PrintWords Go.Proofs.YtpphpcmbpbppoaaW.PrintLast Go.Proofs.YtpphpcmbpbppoaaW.PrintMore
open Go.Proofs.Ytpphpcmbpbppoaa.Calm
open Go.Proofs.Ytpphpcmbpbppoaa.PMirFuel (S30 S57 S34 S37 S40 S43 S45 S48 k30 k57 k34 k37 k40 k43 k45 k48 rd_T30 rd_T57 rd_T34 rd_T37 rd_T40 rd_T43 rd_T45 rd_T48 at_T30 at_T57 at_T34 at_T40 at_T45 at_T48)
set_option linter.unusedVariables false
set_option linter.unusedSimpArgs false
open Go.Proofs.Ytpphpcmbpbppoaa.PMirFuel (k57_mk k34_mk k30_mk k37_mk k40_mk k43_mk k45_mk k48_mk z30 z34 z37 z40)
theorem i64_and63 (n : Int) : Go.bits .and .i64 n 63 = n % 64 := by
  have h63 : (BitVec.ofInt 64 63).toNat = 2 ^ 6 - 1 := by decide
  have key : (BitVec.ofInt 64 n &&& BitVec.ofInt 64 63).toNat = (n % ((2 ^ 64 : Nat) : Int)).toNat % 2 ^ 6 := by
    rw [BitVec.toNat_and, BitVec.toNat_ofInt, h63, Nat.and_two_pow_sub_one_eq_mod]
  show IntKind.i64.wrap ((BitVec.ofInt 64 n &&& BitVec.ofInt 64 63).toNat : Nat) = n % 64
  rw [key, IntKind.wrap_i64]
  omega
theorem reps_cons {α : Type} {R : α → List Value → Prop} {size : Nat} {p : α} {ps : List α} {c cs : List Value} (hp : R p c) (hc : c.length = size) (h : Reps R size ps cs) : Reps R size (p :: ps) (c ++ cs) := by
  refine ⟨by rw [List.length_append, hc, h.1, List.length_cons, Nat.succ_mul]; omega, fun j q hq => ?_⟩
  cases j with
  | zero =>
    obtain rfl : p = q := by simpa using hq
    rw [Nat.zero_mul, List.drop_zero, ← hc, List.take_left]
    exact hp
  | succ j =>
    rw [Nat.succ_mul, Nat.add_comm, ← hc, ← List.drop_drop, List.drop_left, hc]
    exact h.2 j q (by simpa using hq)
theorem lit_C {α : Type} (d : Kd α) {W : World} {b : Nat} (hb : W.heap.size = b) (e : Nat) {xs : List α} {inner : List Value} (hr : Reps (d.K W) d.sz xs inner) (hm : xs.length ≤ 9223372036854775807) : d.C (W.alloc (.cells inner.toArray e)) (some ⟨b, 0, none⟩) xs.length xs := by
  subst hb
  obtain ⟨A, c, he, hl, hr⟩ := (OwnRow.lit (e := e) W W.heap.size hr (Nat.le_refl _) hm).reads
  injection he with h1 h2 h3
  subst h1
  exact hr.imp_ (Below.refl _ _) (fun p c hp => d.K_below (below_alloc (Below.refl _ _) _) hp)
theorem run_bld {W : World} {a : Act} {o : Oper} {t : TypeId} {parts : Array (Nat × Operand)} {cells : Array Value} (ho : o.op = .build t parts) (hf : Try.prog.built t (parts.map fun (i, x) => (i, a.eval x)).toList = some cells) : (execOp a.eval o).run Try.prog W = .ok (.value (.agg cells)) W := by
  unfold execOp
  simp only [ho, Sem.run_bind, run_build W t _ cells hf, Result.andThen_ok, Sem.run_pure]
theorem run_bsl {W : World} {a : Act} {o : Oper} {t e : TypeId} {len : Nat} {parts : Array (Nat × Operand)} {cells : Array Value} (ho : o.op = .buildSlice t len parts) (hu : Try.prog.underlying t = some (.slice e)) (hf : Try.prog.builtSlice e len (parts.map fun (i, x) => (i, a.eval x)).toList = some cells) :
    (execOp a.eval o).run Try.prog W = .ok (.value (.slice (some ⟨W.heap.size, 0, none⟩) len len)) (W.alloc (.cells cells e)) := by
  unfold Program.builtSlice at hf
  cases hie : Try.prog.info? e with
  | none => simp [hie] at hf
  | some ie =>
    simp only [hie] at hf
    cases hz : ie.zero with
    | none => simp [hz] at hf
    | some z =>
      simp only [hz] at hf
      by_cases hc : len * ie.size > 2 ^ 24 ∨ len * ie.size = 0
      · simp [hc] at hf
      · rw [if_neg hc] at hf
        unfold execOp
        simp only [ho, Sem.run_bind, run_buildSlice W t e len _ cells ie z hu hie hz (fun h' => hc (Or.inl h')) (fun h' => hc (Or.inr h')) hf, Result.andThen_ok, Sem.run_pure]
theorem ints_reps (W : World) : ∀ xs : List Int, Reps ((Kd.int .i64).K W) 1 xs (xs.map (Value.int .i64))
  | [] => Reps.none _ _
  | x :: r => reps_cons (c := [Value.int .i64 x]) rfl rfl (ints_reps W r)
theorem ints_C {W : World} {b : Nat} (hb : W.heap.size = b) (xs : List Int) (hm : xs.length ≤ 9223372036854775807) : Kd.C (Kd.int .i64) (W.alloc (.cells (xs.map (Value.int .i64)).toArray 3)) (some ⟨b, 0, none⟩) xs.length xs :=
  lit_C (Kd.int .i64) hb 3 (ints_reps W xs) hm
theorem own_of_has {W : World} {b n size : Nat} {cs : Array Value} {e : TypeId} (h : Has W b cs e) (hs : cs.size = n * size) (hn : n ≤ 9223372036854775807) (base : Nat) (hb : base ≤ b) : W.ownsRow base e size (.slice (some ⟨b, 0, none⟩) n n) n cs.toList :=
  ⟨by simpa using hs, .inr ⟨b, n, cs, rfl, hb, h, Nat.le_refl _, by simpa [maxLen] using hn, hs, List.take_of_length_le (by rw [Array.length_toList, hs]; exact Nat.le_refl _)⟩⟩
theorem C_of_has {α : Type} (d : Kd α) {W : World} {b : Nat} {e : TypeId} {xs : List α} {inner : List Value} (h : Has W b inner.toArray e) (hr : Reps (d.K W) d.sz xs inner) (hm : xs.length ≤ 9223372036854775807) : d.C W (some ⟨b, 0, none⟩) xs.length xs := by
  obtain ⟨A, c, he, hr⟩ := own_reads_row (own_of_has h (by simpa using hr.1) hm b (Nat.le_refl b)) (by simpa using hr) rfl
  injection he with h1 h2 h3
  subst h1
  exact hr
theorem has_grown {W w1 : World} {b : Nat} {cs : Array Value} {t : TypeId} {row : Option Nat} (h : Has W b cs t) (hg : W.grownBy w1 row) (hn : some b ≠ row) : Has w1 b cs t := h.of_block (hg.block b h.lt hn)
structure Hold (p : Prop) : Prop where
  mk :: (out : p)
section
variable {P : Program} {ops : Array Oper} {Q : Exit → Act → World → Prop} {a : Act} {w : World} {rest : List Oper} {o : Oper}
theorem list_value {d : Tmp} {v : Value} (hg : o.guard = none) (hd : o.dst = some d) (hr : VW w v w ((execOp a.eval o).run P w)) (h : wpList P ops Q rest { tmps := a.tmps.setIfInBounds d v, defers := a.defers } w) : wpList P ops Q (o :: rest) a w := by
  refine wpList_step fun K hK => ?_
  rw [if_pos (by unfold Region.wanted; rw [hg])]
  unfold Oper.wp
  rw [hr.out, Oper.upon_value, hd]
  exact hK _ _ h
theorem list_alloc {d : Tmp} {v : Value} {b : Obj} (hg : o.guard = none) (hd : o.dst = some d) (hr : VW w v (w.alloc b) ((execOp a.eval o).run P w)) (h : ∀ w1, w.alloc b = w1 → wpList P ops Q rest { tmps := a.tmps.setIfInBounds d v, defers := a.defers } w1) : wpList P ops Q (o :: rest) a w := by
  refine wpList_step fun K hK => ?_
  rw [if_pos (by unfold Region.wanted; rw [hg])]
  unfold Oper.wp
  rw [hr.out, Oper.upon_value, hd]
  exact hK _ _ (h _ rfl)
theorem list_call {d : Tmp} {v : Value} {f : FuncId} {args : Array Value} (hg : o.guard = none) (hd : o.dst = some d) (hr : ER w f args ((execOp a.eval o).run P w))
    (hc : Calls P f args w fun e w' => e = .returned v ∧ Below w.heap.size w w') (h : ∀ w1, Below w.heap.size w w1 → wpList P ops Q rest { tmps := a.tmps.setIfInBounds d v, defers := a.defers } w1) : wpList P ops Q (o :: rest) a w := by
  refine wpList_step fun K hK => ?_
  rw [if_pos (by unfold Region.wanted; rw [hg])]
  unfold Oper.wp
  rw [hr.out, Oper.upon_enter]
  refine hc.mono ?_
  rintro e w'' ⟨rfl, hb⟩
  rw [hd]
  exact hK _ _ (h _ hb)
theorem list_store {w' : World} (hg : o.guard = none) (hd : o.dst = none) (hr : SW w' ((execOp a.eval o).run P w)) (h : wpList P ops Q rest a w') : wpList P ops Q (o :: rest) a w := by
  refine wpList_step fun K hK => ?_
  rw [if_pos (by unfold Region.wanted; rw [hg])]
  unfold Oper.wp
  rw [hr.out, Oper.upon_skip, hd]
  exact hK _ _ h
end
theorem storeN (t : TypeId) (n : Nat) (hi : (Try.prog.info? t).map (·.size) = some n) (W : World) (z c : Array Value) (hz : z.size = n) (hs : c.size = n) (h1 : c.all (·.oneCell') = true) (a : Act) (o : Oper) (x y : Operand) (h : o.op = .store t x y) (hx : a.eval x = .pointer (some ⟨W.heap.size, 0, none⟩)) (hy : a.eval y = .agg c) :
    (execOp a.eval o).run Try.prog (W.alloc (.cells z t)) = .ok .skip (W.alloc (.cells c t)) := by
  have hst := run_storeAt_new (P := Try.prog) W t z c (by rw [hs]; exact hi) (by rw [hz, hs]) h1
  unfold execOp
  simp only [h, hx, hy, Sem.run_bind, hst, Result.andThen_ok, Sem.run_pure]
theorem loadN (t : TypeId) (n : Nat) (hi : (Try.prog.info? t).map (·.size) = some n) {fs : Array Field} (hu : Try.prog.underlying t = some (.struct fs)) (W : World) (g : Nat) (c : Array Value) (hg : Has W g c t) (hs : c.size = n) (a : Act) (o : Oper) (x : Operand) (h : o.op = .load t x) (hx : a.eval x = .pointer (some ⟨g, 0, none⟩)) :
    (execOp a.eval o).run Try.prog W = .ok (.value (.agg c)) W := by
  have hld := run_loadVar_row (P := Try.prog) W g t t c (0, 0) _ hg hu (by first | rfl | simp) (by rw [hs]; exact hi)
  unfold execOp
  simp only [h, hx, Instr.loadAt, Instr.sureAddr, Sem.run_bind, Sem.run_pure, Result.andThen_ok, hld]
def encI (A : Option Addr) (p : S40) : List Value := [.int .i64 p.f0, .int .i64 p.f1, .bool p.f2.f0, .int .i64 p.f2.f1, .bool p.f3.f0, .int .i64 p.f3.f1, .int .i64 p.f4.f0, .slice A p.f4.f1.length p.f4.f1.length, .int .i64 p.f5.f0, .slice none 0 0, .int .i64 p.f6, .string p.f7, .int .i64 p.f8.f0, .string p.f8.f1, .int .i64 p.f8.f2, .slice none 0 0, .slice none 0 0, .slice none 0 0]
theorem encI_one (A : Option Addr) (p : S40) : ∀ u ∈ encI A p, u.oneCell' = true := by
  intro u hu
  unfold encI at hu
  simp only [List.mem_cons, List.not_mem_nil, or_false] at hu
  rcases hu with rfl | rfl | rfl | rfl | rfl | rfl | rfl | rfl | rfl | rfl | rfl | rfl | rfl | rfl | rfl | rfl | rfl | rfl <;> rfl
theorem encI_K {V : World} {A : Option Addr} (p : S40) (g : k57.C V A p.f4.f1.length p.f4.f1) (h5 : p.f5.f1 = []) (h8 : p.f8.f3 = []) (h9 : p.f9 = []) (h10 : p.f10 = []) : k40.K V p (encI A p) := by
  have h := k40_mk V p (Nat.le_refl _) g (A9 := none) (c9 := 0) (by rw [h5]; exact Nat.le_refl 0) (by rw [h5]; exact Kd.C_nil _ _) (A15 := none) (c15 := 0) (by rw [h8]; exact Nat.le_refl 0) (by rw [h8]; exact Kd.C_nil _ _) (A16 := none) (c16 := 0) (by rw [h9]; exact Nat.le_refl 0) (by rw [h9]; exact Kd.C_nil _ _) (A17 := none) (c17 := 0) (by rw [h10]; exact Nat.le_refl 0) (by rw [h10]; exact Kd.C_nil _ _)
  rw [h5, h8, h9, h10] at h
  exact h
theorem kBounds (k N : Int) (h1 : 1 ≤ N) (h2 : N ≤ 64) : 0 ≤ (wrap64 (k.tmod N + N)).tmod N ∧ (wrap64 (k.tmod N + N)).tmod N < N := by
  have h3 : -N < k.tmod N := by
    rcases Int.lt_or_le k 0 with h | h
    · have e := Int.neg_tmod (-k) N
      rw [Int.neg_neg] at e
      have := Int.tmod_lt_of_pos (-k) (show 0 < N by omega)
      omega
    · have := Int.tmod_nonneg N h
      omega
  have h4 : k.tmod N < N := Int.tmod_lt_of_pos k (by omega)
  have h5 : wrap64 (k.tmod N + N) = k.tmod N + N := by unfold wrap64; omega
  rw [h5]
  exact ⟨Int.tmod_nonneg N (by omega), Int.tmod_lt_of_pos _ (by omega)⟩
end Go.Proofs.Ytpphpcmbpbppoaa.Mach
end
section
namespace Go.Proofs.Ytpphpcmbpbppoaa.Mach
open Go.RowKit Go.Proofs.YtpphpcmbpbppoaaW.PrintWords Go.Proofs.YtpphpcmbpbppoaaW.PrintLast Go.Proofs.YtpphpcmbpbppoaaW.PrintMore
open Go.Proofs.Ytpphpcmbpbppoaa.Calm
open Go.Proofs.Ytpphpcmbpbppoaa.PMirFuel (S30 S57 S34 S37 S40 S43 S45 S48 k30 k57 k34 k37 k40 k43 k45 k48 rd_T30 rd_T57 rd_T34 rd_T37 rd_T40 rd_T43 rd_T45 rd_T48 at_T30 at_T57 at_T34 at_T40 at_T45 at_T48)
set_option linter.unusedVariables false
set_option linter.unusedSimpArgs false
open Go.Proofs.Ytpphpcmbpbppoaa.PMirFuel (z30 z34 z37 z40)
namespace LawP
abbrev XG (l : List S48) (n : Nat) : Runs := fun st at_ held f => exec l n st at_ held f 0 0
theorem instr_1 (X : Runs) (l : List S48) (st : St) (F : Fr) (s : S40) (h : s.f0 = 1) : instrP X l st F s = (isetP st F s).big F.held := by simp [instrP, instr0P, h]
theorem instr_3 (X : Runs) (l : List S48) (st : St) (F : Fr) (s : S40) (h : s.f0 = 3) : instrP X l st F s = (iloadP st F s).big F.held := by simp [instrP, instr0P, h]
theorem instr_4 (X : Runs) (l : List S48) (st : St) (F : Fr) (s : S40) (h : s.f0 = 4) : instrP X l st F s = (istoreP st F s).big F.held := by simp [instrP, instr0P, h]
theorem instr_7 (X : Runs) (l : List S48) (st : St) (F : Fr) (s : S40) (h : s.f0 = 7) : instrP X l st F s = (allocP st F s.f6 s.f1).big F.held := by simp [instrP, instr0P, h]
theorem instr_8 (X : Runs) (l : List S48) (st : St) (F : Fr) (s : S40) (h : s.f0 = 8) : instrP X l st F s = (ifreeP st F s).big F.held := by simp [instrP, instr0P, h]
theorem instr_13 (X : Runs) (l : List S48) (st : St) (F : Fr) (s : S40) (h : s.f0 = 13) : instrP X l st F s = iprintP st F s := by simp [instrP, instr0P, h]
def S (o : St) (pre : List Int) (a b c : Int) : St := { o with stack := pre ++ [a, b, c] }
abbrev at3 (L : Nat) : List Int := frameAt L [1, 1, 1]
theorem loc_S {o : St} {pre : List Int} {a b c : Int} (i : Nat) (hi : i < 3) : locate (S o pre a b c) (1048576 + 4 * ((pre.length + i : Nat) : Int)) = some (.stk (pre.length + i)) := by
  unfold locate
  rw [if_pos (by rw [Int.tmod_eq_emod_of_nonneg (by omega)]; omega), if_pos ⟨by omega, by
    show (1048576 + 4 * ((pre.length + i : Nat) : Int) - 1048576) / 4 < ((pre ++ [a, b, c]).length : Int)
    rw [List.length_append]
    show _ < ((pre.length + 3 : Nat) : Int)
    omega⟩]
  congr 2
  omega
theorem loc0 {o : St} {pre : List Int} {a b c : Int} {h : List Bool} : locate (S o pre a b c) (rd (pf (at3 pre.length) h).at_ 0) = some (.stk pre.length) := loc_S 0 (by decide)
theorem loc1 {o : St} {pre : List Int} {a b c : Int} {h : List Bool} : locate (S o pre a b c) (rd (pf (at3 pre.length) h).at_ 1) = some (.stk (pre.length + 1)) := loc_S 1 (by decide)
theorem loc2 {o : St} {pre : List Int} {a b c : Int} {h : List Bool} : locate (S o pre a b c) (rd (pf (at3 pre.length) h).at_ 2) = some (.stk (pre.length + 2)) := loc_S 2 (by decide)
theorem wr0 {o : St} {pre : List Int} {a b c v : Int} : wrL (S o pre a b c) (.stk pre.length) v = S o pre v b c := by simp [wrL, S]
theorem wr2 {o : St} {pre : List Int} {a b c v : Int} : wrL (S o pre a b c) (.stk (pre.length + 2)) v = S o pre a b v := by simp [wrL, S]
section
variable {o : St} {pre : List Int} {a b c : Int} {h : List Bool}
theorem opc (n : Int) (st : St) (F : Fr) : operandP st F ⟨true, n⟩ = some (w32 n) := if_pos rfl
theorem set0 (v : Int) : setP (S o pre a b c) (pf (at3 pre.length) h) 0 v = .ok (S o pre v b c) := by
  unfold setP; rw [loc0]; exact congrArg Res.ok wr0
end
end LawP
end Go.Proofs.Ytpphpcmbpbppoaa.Mach
end
section
namespace Go.Proofs.Ytpphpcmbpbppoaa.Mach
open Go.RowKit Go.Proofs.YtpphpcmbpbppoaaW.PrintWords Go.Proofs.YtpphpcmbpbppoaaW.PrintLast Go.Proofs.YtpphpcmbpbppoaaW.PrintMore
open Go.Proofs.Ytpphpcmbpbppoaa.Calm
open Go.Proofs.Ytpphpcmbpbppoaa.PMirFuel (S30 S57 S34 S37 S40 S43 S45 S48 k30 k57 k34 k37 k40 k43 k45 k48 rd_T30 rd_T57 rd_T34 rd_T37 rd_T40 rd_T43 rd_T45 rd_T48 at_T30 at_T57 at_T34 at_T40 at_T45 at_T48)
set_option linter.unusedVariables false
set_option linter.unusedSimpArgs false
set_option maxRecDepth 100000 in
set_option maxHeartbeats 4000000 in
theorem other_10 {G : Glob} {S : Nat → Prop} {F : Fr} {w : World} {p : Addr} {r : Res2} (h0 : w.cell? p = some (.int .i64 10)) (h : Calls Try.prog 103 #[.pointer (some ⟨G.m, 0, none⟩), .pointer (some p)] w (BigPost G S F r w)) :
    Calls Try.prog 82 #[.pointer (some ⟨G.m, 0, none⟩), .pointer (some p)] w (BigPost G S F r w) := by
  have HH := Aside0.mk h
  clear h
  go_enter Try.func82, Try.ntmps82
  go_wp2_with (go_at_call 103; refine HH.out.mono ?_; intro e w2 hp; have HP := Aside0.mk hp; clear hp)
  all_goals first | exact bodyPost_end (results_none rfl _ _ _) rfl (BigPost.norm HP.out) | exact ⟨rfl, HP.out⟩ | exact (BigPost.not_out HP.out).elim
set_option maxRecDepth 100000 in
set_option maxHeartbeats 4000000 in
theorem other_11 {G : Glob} {S : Nat → Prop} {F : Fr} {w : World} {p : Addr} {r : Res2} (h0 : w.cell? p = some (.int .i64 11)) (h : Calls Try.prog 103 #[.pointer (some ⟨G.m, 0, none⟩), .pointer (some p)] w (BigPost G S F r w)) :
    Calls Try.prog 82 #[.pointer (some ⟨G.m, 0, none⟩), .pointer (some p)] w (BigPost G S F r w) := by
  have HH := Aside0.mk h
  clear h
  go_enter Try.func82, Try.ntmps82
  go_wp2_with (go_at_call 103; refine HH.out.mono ?_; intro e w2 hp; have HP := Aside0.mk hp; clear hp)
  all_goals first | exact bodyPost_end (results_none rfl _ _ _) rfl (BigPost.norm HP.out) | exact ⟨rfl, HP.out⟩ | exact (BigPost.not_out HP.out).elim
set_option maxRecDepth 100000 in
set_option maxHeartbeats 4000000 in
theorem other_13 {G : Glob} {S : Nat → Prop} {F : Fr} {w : World} {p : Addr} {r : Res2} (h0 : w.cell? p = some (.int .i64 13)) (h : Calls Try.prog 103 #[.pointer (some ⟨G.m, 0, none⟩), .pointer (some p)] w (BigPost G S F r w)) :
    Calls Try.prog 82 #[.pointer (some ⟨G.m, 0, none⟩), .pointer (some p)] w (BigPost G S F r w) := by
  have HH := Aside0.mk h
  clear h
  go_enter Try.func82, Try.ntmps82
  go_wp2_with (go_at_call 103; refine HH.out.mono ?_; intro e w2 hp; have HP := Aside0.mk hp; clear hp)
  all_goals first | exact bodyPost_end (results_none rfl _ _ _) rfl (BigPost.norm HP.out) | exact ⟨rfl, HP.out⟩ | exact (BigPost.not_out HP.out).elim
set_option maxRecDepth 100000 in
set_option maxHeartbeats 4000000 in
theorem other_14 {G : Glob} {S : Nat → Prop} {F : Fr} {w : World} {p : Addr} {r : Res2} (h0 : w.cell? p = some (.int .i64 14)) (h : Calls Try.prog 103 #[.pointer (some ⟨G.m, 0, none⟩), .pointer (some p)] w (BigPost G S F r w)) :
    Calls Try.prog 82 #[.pointer (some ⟨G.m, 0, none⟩), .pointer (some p)] w (BigPost G S F r w) := by
  have HH := Aside0.mk h
  clear h
  go_enter Try.func82, Try.ntmps82
  go_wp2_with (go_at_call 103; refine HH.out.mono ?_; intro e w2 hp; have HP := Aside0.mk hp; clear hp)
  all_goals first | exact bodyPost_end (results_none rfl _ _ _) rfl (BigPost.norm HP.out) | exact ⟨rfl, HP.out⟩ | exact (BigPost.not_out HP.out).elim
set_option maxRecDepth 100000 in
set_option maxHeartbeats 4000000 in
theorem other_15 {G : Glob} {S : Nat → Prop} {F : Fr} {w : World} {p : Addr} {r : Res2} (h0 : w.cell? p = some (.int .i64 15)) (h : Calls Try.prog 103 #[.pointer (some ⟨G.m, 0, none⟩), .pointer (some p)] w (BigPost G S F r w)) :
    Calls Try.prog 82 #[.pointer (some ⟨G.m, 0, none⟩), .pointer (some p)] w (BigPost G S F r w) := by
  have HH := Aside0.mk h
  clear h
  go_enter Try.func82, Try.ntmps82
  go_wp2_with (go_at_call 103; refine HH.out.mono ?_; intro e w2 hp; have HP := Aside0.mk hp; clear hp)
  all_goals first | exact bodyPost_end (results_none rfl _ _ _) rfl (BigPost.norm HP.out) | exact ⟨rfl, HP.out⟩ | exact (BigPost.not_out HP.out).elim
end Go.Proofs.Ytpphpcmbpbppoaa.Mach
end
section
namespace Go.Proofs.Ytpphpcmbpbppoaa.Mach
open Go.RowKit Go.Proofs.YtpphpcmbpbppoaaW.PrintWords Go.Proofs.YtpphpcmbpbppoaaW.PrintLast Go.Proofs.YtpphpcmbpbppoaaW.PrintMore
open Go.Proofs.Ytpphpcmbpbppoaa.Calm
open Go.Proofs.Ytpphpcmbpbppoaa.PMirFuel (S30 S57 S34 S37 S40 S43 S45 S48 k30 k57 k34 k37 k40 k43 k45 k48 rd_T30 rd_T57 rd_T34 rd_T37 rd_T40 rd_T43 rd_T45 rd_T48 at_T30 at_T57 at_T34 at_T40 at_T45 at_T48)
set_option linter.unusedVariables false
set_option linter.unusedSimpArgs false
def OpF (n : Nat) (o : S30) : Prop := o.f0 = false → 0 ≤ o.f1 ∧ o.f1 < n
def LoF (n : Nat) (d : Int) : Prop := 0 ≤ d ∧ d < n
def PlF (n : Nat) (p : S34) : Prop := 0 ≤ p.f0 ∧ p.f0 < n ∧ ∀ i, i < p.f1.length → (rd_T57 p.f1 (i : Int)).f0 = 2 → 0 ≤ (rd_T57 p.f1 (i : Int)).f1 ∧ (rd_T57 p.f1 (i : Int)).f1 < n
inductive FormI (l : List S48) (n : Nat) (s : S40) : Prop where
  | set (h : s.f0 = 1) (d : LoF n s.f1) (a : OpF n s.f2)
  | bin (h : s.f0 = 2) (d : LoF n s.f1) (a : OpF n s.f2) (b : OpF n s.f3) (t : ∀ a b, ∃ r, PMirFuel.mir_Do.f 3 s.f7 a b = some r)
  | load (h : s.f0 = 3) (d : LoF n s.f1) (p : PlF n s.f4)
  | store (h : s.f0 = 4) (p : PlF n s.f4) (a : OpF n s.f2)
  | copy (h : s.f0 = 5) (p : PlF n s.f4) (q : PlF n s.f5) (n0 : 0 ≤ s.f6) (n1 : s.f6 ≤ 128)
  | addr (h : s.f0 = 6) (d : LoF n s.f1) (p : PlF n s.f4)
  | alloc (h : s.f0 = 7) (d : LoF n s.f1) (n0 : 0 ≤ s.f6) (n1 : s.f6 ≤ 128)
  | free (h : s.f0 = 8) (a : OpF n s.f2)
  | give (h : s.f0 = 10) (d : LoF n s.f1)
  | take (h : s.f0 = 11) (d : LoF n s.f1)
  | print (h : s.f0 = 13) (a : OpF n s.f2)
  | read (h : s.f0 = 14) (d : LoF n s.f1)
  | call (h : s.f0 = 15) (k : 0 ≤ findP l s.f7) (h8 : s.f9.length ≤ 8) (h10 : s.f10.length ≤ 8) (args : ∀ i, i < s.f9.length → OpF n (rd_T30 s.f9 (i : Int))) (dsts : ∀ i : Int, 0 ≤ i → i < s.f10.length → LoF n (rd s.f10 i))
      (hn : s.f9.length ≤ need (rd_T48 l (findP l s.f7)).f1) (ha : (s.f10.length : Int) = (rd_T48 l (findP l s.f7)).f3)
inductive FormT (f : S48) (t : S43) : Prop where
  | goto (h : t.f0 = 1) (g1 : 0 ≤ t.f2 ∧ t.f2 < f.f5.length)
  | cond (h : t.f0 = 2) (a : OpF f.f1.length t.f1) (g1 : 0 ≤ t.f2 ∧ t.f2 < f.f5.length) (g2 : 0 ≤ t.f3 ∧ t.f3 < f.f5.length)
  | ret (h : t.f0 = 3) (args : ∀ i, i < t.f4.length → OpF f.f1.length (rd_T30 t.f4 (i : Int))) (h8 : t.f4.length ≤ 8) (ha : (t.f4.length : Int) = f.f3)
  | panic (h : t.f0 = 4)
structure FormF (l : List S48) (f : S48) : Prop where
  hb : 0 < f.f5.length
  hl : f.f1.length < 100000
  hw : need f.f1 ≤ 1000000000
  h0 : ∀ k, k ∈ f.f1 → 0 ≤ k
  len : ∀ b, (rd_T45 f.f5 b).f0.length < 4611686018427387904
  ins : ∀ b : Int, 0 ≤ b → b < f.f5.length → ∀ i : Nat, i < (rd_T45 f.f5 b).f0.length → FormI l f.f1.length (rd_T40 (rd_T45 f.f5 b).f0 (i : Int))
  term : ∀ b : Int, 0 ≤ b → b < f.f5.length → FormT f (rd_T45 f.f5 b).f1
def Forms (l : List S48) : Prop := ∀ k : Int, 0 ≤ k → k < l.length → FormF l (rd_T48 l k)
structure Fits (st : St) : Prop where
  s0 : 0 ≤ st.steps
  fu : st.fuel ≤ 1000000000000
  pr : (st.print.length : Int) ≤ st.steps
  c0 : 0 ≤ st.calls
  c1 : st.calls ≤ 392
  d0 : 0 ≤ st.depth
  sk : (st.stack.length : Int) ≤ st.calls * 1000000000
structure Keeps (st st' : St) : Prop where
  fuel : st'.fuel = st.fuel
  steps : st.steps ≤ st'.steps
  calls : st'.calls = st.calls
  depth : st'.depth = st.depth
  stack : st'.stack.length = st.stack.length
  print : (st'.print.length : Int) - st.print.length ≤ st'.steps - st.steps
structure Keeps1 (st st' : St) : Prop where
  fuel : st'.fuel = st.fuel
  steps : st.steps ≤ st'.steps
  calls : st'.calls = st.calls
  depth : st'.depth = st.depth
  stack : st'.stack.length = st.stack.length
  print : (st'.print.length : Int) - st.print.length ≤ st'.steps - st.steps + 1
theorem Keeps.refl (st : St) : Keeps st st := ⟨rfl, Int.le_refl _, rfl, rfl, rfl, by omega⟩
theorem Keeps.one {st st' : St} (h : Keeps st st') : Keeps1 st st' := ⟨h.fuel, h.steps, h.calls, h.depth, h.stack, by have := h.print; omega⟩
theorem Keeps.trans {st st1 st2 : St} (h : Keeps st st1) (k : Keeps st1 st2) : Keeps st st2 :=
  ⟨k.fuel.trans h.fuel, Int.le_trans h.steps k.steps, k.calls.trans h.calls, k.depth.trans h.depth, k.stack.trans h.stack, by have := h.print; have := k.print; omega⟩
theorem Keeps1.tick {st st' : St} (h : Keeps1 (tick st) st') : Keeps st st' := by
  obtain ⟨h1, h2, h3, h4, h5, h6⟩ := h
  simp only [Go.Proofs.Ytpphpcmbpbppoaa.Mach.tick] at h1 h2 h3 h4 h5 h6
  exact ⟨h1, by omega, h3, h4, h5, by omega⟩
theorem Fits.keeps {st st' : St} (F : Fits st) (h : Keeps st st') : Fits st' :=
  ⟨by have := F.s0; have := h.steps; omega, h.fuel ▸ F.fu, by have := F.pr; have := h.print; omega, h.calls ▸ F.c0, h.calls ▸ F.c1, h.depth ▸ F.d0, by rw [h.calls, h.stack]; exact F.sk⟩
theorem wrL_keeps (st : St) (l : Loc) (v : Int) : Keeps st (wrL st l v) := by
  cases l <;> exact ⟨rfl, Int.le_refl _, rfl, rfl, by simp [wrL], by simp [wrL]⟩
def Res.keep (st : St) : Res → Prop
  | .ok st' => Keeps st st'
  | .halt _ _ _ => True
def Res2.keep (st : St) (held : List Bool) : Res2 → Prop
  | .ok st' held' => Keeps1 st st' ∧ held'.length = held.length
  | .halt _ _ _ => True
theorem Res.keep_big {st : St} {r : Res} {held : List Bool} (h : r.keep st) : (r.big held).keep st held := by
  cases r with
  | ok st' => exact ⟨Keeps.one h, rfl⟩
  | halt k c st' => trivial
theorem setP_keep (st : St) (F : Fr) (d v : Int) : (setP st F d v).keep st := by
  unfold setP
  split
  · exact wrL_keeps _ _ _
  · trivial
theorem Res.keep_of {st st1 : St} {r : Res} (h : Keeps st st1) (k : r.keep st1) : r.keep st := by
  cases r with
  | ok st' => exact h.trans k
  | halt => trivial
theorem writeP_keep (a : Int) (vs : List Int) : ∀ (st : St) (i : Nat), (writeP st a vs i).keep st := by
  induction vs with
  | nil => intro st i; exact Keeps.refl _
  | cons v r ih =>
    intro st i
    rw [writeP_cons]
    split
    · exact Res.keep_of (wrL_keeps _ _ _) (ih _ _)
    · trivial
theorem settleP_keep (F : Fr) (vs : List Int) : ∀ (ds : List Int) (st : St), (settleP st F ds vs).keep st := by
  induction vs with
  | nil => intro ds st; cases ds <;> exact Keeps.refl _
  | cons v r ih =>
    intro ds st
    cases ds with
    | nil => trivial
    | cons d ds =>
      have h1 := setP_keep st F d v
      unfold settleP
      split
      · rename_i st' e
        rw [e] at h1
        exact Res.keep_of h1 (ih _ _)
      · trivial
theorem keep_ite {st : St} {held : List Bool} {c : Prop} [Decidable c] {a b : Res2} (h1 : a.keep st held) (h2 : b.keep st held) : (if c then a else b).keep st held := by
  by_cases h : c
  · rw [if_pos h]; exact h1
  · rw [if_neg h]; exact h2
theorem instr0P_keep (st : St) (F : Fr) (s : S40) : (instr0P st F s).keep st F.held := by
  unfold instr0P
  repeat' apply keep_ite
  · refine Res.keep_big ?_
    unfold isetP; split
    · trivial
    · exact setP_keep _ _ _ _
  · refine Res.keep_big ?_
    unfold ibinP; repeat' split
    all_goals first | trivial | exact setP_keep _ _ _ _
  · refine Res.keep_big ?_
    unfold iloadP; repeat' split
    all_goals first | trivial | exact setP_keep _ _ _ _
  · refine Res.keep_big ?_
    unfold istoreP; repeat' split
    all_goals first | trivial | exact wrL_keeps _ _ _
  · refine Res.keep_big ?_
    unfold icopyP copyP; repeat' split
    all_goals first | trivial | exact writeP_keep _ _ _ _
  · refine Res.keep_big ?_
    unfold iaddrP; split
    · trivial
    · exact setP_keep _ _ _ _
  · refine Res.keep_big ?_
    unfold allocP; split
    · trivial
    · refine Res.keep_of ?_ (setP_keep _ _ _ _)
      exact ⟨rfl, Int.le_refl _, rfl, rfl, rfl, by simp⟩
  · refine Res.keep_big ?_
    unfold ifreeP freeP; repeat' split
    all_goals first | trivial | exact ⟨rfl, Int.le_refl _, rfl, rfl, rfl, by simp⟩
  · exact ⟨(Keeps.refl _).one, by simp⟩
  · exact ⟨(Keeps.refl _).one, by simp⟩
  · unfold iprintP; split
    · trivial
    · exact ⟨⟨rfl, Int.le_refl _, rfl, rfl, rfl, by simp; omega⟩, rfl⟩
  · unfold ireadP; split
    · exact Res.keep_big (setP_keep _ _ _ _)
    · refine Res.keep_big (Res.keep_of ?_ (setP_keep _ _ _ _))
      exact ⟨rfl, Int.le_refl _, rfl, rfl, rfl, by simp⟩
  · trivial
theorem allP_length {st : St} {F : Fr} : ∀ {xs : List S30} {vs : List Int}, allP st F xs = some vs → vs.length = xs.length
  | [], vs, h => by injection h with h; rw [← h]; rfl
  | x :: r, vs, h => by
    simp only [allP, Option.bind_eq_some_iff, Option.map_eq_some_iff] at h
    obtain ⟨v, _, ws, hw, rfl⟩ := h
    simp [allP_length hw]
theorem callP_keep {X : Runs} {st : St} {held : List Bool} {f : S48} {vs : List Int} (hX : ∀ st' h out, X (enterP st f vs) (frameAt st.stack.length f.f1) (List.replicate f.f1.length false) f = .ok st' h out → Keeps (enterP st f vs) st')
    {st' : St} {h : List Bool} {out : List Int} (H : callP X st held f vs = .ok st' h out) : Keeps st st' ∧ h = held := by
  unfold callP at H
  split at H
  · cases H
  · split at H
    · rename_i st1 h1 out1 e
      injection H with e1 e2 e3
      subst e1 e2 e3
      obtain ⟨k1, k2, k3, k4, k5, k6⟩ := hX _ _ _ e
      simp only [enterP] at k1 k2 k3 k4 k5 k6
      refine ⟨⟨k1, k2, ?_, ?_, ?_, k6⟩, rfl⟩
      · simp only [leaveP]; omega
      · simp only [leaveP, k4]; split <;> omega
      · simp only [leaveP, List.length_take, k5, List.length_append]; omega
    · cases H
theorem icallP_keep {X : Runs} {l : List S48} {st : St} {F : Fr} {s : S40} (hX : ∀ st0 at_ held f st' h out, X st0 at_ held f = .ok st' h out → Keeps st0 st') : (icallP X l st F s).keep st F.held := by
  unfold icallP
  split
  · trivial
  · split
    · rename_i st' _ out e
      have := (callP_keep (fun st' h out e => hX _ _ _ _ _ _ _ e) e).1
      exact Res.keep_big (Res.keep_of this (settleP_keep _ _ _ _))
    · trivial
theorem instrP_keep {X : Runs} {l : List S48} {st : St} {F : Fr} {s : S40} (hX : ∀ st0 at_ held f st' h out, X st0 at_ held f = .ok st' h out → Keeps st0 st') : (instrP X l st F s).keep st F.held := by
  unfold instrP
  exact keep_ite (icallP_keep hX) (instr0P_keep _ _ _)
theorem tick_keeps (st : St) : Keeps st (tick st) := ⟨rfl, by simp [tick]; omega, rfl, rfl, rfl, by simp [tick]; omega⟩
theorem exec_keep (l : List S48) : ∀ (n : Nat) (st : St) (at_ : List Int) (held : List Bool) (f : S48) (b : Int) (i : Nat) (st' : St) (h : List Bool) (out : List Int), exec l n st at_ held f b i = .ok st' h out → Keeps st st' ∧ h.length = held.length
  | 0, _, _, _, _, _, _, _, _, _, H => by cases H
  | n + 1, st, at_, held, f, b, i, st', h, out, H => by
    unfold exec at H
    split at H
    · cases H
    · split at H
      · split at H
        · rename_i st1 held1 e
          have k := instrP_keep (X := fun st at_ held f => exec l n st at_ held f 0 0) (l := l) (st := tick st) (F := pf at_ held) (s := rd_T40 (rd_T45 f.f5 b).f0 (i : Int)) (fun st0 a h f st' h' o e => (exec_keep l n _ _ _ _ _ _ _ _ _ e).1)
          rw [e] at k
          obtain ⟨k1, k2⟩ := exec_keep l n _ _ _ _ _ _ _ _ _ H
          exact ⟨(Keeps1.tick k.1).trans k1, k2.trans k.2⟩
        · cases H
      · split at H
        · obtain ⟨k1, k2⟩ := exec_keep l n _ _ _ _ _ _ _ _ _ H
          exact ⟨(tick_keeps st).trans k1, k2⟩
        · injection H with e1 e2 e3
          subst e1 e2
          exact ⟨tick_keeps st, rfl⟩
        · cases H
theorem exec_out (l : List S48) : ∀ (n : Nat) (st : St) (at_ : List Int) (held : List Bool) (f : S48) (b : Int) (i : Nat) (st' : St) (h : List Bool) (out : List Int), FormF l f → 0 ≤ b → b < f.f5.length → exec l n st at_ held f b i = .ok st' h out → (out.length : Int) = f.f3
  | 0, _, _, _, _, _, _, _, _, _, _, _, _, H => by cases H
  | n + 1, st, at_, held, f, b, i, st', h, out, FF, b0, b1, H => by
    unfold exec at H
    split at H
    · cases H
    · split at H
      · split at H
        · exact exec_out l n _ _ _ _ _ _ _ _ _ FF b0 b1 H
        · cases H
      · have T := FF.term b b0 b1
        split at H
        · rename_i b' e
          have hb : 0 ≤ b' ∧ b' < f.f5.length := by
            unfold termP at e
            cases T with
            | goto h g1 =>
              rw [if_neg (by omega), if_neg (by omega), if_neg (by omega)] at e
              injection e with e; subst e; exact g1
            | cond h a g1 g2 =>
              rw [if_neg (by omega), if_neg (by omega), if_pos h] at e
              split at e
              · cases e
              · injection e with e
                subst e
                split
                · exact g2
                · exact g1
            | ret h _ _ _ =>
              rw [if_pos h] at e
              split at e <;> cases e
            | panic h =>
              rw [if_neg (by omega), if_pos h] at e
              cases e
          exact exec_out l n _ _ _ _ _ _ _ _ _ FF hb.1 hb.2 H
        · rename_i vs e
          injection H with e1 e2 e3
          subst e3
          unfold termP at e
          cases T with
          | goto h g1 =>
            rw [if_neg (by omega), if_neg (by omega), if_neg (by omega)] at e
            cases e
          | cond h a g1 g2 =>
            rw [if_neg (by omega), if_neg (by omega), if_pos h] at e
            split at e <;> cases e
          | ret h _ _ ha =>
            rw [if_pos h] at e
            split at e
            · cases e
            · rename_i ws ew
              injection e with e
              subst e
              rw [allP_length ew]; exact ha
          | panic h =>
            rw [if_neg (by omega), if_pos h] at e
            cases e
        · cases H
end Go.Proofs.Ytpphpcmbpbppoaa.Mach
end
section
namespace Go.Proofs.Ytpphpcmbpbppoaa.Mach
open Go.RowKit Go.Proofs.YtpphpcmbpbppoaaW.PrintWords Go.Proofs.YtpphpcmbpbppoaaW.PrintLast Go.Proofs.YtpphpcmbpbppoaaW.PrintMore
open Go.Proofs.Ytpphpcmbpbppoaa.Calm
open Go.Proofs.Ytpphpcmbpbppoaa.PMirFuel (S30 S57 S34 S37 S40 S43 S45 S48 k30 k57 k34 k37 k40 k43 k45 k48 rd_T30 rd_T57 rd_T34 rd_T37 rd_T40 rd_T43 rd_T45 rd_T48 at_T30 at_T57 at_T34 at_T40 at_T45 at_T48)
set_option linter.unusedVariables false
set_option linter.unusedSimpArgs false
structure GOK (G : Glob) : Prop where
  hg : Kd.C k48 G.w0 G.lA G.l.length G.l
  lc : G.l.length ≤ G.lc
  ll : G.l.length < 4611686018427387904
  forms : Forms G.l
def BodyOK (G : Glob) (n : Nat) : Prop := ∀ (S : Nat → Prop) (L : Lay) (F : Fr) (st : St) (w : World) (q : Addr) (f : S48) (A1 A5 : Option Addr) (c1 c5 : Nat),
  In G S L F st w → MA G.w0 q f A1 c1 A5 c5 → FormF G.l f → F.at_.length = f.f1.length → F.held.length = f.f1.length → Fits st → st.fuel - st.steps ≤ n →
  Calls Try.prog 55 #[.pointer (some ⟨G.m, 0, none⟩), .pointer (some q)] w (CPost G S (fun b => b = F.hb) F (exec G.l n st F.at_ F.held f 0 0) w)
abbrev XR (l : List S48) (n : Nat) : Runs := fun st at_ held f => exec l n st at_ held f 0 0
theorem putP_length (k : Nat) (vs : List Int) (h : vs.length ≤ k) : (putP (List.replicate k 0) vs).length = k := by
  simp [putP]; omega
theorem enter_fits {st : St} {f : S48} {vs : List Int} {l : List S48} (H : Fits st) (hc : st.calls < 392) (FF : FormF l f) (hv : vs.length ≤ need f.f1) : Fits (enterP st f vs) := by
  refine ⟨H.s0, H.fu, H.pr, by have := H.c0; simp only [enterP]; omega, by simp only [enterP]; omega, by have := H.d0; simp only [enterP]; split <;> omega, ?_⟩
  have h1 := H.sk
  have h2 := FF.hw
  have h3 : (enterP st f vs).stack.length = st.stack.length + need f.f1 := by simp only [enterP, List.length_append, putP_length _ _ hv]
  show ((enterP st f vs).stack.length : Int) ≤ (st.calls + 1) * 1000000000
  rw [h3]
  push_cast
  omega
theorem enters {G : Glob} {n : Nat} (BO : BodyOK G n) {q : Addr} {f : S48} {A1 A5 : Option Addr} {c1 c5 : Nat} (M : MA G.w0 q f A1 c1 A5 c5) (FF : FormF G.l f) {st : St} {vs : List Int} (H : Fits st) (hc : st.calls < 392) (hv : vs.length ≤ need f.f1) (hn : st.fuel - st.steps ≤ n) :
    EntersOk G q f st vs (XR G.l n) := by
  refine ⟨fun S' L' F2 w' I h1 h2 h3 => ?_, fun st' h out e => ?_⟩
  · have := BO S' L' F2 (enterP st f vs) w' q f A1 A5 c1 c5 I M FF (by rw [h1, frameAt_length]) (by rw [h2]; simp) (enter_fits H hc FF hv) hn
    rw [h1, h2] at this
    exact this
  · have k := (exec_keep _ _ _ _ _ _ _ _ _ _ _ e).1
    exact ⟨k.calls, k.depth, k.stack⟩
set_option maxHeartbeats 1000000 in
theorem instr_all {G : Glob} (GG : GOK G) {n : Nat} (BO : BodyOK G n) {S : Nat → Prop} {L : Lay} {F : Fr} {st : St} {w : World} (I : In G S L F st w) {p : Addr} {s : S40} {A7 A9 A15 A16 A17 : Option Addr} {c7 c9 c15 c16 c17 : Nat} (H0 : IA G.w0 p s A7 c7 A9 c9 A15 c15 A16 c16 A17 c17)
    (FI : FormI G.l F.at_.length s) (hh : F.held.length = F.at_.length) (FT : Fits st) (hs : st.steps ≤ st.fuel) (hn : st.fuel - st.steps ≤ n) :
    Calls Try.prog 82 #[.pointer (some ⟨G.m, 0, none⟩), .pointer (some p)] w (BigPost G S F (instrP (XR G.l n) G.l st F s) w) := by
  have H : IA w p s A7 c7 A9 c9 A15 c15 A16 c16 A17 c17 := H0.below I.base
  have hS : ¬ S p.block := fun h => by
    have h1 := World.block_lt_of_cell? _ _ H0.h0
    have h2 := I.ge _ h
    omega
  cases FI with
  | set h d a =>
    rw [show instrP (XR G.l n) G.l st F s = (isetP st F s).big F.held by simp [instrP, instr0P, h]]
    exact (instr_set I H h a d.1 d.2).mono fun _ _ => BigPost.of_res
  | bin h d a b t =>
    rw [show instrP (XR G.l n) G.l st F s = (ibinP st F s).big F.held by simp [instrP, instr0P, h]]
    exact (instr_bin I H h a b d.1 d.2 t).mono fun _ _ => BigPost.of_res
  | load h d p =>
    rw [show instrP (XR G.l n) G.l st F s = (iloadP st F s).big F.held by simp [instrP, instr0P, h]]
    exact (instr_load I H h p d.1 d.2).mono fun _ _ => BigPost.of_res
  | store h p a =>
    rw [show instrP (XR G.l n) G.l st F s = (istoreP st F s).big F.held by simp [instrP, instr0P, h]]
    exact (instr_store I H h p a).mono fun _ _ => BigPost.of_res
  | copy h p q n0 n1 =>
    rw [show instrP (XR G.l n) G.l st F s = (icopyP st F s).big F.held by simp [instrP, instr0P, h]]
    exact (instr_copy I H h p q n0 n1).mono fun _ _ => BigPost.of_res
  | addr h d p =>
    rw [show instrP (XR G.l n) G.l st F s = (iaddrP st F s).big F.held by simp [instrP, instr0P, h]]
    exact (instr_addr I H h p d.1 d.2).mono fun _ _ => BigPost.of_res
  | alloc h d n0 n1 =>
    rw [show instrP (XR G.l n) G.l st F s = (allocP st F s.f6 s.f1).big F.held by simp [instrP, instr0P, h]]
    exact (instr_alloc I H h hS n0 n1 d.1 d.2).mono fun _ _ => BigPost.of_res
  | free h a =>
    rw [show instrP (XR G.l n) G.l st F s = (ifreeP st F s).big F.held by simp [instrP, instr0P, h]]
    exact (instr_free I H h a).mono fun _ _ => BigPost.of_res
  | give h d =>
    rw [show instrP (XR G.l n) G.l st F s = igiveP st F s true by simp [instrP, instr0P, h]]
    have h0 := H.h0
    rw [h] at h0
    exact other_10 h0 (instr_give I H h d.1 (by rw [hh]; exact d.2))
  | take h d =>
    rw [show instrP (XR G.l n) G.l st F s = igiveP st F s false by simp [instrP, instr0P, h]]
    have h0 := H.h0
    rw [h] at h0
    exact other_11 h0 (instr_take I H h d.1 (by rw [hh]; exact d.2))
  | print h a =>
    rw [show instrP (XR G.l n) G.l st F s = iprintP st F s by simp [instrP, instr0P, h]]
    have h0 := H.h0
    rw [h] at h0
    exact other_13 h0 (instr_print I H h a (by have := FT.pr; have := FT.fu; omega))
  | read h d =>
    rw [show instrP (XR G.l n) G.l st F s = ireadP st F s by simp [instrP, instr0P, h]]
    have h0 := H.h0
    rw [h] at h0
    exact other_14 h0 (instr_read I H h hS d.1 d.2)
  | call h k h8 h10 args dsts hv ha =>
    rw [show instrP (XR G.l n) G.l st F s = icallP (XR G.l n) G.l st F s by simp [instrP, h]]
    have h0 := H.h0
    rw [h] at h0
    have hkb : findP G.l s.f7 < G.l.length := by rcases findP_bounds G.l s.f7 with h | h <;> omega
    have FF := GG.forms _ k hkb
    have hvs : ∀ vs, allP st F s.f9 = some vs → vs.length ≤ need (rd_T48 G.l (findP G.l s.f7)).f1 := fun vs e => by rw [allP_length e]; exact hv
    refine other_15 h0 (instr_call I H0 h GG.hg GG.lc GG.ll k h8 h10 args dsts rfl FF.hl ?_ FF.h0 hvs FT.c0 FT.d0 (fun q A1 c1 A5 c5 vs M e hc => enters BO M FF FT hc (hvs vs e) hn) ?_)
    · have h1 := FT.sk
      have h2 := FF.hw
      have h3 := FT.c1
      have h4 := FT.c0
      omega
    · intro vs st' h out e hc
      unfold callP at hc
      split at hc
      · cases hc
      · split at hc
        · rename_i st1 h1 out1 e1
          injection hc with _ _ e2
          subst e2
          have := exec_out _ _ _ _ _ _ _ _ _ _ _ FF (by omega) (by have := FF.hb; omega) e1
          omega
        · cases hc
end Go.Proofs.Ytpphpcmbpbppoaa.Mach
end
section
namespace Go.Proofs.Ytpphpcmbpbppoaa.Mach
open Go.RowKit Go.Proofs.YtpphpcmbpbppoaaW.PrintWords Go.Proofs.YtpphpcmbpbppoaaW.PrintLast Go.Proofs.YtpphpcmbpbppoaaW.PrintMore
open Go.Proofs.Ytpphpcmbpbppoaa.Calm
open Go.Proofs.Ytpphpcmbpbppoaa.PMirFuel (S30 S57 S34 S37 S40 S43 S45 S48 k30 k57 k34 k37 k40 k43 k45 k48 rd_T30 rd_T57 rd_T34 rd_T37 rd_T40 rd_T43 rd_T45 rd_T48 at_T30 at_T57 at_T34 at_T40 at_T45 at_T48)
set_option linter.unusedVariables false
set_option linter.unusedSimpArgs false
structure BA (w : World) (p : Addr) (B : S45) (A0 : Option Addr) (c0 : Nat) (A6 : Option Addr) (c6 : Nat) : Prop where
  h0 : w.cell? p = some (.slice A0 B.f0.length c0)
  h1 : w.cell? ⟨p.block, p.off + 1, none⟩ = some (.int .i64 B.f1.f0)
  h2 : w.cell? ⟨p.block, p.off + 2, none⟩ = some (.bool B.f1.f1.f0)
  h3 : w.cell? ⟨p.block, p.off + 3, none⟩ = some (.int .i64 B.f1.f1.f1)
  h4 : w.cell? ⟨p.block, p.off + 4, none⟩ = some (.int .i64 B.f1.f2)
  h5 : w.cell? ⟨p.block, p.off + 5, none⟩ = some (.int .i64 B.f1.f3)
  h6 : w.cell? ⟨p.block, p.off + 6, none⟩ = some (.slice A6 B.f1.f4.length c6)
  l0 : B.f0.length ≤ c0
  g0 : k40.C w A0 B.f0.length B.f0
  l6 : B.f1.f4.length ≤ c6
  g6 : k30.C w A6 B.f1.f4.length B.f1.f4
theorem BA.of {w : World} {A : Option Addr} {xs : List S45} (h : Kd.C k45 w A xs.length xs) (i : Int) (h0 : 0 ≤ i) (h1 : i < xs.length) : ∃ ad A0 c0 A6 c6, A = some ad ∧ BA w (ad.add (i.toNat * 7)) (rd_T45 xs i) A0 c0 A6 c6 := by
  obtain ⟨ad, A0, c0, A6, c6, e, q0, q1, q2, q3, q4, q5, q6, l0, g0, l6, g6⟩ := at_T45 h i h0 h1
  exact ⟨ad, A0, c0, A6, c6, e, q0, q1, q2, q3, q4, q5, q6, l0, g0, l6, g6⟩
theorem BA.below {w w' : World} {p : Addr} {B : S45} {A0 A6 : Option Addr} {c0 c6 : Nat} (H : BA w p B A0 c0 A6 c6) (hb : Below w.heap.size w w') : BA w' p B A0 c0 A6 c6 :=
  ⟨pw_cell_below hb H.h0, pw_cell_below hb H.h1, pw_cell_below hb H.h2, pw_cell_below hb H.h3, pw_cell_below hb H.h4, pw_cell_below hb H.h5, pw_cell_below hb H.h6, H.l0, Kd.C_below H.g0 hb, H.l6, Kd.C_below H.g6 hb⟩
theorem In.of_rep {G : Glob} {S : Nat → Prop} {L : Lay} {F : Fr} {st st' : St} {w w' : World} (I : In G S L F st w) (K : Kept S w w') (R : Rep S G.m L (some ⟨F.xb, 0, none⟩) st' w') (hi : st'.input = st.input) : In G S L F st' w' :=
  ⟨R, I.lA, I.lc, I.ln, I.base.trans (K.below_of I.ge I.base.size), I.ge, by rw [hi]; exact I.inp, by rw [hi]; exact I.inc, I.fr.kept K I.o1 I.o2 I.o3, I.o1, I.o2, I.o3, I.g3, fun b h => Nat.lt_of_lt_of_le (I.lt b h) K.size⟩
theorem step_in {G : Glob} {S : Nat → Prop} {L : Lay} {F : Fr} {st : St} {w : World} (I : In G S L F st w) (FT : Fits st) (h : st.steps < st.fuel) :
    Calls Try.prog 81 #[.pointer (some ⟨G.m, 0, none⟩)] w fun e w' => e = .returned (.tuple #[]) ∧ Kept S w w' ∧ In G S L F (tick st) w' :=
  (step_ok I.rep FT.s0 h (by have := FT.fu; omega)).mono fun e w' ⟨he, K, R⟩ => ⟨he, K, I.of_rep K R rfl⟩
theorem BigPost.cases {G : Glob} {S : Nat → Prop} {F : Fr} {r : Res2} {w w' : World} {e : Ending} (h : BigPost G S F r w e w') :
    (∃ st' held S' L', r = .ok st' held ∧ e = .returned (.tuple #[]) ∧ Kept (fun b => S b ∨ b = F.hb) w w' ∧ (∀ b, S' b → S b ∨ w.heap.size ≤ b) ∧ In G S' L' { F with held := held } st' w') ∨
    ∃ k c st' ch, r = .halt k c st' ∧ e = .panicked ch ∧ Kept (fun b => S b ∨ b = F.hb) w w' ∧ HaltCh ch k c ∧ ∃ S' L' x', (∀ b, S' b → S b ∨ w.heap.size ≤ b) ∧ Rep S' G.m L' x' st' w' := by
  cases r with
  | ok st held => obtain ⟨K, he, S', L', hs, I⟩ := h; exact .inl ⟨st, held, S', L', rfl, he, K, hs, I⟩
  | halt k c st => obtain ⟨K, ⟨ch, he, hc⟩, R⟩ := h; exact .inr ⟨k, c, st, ch, rfl, he, K, hc, R⟩
structure Going (G : Glob) (S : Nat → Prop) (F : Fr) (f : S48) (w : World) (n : Nat) (R : ResC) (b : Int) (i : Nat) (S' : Nat → Prop) (L' : Lay) (st' : St) (held' : List Bool) (k : Nat) (wr : World) : Prop where
  inn : In G S' L' { F with held := held' } st' wr
  hs : ∀ b, S' b → S b ∨ w.heap.size ≤ b
  kept : Kept (fun b => S b ∨ b = F.hb) w wr
  run : exec G.l k st' F.at_ held' f b i = R
  fits : Fits st'
  hl : held'.length = F.at_.length
  left : st'.fuel - st'.steps ≤ k
  kn : k ≤ n
namespace Going
variable {G : Glob} {S S' : Nat → Prop} {F : Fr} {f : S48} {w wr : World} {n k : Nat} {R : ResC} {b : Int} {i : Nat} {L' : Lay} {st' : St} {held' : List Bool}
theorem below (H : Going G S F f w n R b i S' L' st' held' k wr) {w2 : World} (hb : Below wr.heap.size wr w2) : Going G S F f w n R b i S' L' st' held' k w2 :=
  ⟨H.inn.below hb, H.hs, H.kept.below hb, H.run, H.fits, H.hl, H.left, H.kn⟩
theorem grow (H : Going G S F f w n R b i S' L' st' held' k wr) {w2 : World} (K : Kept (fun b => S' b ∨ b = F.hb) wr w2) : Kept (fun b => S b ∨ b = F.hb) w w2 :=
  H.kept.trans (K.mono fun b h => h.elim (fun x => (H.hs b x).elim (fun y => .inl (.inl y)) (fun y => .inr ⟨y, H.inn.lt b x⟩)) (fun x => .inl (.inr x)))
theorem out (H : Going G S F f w n R b i S' L' st' held' k wr) (h : ¬ st'.steps < st'.fuel) : R = .halt 0 0 st' := by
  rw [← H.run]
  cases k with
  | zero => rfl
  | succ k => simp only [exec]; rw [if_pos (by omega)]
theorem more (H : Going G S F f w n R b i S' L' st' held' k wr) (h : st'.steps < st'.fuel) : ∃ k', k = k' + 1 ∧ (tick st').fuel - (tick st').steps ≤ k' ∧ Fits (tick st') := by
  have h1 := H.left
  cases k with
  | zero => omega
  | succ k => exact ⟨k, rfl, by simp only [tick]; omega, H.fits.keeps (tick_keeps st')⟩
theorem run_instr (H : Going G S F f w n R b i S' L' st' held' (k + 1) wr) (h : st'.steps < st'.fuel) (hi : i < (rd_T45 f.f5 b).f0.length) {s : S40} (hs : rd_T40 (rd_T45 f.f5 b).f0 (i : Int) = s) :
    (match instrP (XR G.l k) G.l (tick st') { F with held := held' } s with | .ok st2 h2 => exec G.l k st2 F.at_ h2 f b (i + 1) | .halt k c st2 => .halt k c st2) = R := by
  have h1 := H.run
  simp only [exec] at h1
  rw [if_neg (by omega), if_pos hi, hs] at h1
  rw [← instrP_pf]
  exact h1
theorem next (H : Going G S F f w n R b i S' L' st' held' (k + 1) wr) {w2 w3 : World} {s : S40} {st3 : St} {held3 : List Bool} {S3 : Nat → Prop} {L3 : Lay} (K2 : Kept S' wr w2) (hr : instrP (XR G.l k) G.l (tick st') { F with held := held' } s = .ok st3 held3)
    (hrun : (match instrP (XR G.l k) G.l (tick st') { F with held := held' } s with | .ok st2 h2 => exec G.l k st2 F.at_ h2 f b (i + 1) | .halt k c st2 => .halt k c st2) = R) (K3 : Kept (fun b => S' b ∨ b = F.hb) w2 w3) (hs3 : ∀ b, S3 b → S' b ∨ w2.heap.size ≤ b) (I3 : In G S3 L3 { F with held := held3 } st3 w3) :
    Going G S F f w n R b (i + 1) S3 L3 st3 held3 k w3 ∧ st3.fuel = st'.fuel ∧ st'.steps + 1 ≤ st3.steps := by
  have kp := instrP_keep (X := XR G.l k) (l := G.l) (st := tick st') (F := { F with held := held' }) (s := s) (fun st0 a h f st' h' o e => (exec_keep G.l k _ _ _ _ _ _ _ _ _ e).1)
  rw [hr] at kp hrun
  have ks := Keeps1.tick kp.1
  have h1 : (tick st').steps ≤ st3.steps := kp.1.steps
  have h2 : st3.fuel = st'.fuel := ks.fuel
  have h3 : (tick st').steps = st'.steps + 1 := rfl
  have h4 := H.left
  refine ⟨⟨I3, fun b h => (hs3 b h).elim (H.hs b) (fun x => .inr (Nat.le_trans (Nat.le_trans H.kept.size K2.size) x)), H.grow ((K2.mono fun b h => .inl h).then_ K3), hrun, H.fits.keeps ks, kp.2.trans H.hl, by omega, by have := H.kn; omega⟩, h2, by omega⟩
theorem jump (H : Going G S F f w n R b i S' L' st' held' (k + 1) wr) (h : st'.steps < st'.fuel) {w2 : World} (K2 : Kept S' wr w2) (I2 : In G S' L' { F with held := held' } (tick st') w2) {b2 : Int} (hrun : exec G.l k (tick st') F.at_ held' f b2 0 = R) :
    Going G S F f w n R b2 0 S' L' (tick st') held' k w2 :=
  ⟨I2, H.hs, H.grow (K2.mono fun b h => .inl h), hrun, H.fits.keeps (tick_keeps st'), H.hl, by have := H.left; simp only [tick]; omega, by have := H.kn; omega⟩
theorem run_term (H : Going G S F f w n R b i S' L' st' held' (k + 1) wr) (h : st'.steps < st'.fuel) (hi : ¬ i < (rd_T45 f.f5 b).f0.length) :
    (match termP (tick st') { F with held := held' } (rd_T45 f.f5 b).f1 with | .go b2 => exec G.l k (tick st') F.at_ held' f b2 0 | .out vs => .ok (tick st') held' vs | .halt k c => .halt k c (tick st')) = R := by
  have h1 := H.run
  simp only [exec] at h1
  rw [if_neg (by omega), if_neg hi] at h1
  rw [← termP_pf]
  exact h1
end Going
theorem CPost.halt_any {G : Glob} {S T S' : Nat → Prop} {L' : Lay} {F : Fr} {st : St} {w w' : World} {k c : Int} {r : ResC} {x' : Option Addr} {ch : List PanicEntry} (hr : r = .halt k c st) (hc : HaltCh ch k c) (K : Kept (fun b => S b ∨ T b) w w') (hs : ∀ b, S' b → S b ∨ w.heap.size ≤ b) (R : Rep S' G.m L' x' st w') : CPost G S T F r w (.panicked ch) w' := by
  subst hr; exact ⟨K, ⟨_, rfl, hc⟩, S', L', x', hs, R⟩
def stepsAt (m : Nat) (w : World) : Int := intOf ((w.cell? ⟨m, 3, none⟩).getD undef)
theorem In.stepsAt {G : Glob} {S : Nat → Prop} {L : Lay} {F : Fr} {st : St} {w : World} (I : In G S L F st w) : stepsAt G.m w = st.steps := by
  unfold Go.Proofs.Ytpphpcmbpbppoaa.Mach.stepsAt
  rw [I.rep.c3]; rfl
set_option maxRecDepth 100000 in
set_option maxHeartbeats 8000000 in
theorem body_ok {G : Glob} (GG : GOK G) (n : Nat) (IH : ∀ k, k < n → BodyOK G k) : BodyOK G n := by
  intro S L F st w q f A1 A5 c1 c5 I M FF hat hheld FT hn
  obtain ⟨ad, B0, b0, B6, b6, eA, hBA⟩ := BA.of M.g5 0 (by omega) (by have := FF.hb; omega)
  obtain rfl := eA
  have GO : Going G S F f w n (exec G.l n st F.at_ F.held f 0 0) 0 0 S L st F.held n w :=
    ⟨I, fun b h => .inl h, Kept.refl _ _, rfl, FT, by rw [hheld, hat], hn, Nat.le_refl _⟩
  have HGO := Aside0.mk GO
  have MM := Aside0.mk M
  have HFF := Aside0.mk FF
  have HIH := Aside0.mk IH
  have q5 := pw_cell_below I.base M.h5
  have hb0 := FF.hb
  have hat' := Aside0.mk hat
  generalize exec G.l n st F.at_ F.held f 0 0 = R at HGO ⊢
  have hfu : st.fuel ≤ 1000000000000 := FT.fu
  clear I M FF hheld FT hn GO hBA IH hat
  go_enter Try.func55, Try.ntmps55
  go_wp2
  go_loopw [5] (fun v wr => ∃ b : Int, v = .pointer (some (ad.add (b.toNat * 7))) ∧ 0 ≤ b ∧ b < f.f5.length ∧ Aside0 (∃ S' L' st' held' k, Going G S F f w n R b 0 S' L' st' held' k wr ∧ st'.fuel = st.fuel)) (fun _ wr => (st.fuel - stepsAt G.m wr).toNat)
  case atStart => exact ⟨0, rfl, by omega, by omega, ⟨S, L, st, F.held, n, HGO.out, rfl⟩⟩
  case round =>
    obtain ⟨b, rfl, hb0', hb1, H0⟩ := hrel
    obtain ⟨S0, L0, st0, held0, k0, H0, hf0⟩ := H0
    obtain ⟨ad', A0, c0, A6, c6, e, hBA⟩ := BA.of MM.out.g5 b hb0' hb1
    obtain rfl : ad = ad' := Option.some.inj e
    have BB := Aside0.mk hBA
    have q0 := pw_cell_below H0.inn.base hBA.h0
    have hs0 := H0.inn.stepsAt
    have HST0 := Aside0.mk hs0
    have HINS := Aside0.mk (HFF.out.ins b hb0' hb1)
    have HTM := Aside0.mk (HFF.out.term b hb0' hb1)
    have HH0 := Aside0.mk (show ∃ S' L' st' held' k, Going G S F f w n R b 0 S' L' st' held' k wr ∧ st'.fuel = st.fuel ∧ st0.steps ≤ st'.steps from ⟨S0, L0, st0, held0, k0, H0, hf0, Int.le_refl _⟩)
    generalize hBq : rd_T45 f.f5 b = Bk at *
    have HBq := Aside0.mk hBq
    generalize ad.add (b.toNat * 7) = P at *
    clear hBA H0 e hs0 hBq
    go_wp2
    go_loopw [19] (fun v wr => ∃ i : Int, v = .int .i64 i ∧ 0 ≤ i ∧ i ≤ Bk.f0.length ∧ Aside0 (∃ S' L' st' held' k, Going G S F f w n R b i.toNat S' L' st' held' k wr ∧ st'.fuel = st.fuel ∧ st0.steps ≤ st'.steps)) (fun v _ => Bk.f0.length - (intOf v).toNat)
    case atStart => exact ⟨0, rfl, by omega, by omega, HH0⟩
    case round =>
      obtain ⟨i, rfl, hi0, hi1, H1⟩ := hrel
      obtain ⟨S1, L1, st1, held1, k1, H1, hf1, hle1⟩ := H1
      by_cases hlt : i < Bk.f0.length
      · by_cases hfu1 : st1.steps < st1.fuel
        · obtain ⟨k', rfl, hk', FT1⟩ := H1.more hfu1
          obtain ⟨ai, A7, c7, A9, c9, A15, c15, A16, c16, A17, c17, eI, hIA⟩ := IA.of BB.out.g0 i hi0 hlt
          obtain rfl := eI
          have HIA := Aside0.mk hIA
          have HFI := Aside0.mk (show FormI G.l ({ F with held := held1 } : Fr).at_.length (rd_T40 Bk.f0 i) from by
            have h := HINS.out i.toNat (by omega)
            rw [show ((i.toNat : Nat) : Int) = i by omega, ← hat'.out] at h
            exact h)
          have HRUN := Aside0.mk (H1.run_instr hfu1 (by rw [HBq.out]; omega) (s := rd_T40 Bk.f0 i) (by rw [HBq.out, show ((i.toNat : Nat) : Int) = i by omega]))
          have q0r := pw_cell_below H1.inn.base BB.out.h0
          have HH1 := Aside0.mk H1
          have HK' := Aside0.mk hk'
          have HFT1 := Aside0.mk FT1
          have HFU1 := Aside0.mk hfu1
          have nx : (i + 1).toNat = i.toNat + 1 := by omega
          have hm1 : i < 9223372036854775807 := by have := HFF.out.len b; rw [HBq.out] at this; omega
          clear hIA H1 hk' FT1 hfu1
          go_wp2_with (first | (go_at_call 81; refine (step_in HH1.out.inn HH1.out.fits HFU1.out).mono ?_; rintro e w2 ⟨rfl, K2, I2⟩; have q2 := pw_cell_below I2.base BB.out.h0; have IN2 := Aside0.mk I2; have KP2 := Aside0.mk K2; clear I2 K2) | (go_at_call 82; refine (instr_all GG (HIH.out k' (by have := HH1.out.kn; omega)) IN2.out HIA.out HFI.out HH1.out.hl HFT1.out (by have := HFU1.out; simp only [tick]; omega) HK'.out).mono ?_; intro e w3 hp; rcases hp.cases with ⟨st3, held3, S3, L3, hr, rfl, K3, hs3, I3⟩ | ⟨k3, c3, st3, ch, hr, rfl, K3, hc3, R3⟩))
          · obtain ⟨g1, g2, g3⟩ := HH1.out.next KP2.out hr HRUN.out K3 hs3 I3
            have hf1' : st3.fuel = st.fuel := g2.trans hf1
            have hle1' : st0.steps ≤ st3.steps := by omega
            refine ⟨⟨i + 1, rfl, by omega, by omega, ⟨S3, L3, st3, held3, k', by rw [nx]; exact g1, hf1', hle1'⟩⟩, by simp [intOf]; omega⟩
          · obtain ⟨S3, L3, x3, hs3, R3⟩ := R3
            have hres := HRUN.out
            rw [hr] at hres
            exact ⟨rfl, CPost.halt_any hres.symm hc3 (HH1.out.grow ((KP2.out.mono fun b h => .inl h).then_ K3)) (fun b h => (hs3 b h).elim (HH1.out.hs b) (fun x => .inr (Nat.le_trans (Nat.le_trans HH1.out.kept.size KP2.out.size) x))) R3⟩
        · have HH1 := Aside0.mk H1
          have HFU1 := Aside0.mk (Int.not_lt.1 hfu1)
          clear hfu1 H1
          go_wp2_with (go_at_call 81; refine (step_out HH1.out.inn.rep (Int.not_lt.2 HFU1.out)).mono ?_; rintro e w2 ⟨rfl, K2, R2⟩)
          exact ⟨rfl, CPost.halt_any (HH1.out.out (Int.not_lt.2 HFU1.out)) (.inl rfl) (HH1.out.grow (K2.mono fun b h => .inl h)) HH1.out.hs R2⟩
      · have hd : decide (i < (Bk.f0.length : Int)) = false := decide_eq_false hlt
        have hx : ¬ i.toNat < (rd_T45 f.f5 b).f0.length := by rw [HBq.out]; omega
        have q0r := pw_cell_below H1.inn.base BB.out.h0
        by_cases hfu1 : st1.steps < st1.fuel
        · obtain ⟨k', rfl, hk', FT1⟩ := H1.more hfu1
          have hrun := H1.run_term hfu1 hx
          rw [HBq.out] at hrun
          have HRUN := Aside0.mk hrun
          have HH1 := Aside0.mk H1
          have HFU1 := Aside0.mk hfu1
          have HF1 := Aside0.mk hf1
          have HLE1 := Aside0.mk hle1
          clear hrun H1 hk' FT1 hfu1 hx hf1 hle1
          cases HTM.out with
          | goto h g1 =>
            have ht : termP (tick st1) { F with held := held1 } Bk.f1 = .go Bk.f1.f2 := by simp [termP, h]
            have HT := Aside0.mk ht
            clear ht
            go_wp2_with (go_at_call 81; refine (step_in HH1.out.inn HH1.out.fits HFU1.out).mono ?_; rintro e w2 ⟨rfl, K2, I2⟩; have p1 := pw_cell_below I2.base BB.out.h1; rw [h] at p1; have p2 := pw_cell_below I2.base BB.out.h2; have p3 := pw_cell_below I2.base BB.out.h3; have p4 := pw_cell_below I2.base BB.out.h4; have p5 := pw_cell_below I2.base BB.out.h5; have p6 := pw_cell_below I2.base BB.out.h6; have r5 := fun o => pw_cell_below (below_alloc (Below.refl _ w2) o) (pw_cell_below I2.base MM.out.h5); have IN2 := Aside0.mk I2; have KP2 := Aside0.mk K2; clear I2 K2)
            have J := (HH1.out.jump HFU1.out KP2.out IN2.out (b2 := Bk.f1.f2) (by have h2 := HRUN.out; rw [HT.out] at h2; exact h2)).below (below_alloc (Below.refl _ w2) (Obj.cells #[.int .i64 1, .bool Bk.f1.f1.f0, .int .i64 Bk.f1.f1.f1, .int .i64 Bk.f1.f2, .int .i64 Bk.f1.f3, .slice A6 Bk.f1.f4.length c6] 43))
            have hm := J.inn.stepsAt
            have hm2 : (tick st1).steps = st1.steps + 1 := rfl
            have hm3 := HST0.out
            have hm4 := HFU1.out
            have hm5 := HF1.out
            have hm6 := HLE1.out
            exact ⟨⟨Bk.f1.f2, rfl, g1.1, g1.2, ⟨_, _, _, _, _, J, HF1.out⟩⟩, by rw [hm, hm3, hm2]; omega⟩
          | cond h a g1 g2 => 
            cases hv : operandP (tick st1) { F with held := held1 } Bk.f1.f1 with
            | none =>
              have HV := Aside0.mk hv
              have HT := Aside0.mk (show termP (tick st1) { F with held := held1 } Bk.f1 = .halt 4 0 by simp [termP, h, hv])
              have HA := Aside0.mk (show OpIn { F with held := held1 } Bk.f1.f1 from by unfold OpIn; show Bk.f1.f1.f0 = false → 0 ≤ Bk.f1.f1.f1 ∧ Bk.f1.f1.f1 < F.at_.length; rw [hat'.out]; exact a)
              clear hv a
              go_wp2_with (first | (go_at_call 81; refine (step_in HH1.out.inn HH1.out.fits HFU1.out).mono ?_; rintro e w2 ⟨rfl, K2, I2⟩; have p1 := pw_cell_below I2.base BB.out.h1; rw [h] at p1; have p2 := pw_cell_below I2.base BB.out.h2; have p3 := pw_cell_below I2.base BB.out.h3; have p4 := pw_cell_below I2.base BB.out.h4; have p5 := pw_cell_below I2.base BB.out.h5; have p6 := pw_cell_below I2.base BB.out.h6; have r5 := fun o => pw_cell_below (below_alloc (Below.refl _ w2) o) (pw_cell_below I2.base MM.out.h5); have IN2 := Aside0.mk I2; have KP2 := Aside0.mk K2; clear I2 K2) | (go_at_call 84; refine (operand_bad (IN2.out.alloc _) _ HA.out HV.out).mono ?_; rintro e w3 ⟨rfl, hb⟩))
              exact ⟨rfl, CPost.halt_any (by have h2 := HRUN.out; rw [HT.out] at h2; exact h2.symm) (.inl rfl) (HH1.out.grow ((KP2.out.mono fun b h => .inl h).below (below_then (below_alloc (Below.refl _ w2) _) (by simp) hb))) HH1.out.hs (IN2.out.rep.below (below_then (below_alloc (Below.refl _ w2) _) (by simp) hb))⟩
            | some v =>
              have HV := Aside0.mk hv
              have HA := Aside0.mk (show OpIn { F with held := held1 } Bk.f1.f1 from by unfold OpIn; show Bk.f1.f1.f0 = false → 0 ≤ Bk.f1.f1.f1 ∧ Bk.f1.f1.f1 < F.at_.length; rw [hat'.out]; exact a)
              by_cases hv0 : v = 0
              · subst hv0
                have HT := Aside0.mk (show termP (tick st1) { F with held := held1 } Bk.f1 = .go Bk.f1.f3 by simp [termP, h, hv])
                clear hv a
                go_wp2_with (first | (go_at_call 81; refine (step_in HH1.out.inn HH1.out.fits HFU1.out).mono ?_; rintro e w2 ⟨rfl, K2, I2⟩; have p1 := pw_cell_below I2.base BB.out.h1; rw [h] at p1; have p2 := pw_cell_below I2.base BB.out.h2; have p3 := pw_cell_below I2.base BB.out.h3; have p4 := pw_cell_below I2.base BB.out.h4; have p5 := pw_cell_below I2.base BB.out.h5; have p6 := pw_cell_below I2.base BB.out.h6; have r5 := fun o => pw_cell_below (below_alloc (Below.refl _ w2) o) (pw_cell_below I2.base MM.out.h5); have IN2 := Aside0.mk I2; have KP2 := Aside0.mk K2; clear I2 K2) | (go_at_call 84; refine (operand_ok (IN2.out.alloc _) _ HA.out HV.out).mono ?_; rintro e w3 ⟨rfl, hb⟩; have t4 : w3.cell? ⟨w2.heap.size, 4, none⟩ = some (.int .i64 Bk.f1.f3) := pw_cell_below hb (by simp [go_sem]); have t5 := pw_cell_below hb (r5 _)))
                have J := (HH1.out.jump HFU1.out KP2.out IN2.out (b2 := Bk.f1.f3) (by have h2 := HRUN.out; rw [HT.out] at h2; exact h2)).below (below_then (below_alloc (Below.refl _ w2) _) (by simp) hb)
                have hm := J.inn.stepsAt
                have hm2 : (tick st1).steps = st1.steps + 1 := rfl
                have hm3 := HST0.out
                have hm4 := HFU1.out
                have hm5 := HF1.out
                have hm6 := HLE1.out
                exact ⟨⟨Bk.f1.f3, rfl, g2.1, g2.2, ⟨_, _, _, _, _, J, HF1.out⟩⟩, by rw [hm, hm3, hm2]; omega⟩
              · have HT := Aside0.mk (show termP (tick st1) { F with held := held1 } Bk.f1 = .go Bk.f1.f2 by simp [termP, h, hv, hv0])
                have hvd : (v == 0) = false := by simp [hv0]
                clear hv a
                go_wp2_with (first | (go_at_call 81; refine (step_in HH1.out.inn HH1.out.fits HFU1.out).mono ?_; rintro e w2 ⟨rfl, K2, I2⟩; have p1 := pw_cell_below I2.base BB.out.h1; rw [h] at p1; have p2 := pw_cell_below I2.base BB.out.h2; have p3 := pw_cell_below I2.base BB.out.h3; have p4 := pw_cell_below I2.base BB.out.h4; have p5 := pw_cell_below I2.base BB.out.h5; have p6 := pw_cell_below I2.base BB.out.h6; have r5 := fun o => pw_cell_below (below_alloc (Below.refl _ w2) o) (pw_cell_below I2.base MM.out.h5); have IN2 := Aside0.mk I2; have KP2 := Aside0.mk K2; clear I2 K2) | (go_at_call 84; refine (operand_ok (IN2.out.alloc _) _ HA.out HV.out).mono ?_; rintro e w3 ⟨rfl, hb⟩; have t4 : w3.cell? ⟨w2.heap.size, 4, none⟩ = some (.int .i64 Bk.f1.f3) := pw_cell_below hb (by simp [go_sem]); have t5 := pw_cell_below hb (r5 _)))
                have J := (HH1.out.jump HFU1.out KP2.out IN2.out (b2 := Bk.f1.f2) (by have h2 := HRUN.out; rw [HT.out] at h2; exact h2)).below (below_then (below_alloc (Below.refl _ w2) _) (by simp) hb)
                have hm := J.inn.stepsAt
                have hm2 : (tick st1).steps = st1.steps + 1 := rfl
                have hm3 := HST0.out
                have hm4 := HFU1.out
                have hm5 := HF1.out
                have hm6 := HLE1.out
                exact ⟨⟨Bk.f1.f2, rfl, g1.1, g1.2, ⟨_, _, _, _, _, J, HF1.out⟩⟩, by rw [hm, hm3, hm2]; omega⟩
          | ret h args h8 ha =>
            have HA := Aside0.mk (show ∀ i, i < Bk.f1.f4.length → OpIn { F with held := held1 } (rd_T30 Bk.f1.f4 (i : Int)) from fun i hi => by
              have h1 := args i hi
              unfold OpIn
              show (rd_T30 Bk.f1.f4 (i : Int)).f0 = false → 0 ≤ (rd_T30 Bk.f1.f4 (i : Int)).f1 ∧ (rd_T30 Bk.f1.f4 (i : Int)).f1 < F.at_.length
              rw [hat'.out]; exact h1)
            clear args
            go_wp2_with (first | (go_at_call 81; refine (step_in HH1.out.inn HH1.out.fits HFU1.out).mono ?_; rintro e w2 ⟨rfl, K2, I2⟩; have p1 := pw_cell_below I2.base BB.out.h1; rw [h] at p1; have p2 := pw_cell_below I2.base BB.out.h2; have p3 := pw_cell_below I2.base BB.out.h3; have p4 := pw_cell_below I2.base BB.out.h4; have p5 := pw_cell_below I2.base BB.out.h5; have p6 := pw_cell_below I2.base BB.out.h6; have r5 := fun o => pw_cell_below (below_alloc (Below.refl _ w2) o) (pw_cell_below I2.base MM.out.h5); have IN2 := Aside0.mk I2; have KP2 := Aside0.mk K2; clear I2 K2) | (go_at_call 83; refine (all_any (IN2.out.alloc _) A6 c6 Bk.f1.f4 (Kd.C_below (Kd.C_below BB.out.g6 IN2.out.base) (below_alloc (Below.refl _ w2) _)) BB.out.l6 h8 HA.out _ rfl).mono ?_; intro e w3 hA; rcases hA.cases with ⟨hn, rfl, hb⟩ | ⟨vs, v, hv, rfl, hb, ho, hk8⟩))
            · have HT := Aside0.mk (show termP (tick st1) { F with held := held1 } Bk.f1 = .halt 4 0 by have e : allP (tick st1) { F with held := held1 } Bk.f1.f4 = none := hn; simp [termP, h, e])
              exact ⟨rfl, CPost.halt_any (by have h2 := HRUN.out; rw [HT.out] at h2; exact h2.symm) (.inl rfl) (HH1.out.grow ((KP2.out.mono fun b h => .inl h).below (below_then (below_alloc (Below.refl _ w2) _) (by simp) hb))) HH1.out.hs (IN2.out.rep.below (below_then (below_alloc (Below.refl _ w2) _) (by simp) hb))⟩
            · have HT := Aside0.mk (show termP (tick st1) { F with held := held1 } Bk.f1 = .out vs by have e : allP (tick st1) { F with held := held1 } Bk.f1.f4 = some vs := hv; simp [termP, h, e])
              go_ret
              have hR : R = .ok (tick st1) held1 vs := by have h2 := HRUN.out; rw [HT.out] at h2; exact h2.symm
              rw [hR]
              refine ⟨HH1.out.grow ((KP2.out.mono fun b h => .inl h).below (below_then (below_alloc (Below.refl _ w2) _) (by simp) hb)), v, rfl, ⟨ho.1, ho.2.imp id (fun ⟨g, cap, cur, e, h1, h2⟩ => ⟨g, cap, cur, e, Nat.zero_le _, h2⟩)⟩, hk8, _, _, HH1.out.hs, IN2.out.below (below_then (below_alloc (Below.refl _ w2) _) (by simp) hb), fun b e => ?_⟩
              have h1 := own_base ho b e
              have h2 := KP2.out.size
              have h3 := HH1.out.kept.size
              simp at h1
              exact ⟨fun hS => by have := IN2.out.lt b hS; omega, by omega⟩
          | panic h =>
            have HT := Aside0.mk (show termP (tick st1) { F with held := held1 } Bk.f1 = .halt 1 101 by simp [termP, h])
            go_wp2_with (first | (go_at_call 81; refine (step_in HH1.out.inn HH1.out.fits HFU1.out).mono ?_; rintro e w2 ⟨rfl, K2, I2⟩; have p1 := pw_cell_below I2.base BB.out.h1; rw [h] at p1; have p2 := pw_cell_below I2.base BB.out.h2; have p3 := pw_cell_below I2.base BB.out.h3; have p4 := pw_cell_below I2.base BB.out.h4; have p5 := pw_cell_below I2.base BB.out.h5; have p6 := pw_cell_below I2.base BB.out.h6; have r5 := fun o => pw_cell_below (below_alloc (Below.refl _ w2) o) (pw_cell_below I2.base MM.out.h5); have IN2 := Aside0.mk I2; have KP2 := Aside0.mk K2; clear I2 K2) | (go_at_call 28; refine (stop _ _ _).mono ?_; rintro e w3 ⟨rfl, rfl⟩))
            exact ⟨rfl, CPost.halt_any (by have h2 := HRUN.out; rw [HT.out] at h2; exact h2.symm) (.inl rfl) (HH1.out.grow ((KP2.out.mono fun b h => .inl h).below (below_alloc (Below.refl _ w2) _))) HH1.out.hs (IN2.out.rep.below (below_alloc (Below.refl _ w2) _))⟩
        · have HH1 := Aside0.mk H1
          have HFU1 := Aside0.mk (Int.not_lt.1 hfu1)
          clear hfu1 H1
          go_wp2_with (go_at_call 81; refine (step_out HH1.out.inn.rep (Int.not_lt.2 HFU1.out)).mono ?_; rintro e w2 ⟨rfl, K2, R2⟩)
          exact ⟨rfl, CPost.halt_any (HH1.out.out (Int.not_lt.2 HFU1.out)) (.inl rfl) (HH1.out.grow (K2.mono fun b h => .inl h)) HH1.out.hs R2⟩
theorem body_all {G : Glob} (GG : GOK G) (n : Nat) : BodyOK G n := Nat.strongRecOn n fun n ih => body_ok GG n ih
end Go.Proofs.Ytpphpcmbpbppoaa.Mach
end
section
namespace Go.Proofs.Ytpphpcmbpbppoaa.Mach
open Go.RowKit Go.Proofs.YtpphpcmbpbppoaaW.PrintWords Go.Proofs.YtpphpcmbpbppoaaW.PrintLast Go.Proofs.YtpphpcmbpbppoaaW.PrintMore
open Go.Proofs.Ytpphpcmbpbppoaa.Calm
open Go.Proofs.Ytpphpcmbpbppoaa.PMirFuel (S30 S57 S34 S37 S40 S43 S45 S48 k30 k57 k34 k37 k40 k43 k45 k48 rd_T30 rd_T57 rd_T34 rd_T37 rd_T40 rd_T43 rd_T45 rd_T48 at_T30 at_T57 at_T34 at_T40 at_T45 at_T48)
set_option linter.unusedVariables false
set_option linter.unusedSimpArgs false
structure In0 (G : Glob) (S : Nat → Prop) (L : Lay) (st : St) (w : World) : Prop where
  rep : Rep S G.m L none st w
  lA : L.lA = G.lA
  lc : L.lc = G.lc
  ln : L.ln = G.l.length
  base : Below G.w0.heap.size G.w0 w
  ge : ∀ b, S b → G.w0.heap.size ≤ b
  inp : ReadsInt G.w0 .i64 L.iA st.input.length st.input
  inc : st.input.length ≤ L.ic
  lt : ∀ b, S b → b < w.heap.size
namespace In0
variable {G : Glob} {S T : Nat → Prop} {L : Lay} {F2 : Fr} {st : St} {w w' W w1 : World}
theorem below (I : In0 G S L st w) (hb : Below w.heap.size w w') : In0 G S L st w' :=
  ⟨I.rep.below hb, I.lA, I.lc, I.ln, I.base.trans (hb.mono I.base.size), I.ge, I.inp, I.inc, fun b h => Nat.lt_of_lt_of_le (I.lt b h) hb.size⟩
theorem drewN (I : In0 G S L st w) (n : Nat) : In0 G S L st (w.drewN n) := I.below (pw_below_drewN (Below.refl _ _) n)
theorem alloc (I : In0 G S L st w) (o : Obj) : In0 G S L st (w.alloc o) := I.below (below_alloc (Below.refl _ _) o)
theorem stored (I : In0 G S L st w) {a : Addr} (ha : S a.block) (v : Value) {L' : Lay} {st' : St} (R : Rep S G.m L' none st' (w.setCell a v)) (h1 : L'.lA = L.lA) (h2 : L'.lc = L.lc) (h3 : L'.ln = L.ln)
    (hi : ReadsInt G.w0 .i64 L'.iA st'.input.length st'.input) (hc : st'.input.length ≤ L'.ic) : In0 G S L' st' (w.setCell a v) :=
  ⟨R, h1.trans I.lA, h2.trans I.lc, h3.trans I.ln, I.base.setCell (I.ge _ ha) v, I.ge, hi, hc, fun b h => by simpa [World.setCell] using I.lt b h⟩
theorem c11 (I : In0 G S L st w) : w.cell? ⟨G.m, 11, none⟩ = some (.pointer none) := I.rep.c11
theorem set_calls (I : In0 G S L st w) (n : Int) : In0 G S L { st with calls := n } (w.setCell ⟨G.m, 10, none⟩ (.int .i64 n)) :=
  I.stored I.rep.ownM _ (I.rep.set_calls n) rfl rfl rfl I.inp I.inc
theorem set_depth (I : In0 G S L st w) (n : Int) : In0 G S L { st with depth := n } (w.setCell ⟨G.m, 9, none⟩ (.int .i64 n)) :=
  I.stored I.rep.ownM _ (I.rep.set_depth n) rfl rfl rfl I.inp I.inc
theorem cut (I : In0 G S L st w) (n : Nat) (hn : n ≤ st.stack.length) {A : Option Addr} {cap : Nat} (hv : L.sv = .slice A st.stack.length cap) :
    In0 G S { L with sv := .slice A n cap } { st with stack := st.stack.take n } (w.setCell ⟨G.m, 6, none⟩ (.slice A n cap)) := by
  obtain ⟨A', cap', e, ho⟩ := own_cut I.rep.stk n hn
  rw [hv] at e
  obtain ⟨rfl, rfl⟩ : A = A' ∧ cap = cap' := by simpa using e
  have ob : (Value.slice A n cap).ownBlock = L.sv.ownBlock := by rw [hv]; cases A <;> rfl
  refine I.stored I.rep.ownM _ (I.rep.setM 6 _ rfl rfl rfl rfl rfl rfl (I.rep.rowM ho _ _) (I.rep.rowM I.rep.prt _ _) (fun b h => I.rep.ownS b (ob ▸ h)) I.rep.ownP (ob.symm ▸ I.rep.sc) I.rep.pc (ob.symm ▸ I.rep.sp) (fun v hv => I.rep.okS v (List.mem_of_mem_take hv))) rfl rfl rfl I.inp I.inc
theorem rowed (I : In0 G S L st W) {xs : List Int} (hl : xs.length = st.stack.length) (hg : W.grownBy w1 L.sv.ownBlock) (ho : w1.ownsRow 0 3 1 L.sv xs.length (nums .i64 xs)) (hok : ∀ v, v ∈ xs → v ≤ 9223372036854775807) :
    In0 G S L { st with stack := xs } w1 ∧ Kept S W w1 := by
  have K : Kept S W w1 := (Kept.refl S W).grown hg (fun k e => .inl (I.rep.ownS k e))
  exact ⟨⟨I.rep.rowed hl hg ho hok, I.lA, I.lc, I.ln, I.base.trans (K.below_of I.ge I.base.size), I.ge, I.inp, I.inc, fun b h => Nat.lt_of_lt_of_le (I.lt b h) K.size⟩, K⟩
theorem stacked (I : In0 G S L st W) {v1 : Value} {xs : List Int} (hg : W.grownBy w1 L.sv.ownBlock) (ho : w1.ownsRow 0 3 1 v1 xs.length (nums .i64 xs))
    (hat : v1.ownBlock = L.sv.ownBlock ∨ ∃ b, v1.ownBlock = some b ∧ W.heap.size ≤ b) (hok : ∀ v, v ∈ xs → v ≤ 9223372036854775807) :
    In0 G (fun b => S b ∨ v1.ownBlock = some b) { L with sv := v1 } { st with stack := xs } (w1.setCell ⟨G.m, 6, none⟩ v1) ∧ Kept S W (w1.setCell ⟨G.m, 6, none⟩ v1) ∧ (∀ b, (S b ∨ v1.ownBlock = some b) → S b ∨ W.heap.size ≤ b) := by
  have far : ∀ b, v1.ownBlock = some b → S b ∨ W.heap.size ≤ b := fun b e => by
    rcases hat with h | ⟨b', h, hb⟩
    · exact .inl (I.rep.ownS b (h ▸ e))
    · rw [h] at e; cases e; exact .inr hb
  have far2 : ∀ b, (S b ∨ v1.ownBlock = some b) → S b ∨ W.heap.size ≤ b := fun b h => h.elim .inl (far b)
  have K : Kept S W (w1.setCell ⟨G.m, 6, none⟩ v1) := ((Kept.refl S W).grown hg (fun k e => .inl (I.rep.ownS k e))).setCell I.rep.ownM v1
  refine ⟨⟨I.rep.stacked hg ho hat hok, I.lA, I.lc, I.ln, I.base.trans (K.below_of I.ge I.base.size), ?_, I.inp, I.inc, ?_⟩, K, far2⟩
  · intro b h
    rcases far2 b h with h | h
    · exact I.ge b h
    · exact Nat.le_trans I.base.size h
  · intro b h
    rcases h with h | h
    · exact Nat.lt_of_lt_of_le (I.lt b h) K.size
    · obtain ⟨cur, hc⟩ := Rep.has_own ho h
      have := hc.lt
      simpa [World.setCell] using this
theorem m6 (I : In0 G S L st W) (hg : W.grownBy w1 L.sv.ownBlock) : w1.cell? ⟨G.m, 6, none⟩ = some L.sv ∧ w1.frozen? ⟨G.m, 6, none⟩ = false := by
  have hm1 : Has w1 G.m (mcells L st none) 93 := I.rep.head.of_block (grown_new hg _ I.rep.head.lt (fun e => by
    obtain ⟨cur, hc⟩ := Rep.has_own I.rep.stk e
    exact hc.ne I.rep.head (by decide) rfl))
  exact ⟨by rw [hm1.cell]; rfl, hm1.frozen 6⟩
theorem apart (I : In0 G S L st W) (K : Kept T W w1) (hT : ∀ b, T b → ¬ S b ∧ G.w0.heap.size ≤ b) : In0 G S L st w1 :=
  ⟨I.rep.kept K (fun b h t => (hT b t).1 h), I.lA, I.lc, I.ln, I.base.trans (K.below_of (fun b h => (hT b h).2) I.base.size), I.ge, I.inp, I.inc, fun b h => Nat.lt_of_lt_of_le (I.lt b h) K.size⟩
theorem swap (I : In0 G S L st w) (H : FrameIs w F2) (o1 : ¬ S F2.xb) (o2 : ∀ b, F2.atv.ownBlock = some b → ¬ S b) (o3 : ¬ S F2.hb) (g3 : G.w0.heap.size ≤ F2.hb) :
    In G S L F2 st (w.setCell ⟨G.m, 11, none⟩ (.pointer (some ⟨F2.xb, 0, none⟩))) :=
  ⟨I.rep.set_x _, I.lA, I.lc, I.ln, I.base.setCell (I.ge _ I.rep.ownM) _, I.ge, I.inp, I.inc,
    H.setCell (fun e => o1 (e ▸ I.rep.ownM)) (fun b hb e => o2 b hb (e ▸ I.rep.ownM)) (fun e => o3 (e ▸ I.rep.ownM)) _, o1, o2, o3, g3, fun b h => by simpa [World.setCell] using I.lt b h⟩
end In0
theorem In.leave {G : Glob} {S : Nat → Prop} {L : Lay} {F : Fr} {st : St} {w : World} (I : In G S L F st w) : In0 G S L st (w.setCell ⟨G.m, 11, none⟩ (.pointer none)) :=
  ⟨I.rep.set_x _, I.lA, I.lc, I.ln, I.base.setCell (I.ge _ I.rep.ownM) _, I.ge, I.inp, I.inc, fun b h => by simpa [World.setCell] using I.lt b h⟩
structure Making0 (G : Glob) (S : Nat → Prop) (F2 : Fr) (st : St) (w wr : World) : Prop where
  inn : ∃ S' L', In0 G S' L' st wr ∧ (∀ b, S' b → S b ∨ w.heap.size ≤ b) ∧ ¬ S' F2.xb ∧ ¬ S' F2.hb ∧ ∀ b, F2.atv.ownBlock = some b → ¬ S' b
  kept : Kept S w wr
  fr : FrameIs wr F2
  n1 : w.heap.size ≤ F2.xb
  n2 : w.heap.size ≤ F2.hb
  n3 : ∀ b, F2.atv.ownBlock = some b → w.heap.size ≤ b
namespace Making0
variable {G : Glob} {S : Nat → Prop} {F2 : Fr} {st : St} {w W w1 : World}
theorem below (M : Making0 G S F2 st w W) (hb : Below W.heap.size W w1) : Making0 G S F2 st w w1 := by
  obtain ⟨S', L', I, hs⟩ := M.inn
  exact ⟨⟨S', L', I.below hb, hs⟩, M.kept.below hb, M.fr.below hb, M.n1, M.n2, M.n3⟩
theorem base (M : Making0 G S F2 st w W) : Below G.w0.heap.size G.w0 W := by
  obtain ⟨S', L', I, _⟩ := M.inn
  exact I.base
theorem placed (M : Making0 G S F2 st w W) (hw : G.w0.heap.size ≤ w.heap.size) {v1 : Value} {xs : List Int} (hg : W.grownBy w1 F2.atv.ownBlock) (ho : w1.ownsRow 0 3 1 v1 xs.length (nums .i64 xs))
    (hat : v1.ownBlock = F2.atv.ownBlock ∨ ∃ b, v1.ownBlock = some b ∧ W.heap.size ≤ b) (hok : ∀ v, v ∈ xs → v ≤ 9223372036854775807) :
    Making0 G S { F2 with atv := v1, at_ := xs } st w (w1.setCell ⟨F2.xb, 1, none⟩ v1) := by
  obtain ⟨S', L', I, hs, a1, a2, a3⟩ := M.inn
  have K0 : Kept (fun b => F2.atv.ownBlock = some b ∨ b = F2.xb) W (w1.setCell ⟨F2.xb, 1, none⟩ v1) := ((Kept.refl _ W).grown hg (fun k e => .inl (.inl e))).setCell (.inr rfl) v1
  have T : ∀ b, (F2.atv.ownBlock = some b ∨ b = F2.xb) → w.heap.size ≤ b := fun b h => h.elim (M.n3 b) (fun e => e ▸ M.n1)
  have TS : ∀ b, (F2.atv.ownBlock = some b ∨ b = F2.xb) → ¬ S' b := fun b h => h.elim (a3 b) (fun e => e ▸ a1)
  refine ⟨⟨S', L', I.apart K0 (fun b h => ⟨TS b h, Nat.le_trans hw (T b h)⟩), hs, a1, a2, fun b e => ?_⟩, ?_, (M.fr.placed hg ho hok).1, M.n1, M.n2, fun b e => ?_⟩
  · rcases hat with h | ⟨b', h, hb⟩
    · exact a3 b (h ▸ e)
    · obtain rfl : b' = b := Option.some.inj (h.symm.trans e)
      intro hS
      have := I.lt b' hS
      omega
  · exact M.kept.trans (K0.mono fun b h => .inr ⟨T b h, h.elim (fun e => M.fr.lt_at b e) (fun e => e ▸ M.fr.head.lt)⟩)
  · rcases hat with h | ⟨b', h, hb⟩
    · exact M.n3 b (h ▸ e)
    · obtain rfl : b' = b := Option.some.inj (h.symm.trans e)
      exact Nat.le_trans M.kept.size hb
theorem stacked (M : Making0 G S F2 st w W) {S' : Nat → Prop} {L' : Lay} (I : In0 G S' L' st W) (hs : ∀ b, S' b → S b ∨ w.heap.size ≤ b) (a1 : ¬ S' F2.xb) (a2 : ¬ S' F2.hb) (a3 : ∀ b, F2.atv.ownBlock = some b → ¬ S' b)
    {v1 : Value} {xs : List Int} (hg : W.grownBy w1 L'.sv.ownBlock) (ho : w1.ownsRow 0 3 1 v1 xs.length (nums .i64 xs)) (hat : v1.ownBlock = L'.sv.ownBlock ∨ ∃ b, v1.ownBlock = some b ∧ W.heap.size ≤ b) (hok : ∀ v, v ∈ xs → v ≤ 9223372036854775807) :
    Making0 G S F2 { st with stack := xs } w (w1.setCell ⟨G.m, 6, none⟩ v1) := by
  obtain ⟨I', K, far⟩ := I.stacked hg ho hat hok
  have out : ∀ b, b < W.heap.size → ¬ S' b → ¬ (S' b ∨ v1.ownBlock = some b) := fun b hb hn h => (far b h).elim hn (fun x => by omega)
  refine ⟨⟨_, _, I', fun b h => ?_, out _ M.fr.head.lt a1, out _ M.fr.held.lt a2, fun b e => out _ (M.fr.lt_at b e) (a3 b e)⟩, ?_, M.fr.kept K a1 a3 a2, M.n1, M.n2, M.n3⟩
  · rcases far b h with h | h
    · exact hs b h
    · exact .inr (Nat.le_trans M.kept.size h)
  · refine M.kept.trans (K.mono fun b h => ?_)
    rcases hs b h with h2 | h2
    · exact .inl h2
    · exact .inr ⟨h2, I.lt b h⟩
theorem rowed (M : Making0 G S F2 st w W) {xs : List Int} (hl : xs.length = st.stack.length) (hok : ∀ v, v ∈ xs → v ≤ 9223372036854775807)
    {S' : Nat → Prop} {L' : Lay} (I : In0 G S' L' st W) (hs : ∀ b, S' b → S b ∨ w.heap.size ≤ b) (a1 : ¬ S' F2.xb) (a2 : ¬ S' F2.hb) (a3 : ∀ b, F2.atv.ownBlock = some b → ¬ S' b)
    (hg : W.grownBy w1 L'.sv.ownBlock) (ho : w1.ownsRow 0 3 1 L'.sv xs.length (nums .i64 xs)) : Making0 G S F2 { st with stack := xs } w w1 := by
  obtain ⟨I', K⟩ := I.rowed hl hg ho hok
  refine ⟨⟨S', L', I', hs, a1, a2, a3⟩, ?_, M.fr.kept K a1 a3 a2, M.n1, M.n2, M.n3⟩
  refine M.kept.trans (K.mono fun b h => ?_)
  rcases hs b h with h2 | h2
  · exact .inl h2
  · exact .inr ⟨h2, I.lt b h⟩
end Making0
def CPost0 (G : Glob) (S : Nat → Prop) (r : ResC) (w : World) (e : Ending) (w' : World) : Prop :=
  Kept S w w' ∧ match r with
    | .ok st' held out => ∃ v, e = .returned v ∧ ∃ S' L', (∀ b, S' b → S b ∨ w.heap.size ≤ b) ∧ In0 G S' L' st' w'
    | .halt k c st' => (∃ ch, e = .panicked ch ∧ HaltCh ch k c) ∧ ∃ S' L' x', (∀ b, S' b → S b ∨ w.heap.size ≤ b) ∧ Rep S' G.m L' x' st' w'
theorem CPost.left0 {G : Glob} {S S5 : Nat → Prop} {L : Lay} {F2 : Fr} {st : St} {w w6 w7 : World} {r : ResC} {e : Ending} (I : In0 G S L st w) (K6 : Kept S w w6) (hs5 : ∀ b, S5 b → S b ∨ w.heap.size ≤ b) (n2 : w.heap.size ≤ F2.hb) (lt2 : F2.hb < w6.heap.size) (lt5 : ∀ b, S5 b → b < w6.heap.size)
    (C : CPost G S5 (fun b => b = F2.hb) F2 r w6 e w7) :
    (∃ st7 h7 out v S7 L7, r = .ok st7 h7 out ∧ e = .returned v ∧ Left G S F2 w w7 st7 h7 out v S7 L7) ∨ (∃ k c st7 ch, r = .halt k c st7 ∧ e = .panicked ch ∧ CPost0 G S (.halt k c st7) w e w7) := by
  have K7 : Kept S w w7 := K6.trans (C.1.mono fun b h => by
    rcases h with h | h
    · rcases hs5 b h with h2 | h2
      · exact .inl h2
      · exact .inr ⟨h2, lt5 b h⟩
    · subst h; exact .inr ⟨n2, lt2⟩)
  have hs7 : ∀ {S7 : Nat → Prop}, (∀ b, S7 b → S5 b ∨ w6.heap.size ≤ b) → ∀ b, S7 b → S b ∨ w.heap.size ≤ b := fun h b hb => by
    rcases h b hb with h2 | h2
    · exact hs5 b h2
    · exact .inr (Nat.le_trans K6.size h2)
  cases r with
  | ok st7 h7 out =>
    obtain ⟨_, v, rfl, ho, hk, S7, L7, h, I7, far⟩ := C
    exact .inl ⟨st7, h7, out, v, S7, L7, rfl, rfl, K7, hs7 h, I7, ho, hk, fun b hb => ⟨(far b hb).1, Nat.le_trans K6.size (far b hb).2⟩⟩
  | halt k c st7 =>
    obtain ⟨_, ⟨ch, rfl, hc⟩, S7, L7, x', h, R⟩ := C
    exact .inr ⟨k, c, st7, ch, rfl, rfl, K7, ⟨ch, rfl, hc⟩, S7, L7, x', hs7 h, R⟩
end Go.Proofs.Ytpphpcmbpbppoaa.Mach
end
section
namespace Go.Proofs.Ytpphpcmbpbppoaa.Mach
open Go.RowKit Go.Proofs.YtpphpcmbpbppoaaW.PrintWords Go.Proofs.YtpphpcmbpbppoaaW.PrintLast Go.Proofs.YtpphpcmbpbppoaaW.PrintMore
open Go.Proofs.Ytpphpcmbpbppoaa.Calm
open Go.Proofs.Ytpphpcmbpbppoaa.PMirFuel (S30 S57 S34 S37 S40 S43 S45 S48 k30 k57 k34 k37 k40 k43 k45 k48 rd_T30 rd_T57 rd_T34 rd_T37 rd_T40 rd_T43 rd_T45 rd_T48 at_T30 at_T57 at_T34 at_T40 at_T45 at_T48)
set_option linter.unusedVariables false
set_option linter.unusedSimpArgs false
theorem Making0.after {G : Glob} {S : Nat → Prop} {F2 : Fr} {st : St} {w W w1 : World} (M : Making0 G S F2 st w W) {v : Value} (hc : W.cell? ⟨G.m, 6, none⟩ = some v) (hg : W.grownBy w1 F2.atv.ownBlock) :
    w1.cell? ⟨F2.xb, 1, none⟩ = some F2.atv ∧ w1.frozen? ⟨F2.xb, 1, none⟩ = false ∧ w1.cell? ⟨G.m, 6, none⟩ = some v := by
  have nt : ∀ {b : Nat} {cs : Array Value} {t : TypeId}, Has W b cs t → t ≠ 3 → F2.atv.ownBlock ≠ some b := fun hb ht e => by
    obtain ⟨cur, hc⟩ := Rep.has_own M.fr.row e
    exact hb.ne hc ht rfl
  have hx := M.fr.head.of_block (grown_new hg _ M.fr.head.lt (nt M.fr.head (by decide)))
  refine ⟨by rw [hx.cell]; rfl, hx.frozen 1, ?_⟩
  obtain ⟨S', L', I, hs, a1, a2, a3⟩ := M.inn
  rw [← hc]
  exact World.cell?_of_block (grown_new hg _ I.rep.head.lt (fun e => a3 _ e I.rep.ownM))
theorem Making0.start {G : Glob} {S : Nat → Prop} {L : Lay} {st : St} {w : World} (I : In0 G S L st w) (q : Addr) (n : Nat) :
    Making0 G S ⟨w.heap.size + 1, q, .slice none 0 0, w.heap.size, [], st.stack.length, List.replicate n false⟩ { st with stack := st.stack ++ List.replicate 0 0 } w
      (((w.alloc (Obj.cells (madeCells #[Value.bool false] n) 4)).alloc (Obj.cells #[.pointer (some q), .slice none 0 0, .int .i64 st.stack.length, .slice (some ⟨w.heap.size, 0, none⟩) n n] 135)).drew) := by
  have no : ∀ b, w.heap.size ≤ b → ¬ S b := fun b h hS => by have := I.lt b hS; omega
  refine ⟨⟨S, L, ?_, fun b h => .inl h, no _ (by simp), no _ (by simp), fun b e => by simp [Value.ownBlock] at e⟩, (((Kept.refl S w).alloc _).alloc _).drewN 1, ?_, by simp, by simp, fun b e => by simp [Value.ownBlock] at e⟩
  · have e0 : ({ st with stack := st.stack ++ List.replicate 0 0 } : St) = st := by simp
    rw [e0]
    exact ((I.alloc (Obj.cells (madeCells #[Value.bool false] n) 4)).alloc (Obj.cells #[.pointer (some q), .slice none 0 0, .int .i64 st.stack.length, .slice (some ⟨w.heap.size, 0, none⟩) n n] 135)).drewN 1
  · refine ⟨?_, own_nil _ _ _ _, ?_, by simp⟩
    · have h := Has.new (w.alloc (Obj.cells (madeCells #[Value.bool false] n) 4)) #[.pointer (some q), .slice none 0 0, .int .i64 st.stack.length, .slice (some ⟨w.heap.size, 0, none⟩) n n] 135
      rw [show (w.alloc (Obj.cells (madeCells #[Value.bool false] n) 4)).heap.size = w.heap.size + 1 by simp] at h
      simp only [List.length_replicate]
      exact h.drewN 1
    · rw [← made_held]
      exact ((Has.new w _ 4).alloc _).drewN 1
theorem Making0.copied {G : Glob} {S : Nat → Prop} {F2 : Fr} {st : St} {w W : World} {k : Nat} (M : Making0 G S F2 { st with stack := st.stack ++ List.replicate k 0 } w W) {aa : Option Addr} {ca : Nat} {vs : List Int} (V : ArgsAt S W (.slice aa vs.length ca) vs) (hvn : vs.length ≤ k)
    {S' : Nat → Prop} {L' : Lay} (I : In0 G S' L' { st with stack := st.stack ++ List.replicate k 0 } W) (hs : ∀ b, S' b → S b ∨ w.heap.size ≤ b) (a1 : ¬ S' F2.xb) (a2 : ¬ S' F2.hb) (a3 : ∀ b, F2.atv.ownBlock = some b → ¬ S' b) {As : Option Addr} {cs : Nat} (hsv : L'.sv = .slice As (st.stack.length + k) cs)
    (dp : Option Addr) (hdp : ∀ g, As = some ⟨g, 0, none⟩ → ¬ cs = st.stack.length → dp = some ⟨g, st.stack.length, none⟩) :
    (nums .i64 vs = [] → Making0 G S F2 { st with stack := st.stack ++ putP (List.replicate k 0) vs } w W) ∧
    (∀ v ∈ nums .i64 vs, v.oneCell' = true) ∧
    (nums .i64 vs ≠ [] → ∃ g off ad cur t, dp = some ⟨g, off, none⟩ ∧ aa = some ad ∧ W.heap[g]? = some (.cells cur t (0, 0)) ∧ (∀ j v, (nums .i64 vs)[j]? = some v → W.cell? (ad.add j) = some v) ∧ off + (nums .i64 vs).length ≤ cur.size ∧
      Making0 G S F2 { st with stack := st.stack ++ putP (List.replicate k 0) vs } w (W.setRow g (cur.toList.take off ++ (nums .i64 vs ++ cur.toList.drop (off + (nums .i64 vs).length))).toArray)) := by
  refine ⟨fun h => ?_, ?_, fun h => ?_⟩
  · have : vs = [] := by simpa [nums] using h
    subst this
    rw [putP_nil]
    exact M
  · intro v hv
    obtain ⟨x, _, rfl⟩ : ∃ x, x ∈ vs ∧ Value.int .i64 x = v := by simpa [nums] using hv
    rfl
  · have hv0 : vs ≠ [] := fun e => h (by rw [e]; rfl)
    have hvl : 0 < vs.length := List.length_pos_iff.2 hv0
    obtain ⟨As', cs', hsv', hle, hcm, hrow⟩ := own_form I.rep.stk
    have hlk : (st.stack ++ List.replicate k (0 : Int)).length = st.stack.length + k := by simp
    obtain ⟨g, cur, rfl, hg, hsz, htk⟩ := hrow (by show 0 < (st.stack ++ List.replicate k (0 : Int)).length; omega)
    have hsv2 := hsv'
    rw [hsv] at hsv'
    have hle2 : (st.stack ++ List.replicate k (0 : Int)).length ≤ cs' := hle
    rw [hlk] at hle2
    obtain ⟨rfl, rfl⟩ : As = some ⟨g, 0, none⟩ ∧ cs = cs' := by injection hsv' with e1 _ e2; exact ⟨e1, e2⟩
    obtain ⟨ga, rfl, _, hsrc⟩ := own_src V.own rfl hv0
    have hnl : (nums .i64 vs).length = vs.length := by simp [nums]
    refine ⟨g, st.stack.length, _, cur, 3, hdp g rfl (by omega), rfl, hg, hsrc, by rw [hnl, hsz]; omega, ?_⟩
    have hput := own_put (w := W) (vs := vs) hg hle hcm hsz htk st.stack.length (by rw [show ({ st with stack := st.stack ++ List.replicate k 0 } : St).stack.length = st.stack.length + k from hlk]; omega)
    have e1 : (st.stack ++ List.replicate k (0 : Int)).take st.stack.length ++ (vs ++ (st.stack ++ List.replicate k (0 : Int)).drop (st.stack.length + vs.length)) = st.stack ++ putP (List.replicate k 0) vs := by
      rw [List.take_left, List.drop_append]
      simp [putP, List.take_of_length_le hvn]
    have e1' : ({ st with stack := st.stack ++ List.replicate k 0 } : St).stack.take st.stack.length ++ (vs ++ ({ st with stack := st.stack ++ List.replicate k 0 } : St).stack.drop (st.stack.length + vs.length)) = st.stack ++ putP (List.replicate k 0) vs := e1
    rw [e1'] at hput
    have hl2 : (st.stack ++ putP (List.replicate k 0) vs).length = (st.stack ++ List.replicate k (0 : Int)).length := by simp [putP]; omega
    refine M.rowed (xs := st.stack ++ putP (List.replicate k 0) vs) hl2 ?_ I hs a1 a2 a3 ?_ ?_
    · intro v hv
      rcases List.mem_append.1 hv with h | h
      · exact I.rep.okS v (List.mem_append_left _ h)
      · rcases List.mem_append.1 h with h | h
        · exact V.ok v (List.mem_of_mem_take h)
        · have := (List.mem_replicate.1 (List.mem_of_mem_drop h)).2; omega
    · rw [hsv2]; exact grown_setRow _ _ _
    · rw [hsv2, hl2]; exact hput
set_option maxRecDepth 100000 in
set_option maxHeartbeats 8000000 in
theorem call0_quiet {G : Glob} {S : Nat → Prop} {L : Lay} {st : St} {w : World} (I : In0 G S L st w) {q : Addr} {f : S48} {A1 A5 : Option Addr} {c1 c5 : Nat} (M : MA G.w0 q f A1 c1 A5 c5) (hl : f.f1.length < 100000) (hN : st.stack.length + need f.f1 < 1099511627776)
    (h0 : ∀ k, k ∈ f.f1 → 0 ≤ k) {av : Value} {vs : List Int} (V : ArgsAt S w av vs) (hvn : vs.length ≤ need f.f1) (hq : f.f4 = true)
    (h1 : st.calls < 392) (hc0 : 0 ≤ st.calls) (hd0 : 0 ≤ st.depth) {X : Runs} (B : EntersOk G q f st vs X) :
    Calls Try.prog 29 #[.pointer (some ⟨G.m, 0, none⟩), .pointer (some q), av] w (CPost0 G S (callP X st [] f vs) w) := by
  obtain ⟨aa, ca, rfl, hca, _⟩ := own_form V.own
  have AV := Aside0.mk V
  have BB := Aside0.mk B
  clear V B
  have c10 := I.rep.c10
  have c9 := I.rep.c9
  have c11 := I.c11
  have c6 := I.rep.c6
  have q1 := pw_cell_below I.base M.h1
  have q4 := pw_cell_below I.base M.h4
  rw [hq] at q4
  obtain ⟨As, cs, hsv, _⟩ := own_reads I.rep.stk
  rw [hsv] at c6
  have d1 : decide (st.calls ≥ 392) = false := by simp; omega
  have d0 : (0 : Int) ≤ f.f1.length := by omega
  have II := Aside0.mk I
  have MM := Aside0.mk M
  have HH0 := Aside0.mk h0
  have hmk := print_make_of (P := Try.prog) 126 4 (.bool false) 1 Try.underlying126 info4 rfl (by omega) f.f1.length (by omega)
  have HS := Aside0.mk I.base.size
  have HLT := Aside0.mk I.lt
  clear I M h0
  go_enter Try.func29, Try.ntmps29
  go_wp2
  go_region_held_law (fun w' => w'.cell? ⟨G.m, 6, none⟩ = some (.slice As st.stack.length cs) ∧ w'.cell? ⟨q.block, q.off + 1, none⟩ = some (.slice A1 f.f1.length c1)) (go_keep) (fail)
  have MK := Aside0.mk (Making0.start II.out q f.f1.length)
  generalize ((w.alloc (Obj.cells (madeCells #[Value.bool false] f.f1.length) 4)).alloc (Obj.cells #[.pointer (some q), .slice none 0 0, .int .i64 st.stack.length, .slice (some ⟨w.heap.size, 0, none⟩) f.f1.length f.f1.length] 135)).drew = W1 at MK ⊢
  have q1' := pw_cell_below MK.out.base MM.out.h1
  go_wp2
  go_loopw [10, 55] (fun _ v wr => ∃ i : Int, v = .int .i64 i ∧ 0 ≤ i ∧ i ≤ f.f1.length ∧ Aside0 (∃ atv, Making0 G S ⟨w.heap.size + 1, q, atv, w.heap.size, frameAt st.stack.length (f.f1.take i.toNat), st.stack.length, List.replicate f.f1.length false⟩ { st with stack := st.stack ++ List.replicate (need (f.f1.take i.toNat)) 0 } w wr)) (fun _ v _ => f.f1.length - (intOf v).toNat)
  case atStart => exact ⟨0, rfl, by omega, by omega, ⟨_, MK.out⟩⟩
  case round =>
    obtain ⟨i, rfl, hi0, hi1, atv, MK0⟩ := hrel
    have MKr := Aside0.mk MK0
    clear MK0
    by_cases hlt : i < f.f1.length
    · obtain ⟨S', L', I', hs, a1, a2, a3⟩ := MKr.out.inn
      obtain ⟨As', cs', hsv', _⟩ := own_reads I'.rep.stk
      obtain ⟨N, hNe⟩ : ∃ N, st.stack.length + need (f.f1.take i.toNat) = N := ⟨_, rfl⟩
      have hN1 : N < 1099511627776 := by have := need_take f.f1 i.toNat; omega
      have c6r : wr.cell? ⟨G.m, 6, none⟩ = some (.slice As' N cs') := by
        have := I'.rep.c6
        rw [hsv'] at this
        simpa [hNe] using this
      have cx : wr.cell? ⟨w.heap.size + 1, 1, none⟩ = some atv := by rw [MKr.out.fr.head.cell]; rfl
      obtain ⟨ad, e1, hn⟩ := int_at (Kd.C_below MM.out.g1 I'.base) i hi0 hlt
      have II' := Aside0.mk I'
      clear I' hsv'
      subst e1
      have MA := Aside0.mk (MKr.out.below (below_drew (below_alloc (Below.refl _ wr) (Obj.cells #[.int .i64 (1048576 + 4 * (N : Int))] 3))))
      have C6A := Aside0.mk (pw_cell_below (below_drew (below_alloc (Below.refl _ wr) (Obj.cells #[.int .i64 (1048576 + 4 * (N : Int))] 3))) c6r)
      have hwA : IntKind.i64.wrap (4 * (N : Int)) = 4 * (N : Int) := by rw [IntKind.wrap_i64]; omega
      have hwB : IntKind.i64.wrap (1048576 + 4 * (N : Int)) = 1048576 + 4 * (N : Int) := by rw [IntKind.wrap_i64]; omega
      have hgm : G.m ≠ w.heap.size + 1 := fun e => a1 (e ▸ II'.out.rep.ownM)
      have hgm' : w.heap.size + 1 ≠ G.m := Ne.symm hgm
      obtain ⟨i3, hi3, hz3, hs3, hb3⟩ := info3x
      go_wp2
      refine region_heads 12 14 (fun w' => w'.cell? ⟨w.heap.size + 1, 1, none⟩ = some atv ∧ w'.cell? ⟨G.m, 6, none⟩ = some (.slice As' N cs')) (by kernel_rfl) (by kernel_rfl) (by kernel_rfl) ⟨cx, c6r⟩ (by intro c a a' w1 hd h; simp +zetaDelta only [Exit.then, Exit.inBlock, bodyPost] at h ⊢; simpa [hd] using h) ?_
      simp only [List.length_cons, List.length_nil, Nat.reduceAdd, List.range_succ, List.range_zero, List.nil_append, List.cons_append, List.singleton_append]
      repeat (
        refine heads_ex (by rfl) (by rfl) (by rfl) ?_
        apply Exists.intro
        apply And.intro
        · rintro w' ⟨k1, k2⟩
          apply VR.mk
          go_simp
          with_reducible rfl
        simp only [List.setIfInBounds_toArray, List.set_cons_zero, List.set_cons_succ])
      refine heads_nil ?_
      refine chain_value (v := .slice (some ⟨wr.heap.size, 0, none⟩) 1 1) (w' := (wr.alloc (Obj.cells #[.int .i64 (1048576 + 4 * (N : Int))] 3)).drew) (by rfl) (by rfl) ?_ ⟨?_, C6A.out⟩ ?_
      · go_simp
      · rw [MA.out.fr.head.cell]; rfl
      simp only [List.setIfInBounds_toArray, List.set_cons_zero, List.set_cons_succ]
      refine chain_ex (by rfl) ?_
      refine wp_append_lies _ (.tmp 63) (.tmp 71) 23 (by rfl) 0 3 i3 (.int .i64 0) 1 8 Try.underlying23 hi3 hz3 hs3 hb3 rfl (by omega) atv (frameAt st.stack.length (f.f1.take i.toNat)).length (nums .i64 (frameAt st.stack.length (f.f1.take i.toNat))) (by rfl) MA.out.fr.row ⟨wr.heap.size, 0, none⟩ 1 1 [.int .i64 (1048576 + 4 * (N : Int))] (by rfl) (by rfl) (World.news_of_block (heap_alloc_new wr _)) (by intro u hu; simp at hu; subst hu; rfl) (by omega) (by rw [frameAt_length]; simp [maxLen]; omega) (by rw [frameAt_length]; simp; omega) (Nat.zero_le _) (wr.heap.size + 1) (by simp) ?_
      intro g cap w3 ho3 hg hor hlt3
      obtain ⟨kx1, kx2, kx3⟩ := MA.out.after C6A.out hg
      refine ⟨⟨kx1, kx3⟩, chain_done ?_⟩
      have hl4 : (frameAt st.stack.length (f.f1.take i.toNat) ++ [1048576 + 4 * (N : Int)]).length = (frameAt st.stack.length (f.f1.take i.toNat)).length + 1 := by simp
      have ho4 : w3.ownsRow 0 3 1 (.slice (some ⟨g, 0, none⟩) ((frameAt st.stack.length (f.f1.take i.toNat)).length + 1) cap) (frameAt st.stack.length (f.f1.take i.toNat) ++ [1048576 + 4 * (N : Int)]).length (nums .i64 (frameAt st.stack.length (f.f1.take i.toNat) ++ [1048576 + 4 * (N : Int)])) := by
        rw [hl4]
        simpa [nums] using ho3
      have hat4 : (Value.slice (some ⟨g, 0, none⟩) ((frameAt st.stack.length (f.f1.take i.toNat)).length + 1) cap).ownBlock = atv.ownBlock ∨ ∃ b, (Value.slice (some ⟨g, 0, none⟩) ((frameAt st.stack.length (f.f1.take i.toNat)).length + 1) cap).ownBlock = some b ∧ ((wr.alloc (Obj.cells #[.int .i64 (1048576 + 4 * (N : Int))] 3)).drew).heap.size ≤ b := by
        rcases hor with h | h
        · exact .inl h.symm
        · exact .inr ⟨g, rfl, by simp [h]⟩
      have hok4 : ∀ v, v ∈ frameAt st.stack.length (f.f1.take i.toNat) ++ [1048576 + 4 * (N : Int)] → v ≤ 9223372036854775807 := by
        intro v hv
        rcases List.mem_append.1 hv with h | h
        · have := frameAt_le _ _ v h; omega
        · obtain rfl : v = 1048576 + 4 * (N : Int) := by simpa using h
          omega
      have MB := Aside0.mk (MA.out.placed HS.out hg ho4 hat4 hok4)
      obtain ⟨S2, L2, I2, hs2, b1, b2, b3⟩ := MB.out.inn
      have hsv2 : L2.sv = .slice As' N cs' := by
        have h := I2.rep.c6
        have h2 := kx3
        rw [World.cell?_setCell_far _ _ _ _ (Ne.symm hgm)] at h
        exact Option.some.inj (h.symm.trans h2)
      have hso := I2.rep.stk
      rw [hsv2] at hso
      have IB := Aside0.mk I2
      have HSO := Aside0.mk hso
      have hlk : (st.stack ++ List.replicate (need (f.f1.take i.toNat)) (0 : Int)).length = N := by simp [hNe]
      have hk0 : 0 ≤ rd f.f1 i := by
        have h3 : rd f.f1 i ∈ f.f1 := by
          have : i.toNat < f.f1.length := by omega
          simp only [rd, List.getD_eq_getElem?_getD, List.getElem?_eq_getElem this, Option.getD_some]
          exact List.getElem_mem _
        exact HH0.out _ h3
      have hnd : need (f.f1.take (i.toNat + 1)) = need (f.f1.take i.toNat) + (rd f.f1 i).toNat := by
        rw [take_next _ _ (by omega), need_append, show ((i.toNat : Nat) : Int) = i by omega]
        simp [need]
      have hnl := need_take f.f1 (i.toNat + 1)
      clear I2 hso ho3 ho4 hat4 hok4
      go_wp2_with (at_builtin; refine num_zeros (by rfl) (.tmp 79) (.tmp 80) (by rfl) (.slice As' N cs') (st.stack ++ List.replicate (need (f.f1.take i.toNat)) 0) (rd f.f1 i) (by rfl) (by rfl) HSO.out hk0 (by rw [hlk]; omega) ?_; intro v4 w5 ho5 hg5 hat5; have hg6 := (show World.grownBy _ w5 L2.sv.ownBlock from hsv2 ▸ hg5); obtain ⟨k6, f6⟩ := IB.out.m6 hg6; rw [hsv2] at k6; obtain ⟨A4, c4, rfl, _⟩ := own_reads ho5)
      have hok5 : ∀ v, v ∈ st.stack ++ List.replicate (need (f.f1.take i.toNat)) (0 : Int) ++ List.replicate (rd f.f1 i).toNat 0 → v ≤ 9223372036854775807 := by
        intro v hv
        rcases List.mem_append.1 hv with h | h
        · exact IB.out.rep.okS v h
        · have := (List.mem_replicate.1 h).2; omega
      have MC := MB.out.stacked IB.out hs2 b1 b2 b3 hg6 ho5 (by rw [hsv2]; exact hat5) hok5
      have nx : (i + 1).toNat = i.toNat + 1 := by omega
      have e1 : frameAt st.stack.length (f.f1.take (i + 1).toNat) = frameAt st.stack.length (f.f1.take i.toNat) ++ [1048576 + 4 * (N : Int)] := by
        rw [nx, take_next _ _ (by omega), frameAt_append, hNe]
      have e2 : st.stack ++ List.replicate (need (f.f1.take (i + 1).toNat)) (0 : Int) = st.stack ++ List.replicate (need (f.f1.take i.toNat)) (0 : Int) ++ List.replicate (rd f.f1 i).toNat 0 := by
        rw [nx, hnd, ← List.replicate_append_replicate, List.append_assoc]
      have e3 : (st.stack ++ List.replicate (need (f.f1.take i.toNat)) (0 : Int) ++ List.replicate (rd f.f1 i).toNat (0 : Int)).length = st.stack.length + (need (f.f1.take i.toNat) + (rd f.f1 i).toNat) := by simp [Nat.add_assoc]
      rw [e3] at MC
      have MD := Aside0.mk MC
      clear MC
      go_roundw
      case measure => simp [intOf]; omega
      case rel =>
        refine ⟨i + 1, by go_num, by omega, by omega, ⟨.slice (some ⟨g, 0, none⟩) ((frameAt st.stack.length (f.f1.take i.toNat)).length + 1) cap, ?_⟩⟩
        rw [e1, e2]
        exact MD.out
    · have hd : decide (i < (f.f1.length : Int)) = false := decide_eq_false hlt
      have htk : f.f1.take i.toNat = f.f1 := List.take_of_length_le (by omega)
      rw [htk] at MKr
      obtain ⟨S', L', I', hs, a1, a2, a3⟩ := MKr.out.inn
      have cx2 : wr.cell? ⟨w.heap.size + 1, 2, none⟩ = some (.int .i64 st.stack.length) := by rw [MKr.out.fr.head.cell]; rfl
      have hlk : (st.stack ++ List.replicate (need f.f1) (0 : Int)).length = st.stack.length + need f.f1 := by simp
      obtain ⟨As, cs, hsv', hle, hcm, hrow⟩ := own_form I'.rep.stk
      rw [hlk] at hsv' hle hrow
      have s1 : (st.stack.length : Int) ≤ (st.stack.length : Int) + (need f.f1 : Int) := by omega
      have s2 : (0 : Int) ≤ st.stack.length := by omega
      have c6r : wr.cell? ⟨G.m, 6, none⟩ = some (.slice As (st.stack.length + need f.f1) cs) := by
        have := I'.rep.c6
        rw [hsv'] at this
        exact this
      have AV' := Aside0.mk (AV.out.kept MKr.out.kept)
      have II' := Aside0.mk I'
      have HROW := Aside0.mk hrow
      have HSV' := Aside0.mk hsv'
      clear I' hrow hsv'
      go_wp2
      refine region_heads 10 10 (fun w' => w'.cell? ⟨w.heap.size + 1, 2, none⟩ = some (.int .i64 st.stack.length) ∧ w'.cell? ⟨G.m, 6, none⟩ = some (.slice As (st.stack.length + need f.f1) cs)) (by kernel_rfl) (by kernel_rfl) (by kernel_rfl) ⟨cx2, c6r⟩ (by intro c a a' w1 hd h; simp +zetaDelta only [Exit.then, Exit.inBlock, bodyPost] at h ⊢; simpa [hd] using h) ?_
      simp only [List.length_cons, List.length_nil, Nat.reduceAdd, List.range_succ, List.range_zero, List.nil_append, List.cons_append, List.singleton_append]
      repeat (
        refine heads_ex (by rfl) (by rfl) (by rfl) ?_
        apply Exists.intro
        apply And.intro
        · rintro w' ⟨k1, k2⟩
          apply VR.mk
          go_simp
          with_reducible rfl
        simp only [List.setIfInBounds_toArray, List.set_cons_zero, List.set_cons_succ])
      refine heads_nil (chain_done ?_)
      have MKD := Aside0.mk (MKr.out.below (below_drew (Below.refl _ wr)))
      have CP := Aside0.mk (MKD.out.copied (AV'.out.kept (Kept.of_below (below_drew (Below.refl _ wr)))) hvn (II'.out.drewN 1) hs a1 a2 a3 HSV'.out (if cs = st.stack.length then As else Option.map (fun x => x.add st.stack.length) As) (by intro g h hn; subst h; rw [if_neg hn]; exact addr_at g _))
      have hcl : (nums .i64 vs).length = Nat.min vs.length (need f.f1) := by simp [nums, Nat.min_def]; omega
      generalize (if cs = st.stack.length then As else Option.map (fun x => x.add st.stack.length) As) = dp at CP ⊢
      have hqm : q.block ≠ G.m := fun e => by
        have h3 := World.block_lt_of_cell? _ _ MM.out.h1
        have h4 := II.out.ge _ II.out.rep.ownM
        simp at h3
        omega
      clear cx2 c6r
      refine wpList_copy_two (by rfl) (.tmp 93) (.tmp 94) 23 23 (by rfl) 3 Try.underlying23 info3s dp aa (need f.f1) (cs - st.stack.length) vs.length ca (by rfl) (by rfl) (nums .i64 vs) hcl (fun w' => Making0 G S _ _ w w') CP.out.1 CP.out.2.1 CP.out.2.2 ?_
      go_wp2_with (intro w5 MZ0; have MZ := Aside0.mk MZ0; clear MZ0; obtain ⟨S5, L5, I5, hs5, b1, b2, b3⟩ := MZ.out.inn; have k10 := I5.rep.c10; have k9 := I5.rep.c9; have k11 := I5.c11; have z10 := I5.rep.fz 10; have z9 := I5.rep.fz 9; have z11 := I5.rep.fz 11; have k4 := pw_cell_below I5.base MM.out.h4; rw [hq] at k4; have IE := Aside0.mk I5; clear I5)
      have hgm : G.m ≠ w.heap.size + 1 := fun e => b1 (e ▸ IE.out.rep.ownM)
      have hgm' : w.heap.size + 1 ≠ G.m := Ne.symm hgm
      have FR6 := (MZ.out.fr.setCell (a := ⟨G.m, 10, none⟩) hgm' (fun b e h => b3 b e (h ▸ IE.out.rep.ownM)) (fun (e : w.heap.size = G.m) => b2 (e ▸ IE.out.rep.ownM)) (.int .i64 (st.calls + 1)))
      have IN6 := Aside0.mk ((IE.out.set_calls (st.calls + 1)).swap FR6 b1 b3 b2 HS.out)
      have KP6 := Aside0.mk ((MZ.out.kept.setCell (a := ⟨G.m, 10, none⟩) II.out.rep.ownM (.int .i64 (st.calls + 1))).setCell (a := ⟨G.m, 11, none⟩) II.out.rep.ownM (.pointer (some ⟨w.heap.size + 1, 0, none⟩)))
      have hen : enterP st f vs = { st with stack := st.stack ++ putP (List.replicate (need f.f1) 0) vs, calls := st.calls + 1 } := by simp [enterP, hq]
      have BR := Aside0.mk (BB.out.run S5 L5 _ _ (by rw [hen]; exact IN6.out) rfl rfl rfl)
      clear FR6
      go_wp2_with (go_at_call 55; refine BR.out.mono ?_; intro e w7 hC; rcases CPost.left0 II.out KP6.out hs5 (Nat.le_refl _) (FrameIs.held IN6.out.fr).lt IN6.out.lt hC with ⟨st7, h7, out7, v7, S7, L7, hr, rfl, hL⟩ | ⟨k7, c7, st7, ch, hr, rfl, hP⟩; have LF := Aside0.mk hL; have hb := BB.out.back _ _ _ hr; rw [hen] at hb; obtain ⟨hb1, hb2, hb3⟩ := hb; have y10 := hL.inn.rep.c10; rw [hb1] at y10; have y9 := hL.inn.rep.c9; rw [hb2] at y9; have y4 := pw_cell_below hL.inn.base MM.out.h4; rw [hq] at y4; have x10 := hL.inn.rep.fz 10; have x9 := hL.inn.rep.fz 9; have x11 := hL.inn.rep.fz 11; have yx := hL.inn.f2; have y11 := hL.inn.c11; obtain ⟨A7, C7, hs7, hle7, hcm7, hrow7⟩ := own_form hL.inn.rep.stk; have y6 := hL.inn.rep.c6; rw [hs7] at y6; clear hL hC)
      · have I8 := Aside0.mk (LF.out.inn.leave.set_calls st.calls)
        have K8 := Aside0.mk ((LF.out.kept.setCell (a := ⟨G.m, 11, none⟩) II.out.rep.ownM (.pointer none)).setCell (a := ⟨G.m, 10, none⟩) II.out.rep.ownM (.int .i64 st.calls))
        have z6 : ((w7.setCell ⟨G.m, 11, none⟩ (.pointer none)).setCell ⟨G.m, 10, none⟩ (.int .i64 st.calls)).cell? ⟨G.m, 6, none⟩ = some (.slice A7 st7.stack.length C7) := by rw [I8.out.rep.c6, hs7]
        have zx : ((w7.setCell ⟨G.m, 11, none⟩ (.pointer none)).setCell ⟨G.m, 10, none⟩ (.int .i64 st.calls)).cell? ⟨w.heap.size + 1, 2, none⟩ = some (.int .i64 st.stack.length) := by
          rw [World.cell?_setCell_far _ _ _ _ hgm, World.cell?_setCell_far _ _ _ _ hgm]; exact yx
        have OW := Aside0.mk (show ((w7.setCell ⟨G.m, 11, none⟩ (.pointer none)).setCell ⟨G.m, 10, none⟩ (.int .i64 st.calls)).ownsRow 0 3 1 v7 out7.length (nums .i64 out7) from Rep.row_of_block LF.out.own (fun b e => by
          have hbm : b ≠ G.m := fun h => (LF.out.far b e).1 (h ▸ LF.out.inn.rep.ownM)
          rw [Below.heap_setCell _ _ _ _ hbm, Below.heap_setCell _ _ _ _ hbm]))
        generalize (w7.setCell ⟨G.m, 11, none⟩ (.pointer none)).setCell ⟨G.m, 10, none⟩ (.int .i64 st.calls) = w8 at I8 K8 z6 zx OW ⊢
        have hb3' : st.stack.length ≤ st7.stack.length := by rw [hb3]; simp
        have t1 : (st.stack.length : Int) ≤ C7 := by omega
        have t2 : (0 : Int) ≤ st.stack.length := by omega
        clear hrow7
        refine region_last (fun w' => w'.cell? ⟨G.m, 6, none⟩ = some (.slice A7 st7.stack.length C7) ∧ w'.cell? ⟨w.heap.size + 1, 2, none⟩ = some (.int .i64 st.stack.length) ∧ Aside0 (Below w8.drew.heap.size w8.drew w')) 12 (by kernel_rfl) (by kernel_rfl) (by kernel_rfl) ⟨z6, zx, ⟨Below.refl _ _⟩⟩ ?_
        simp only [List.range_succ, List.range_zero, List.nil_append, List.cons_append, List.singleton_append]
        repeat (
          refine walk_ex (by rfl) (by rfl) (by rfl) ?_
          apply Exists.intro
          apply And.intro
          · rintro w' ⟨k1, k2, kb⟩
            apply calm_value
            go_simp
            with_reducible rfl
          simp only [List.setIfInBounds_toArray, List.set_cons_zero, List.set_cons_succ])
        refine walk_fin (by rfl) (by rfl) ?_
        rintro w' ⟨k1, k2, kb⟩ hdf
        have I9 := Aside0.mk ((I8.out.drewN 1).below kb.out)
        have K9 := Aside0.mk ((K8.out.drewN 1).below kb.out)
        have f6 := I9.out.rep.fz 6
        have KB := kb
        clear k2 kb z6 zx
        go_wp2
        go_ret
        have hcp : callP X st [] f vs = .ok (leaveP st.stack.length f st7) [] out7 := by
          unfold callP
          rw [if_neg (by simp [hq]; omega), hr]
        have hlv : leaveP st.stack.length f st7 = { st7 with calls := st.calls, stack := st7.stack.take st.stack.length } := by simp [leaveP, hq, hb1]
        rw [hcp, hlv]
        have hbm : ∀ b, v7.ownBlock = some b → b ≠ G.m := fun b e h => (LF.out.far b e).1 (h ▸ LF.out.inn.rep.ownM)
        exact ⟨K9.out.setCell (a := ⟨G.m, 6, none⟩) II.out.rep.ownM _, v7, rfl, S7, _, LF.out.hs, I9.out.cut st.stack.length hb3' hs7⟩
      · have hcp : callP X st [] f vs = .halt k7 c7 st7 := by
          unfold callP
          rw [if_neg (by simp [hq]; omega), hr]
        exact ⟨rfl, by rw [hcp]; exact hP⟩
end Go.Proofs.Ytpphpcmbpbppoaa.Mach
end
