/- The walk of the law ReportLines: printed lines, with the contracts of report.Where and report.Outcome put in; report.Outcome's asks for strconv's table besides. -/
import Derived.Test.YtocjfdpknfnamaaDoorRepP
namespace Go.Proofs.YtocjfdpknfnamaaDoor.PReportPlaces
open Go.RowKit Go.Proofs.YtocjfdpknfnamaaDoorW.PrintWords Go.Proofs.YtocjfdpknfnamaaDoorW.PrintLast Go.Proofs.YtocjfdpknfnamaaDoorW.PrintMore
attribute [local go_sem] max2_int min2_int max_two min_two max_three min_three max_four min_four   -- for this text's walks alone
set_option linter.unusedVariables false
set_option linter.unusedSimpArgs false

/-! ### ferrulelaw28_ReportLines: function 5 -/
mutual
noncomputable def ferrulelaw28_ReportLines.l0 : Nat → ByteArray → Int → Int → Int → Int → List Int → Option (Bool)
  | 0, _, _, _, _, _, _ => none
  | k + 1, x3, x4, x5, x130000, x130001, x130002 => if x5 < (x3.size : Int) then (if 0 ≤ x5 then (if (bt x3 x5) = 10 then (ferrulelaw28_ReportLines.l0 k x3 (wrap64 (x4 + 1)) (wrap64 (x5 + 1)) x130000 x130001 x130002) else (ferrulelaw28_ReportLines.l0 k x3 x4 (wrap64 (x5 + 1)) x130000 x130001 x130002)) else (none)) else ((report_Where.f x3 (x3.size : Int)).bind fun bt131 => (if (x3.size : Int) = 0 then (ferrulelaw28_ReportLines.j1 k x3 true x130000 x130001 x130002) else (if 0 ≤ (wrap64 ((x3.size : Int) - 1)) then (if (wrap64 ((x3.size : Int) - 1)) < (x3.size : Int) then (if (bt x3 (wrap64 ((x3.size : Int) - 1))) = 10 then (if x4 = (wrap64 ((x130002.length : Int) + 1)) then (if bt131.1 = (wrap64 (x4 + 1)) then (ferrulelaw28_ReportLines.j1 k x3 (bt131.2 != 1) x130000 x130001 x130002) else (ferrulelaw28_ReportLines.j1 k x3 true x130000 x130001 x130002)) else (ferrulelaw28_ReportLines.j1 k x3 true x130000 x130001 x130002)) else (ferrulelaw28_ReportLines.j1 k x3 true x130000 x130001 x130002)) else (none)) else (none))))
noncomputable def ferrulelaw28_ReportLines.j1 : Nat → ByteArray → Bool → Int → Int → List Int → Option (Bool)
  | 0, _, _, _, _, _ => none
  | k + 1, x3, x62, x130000, x130001, x130002 => if x62 = true then (some false) else (if (x130002.length : Int) = 0 then (some true) else (if 0 < (x130002.length : Int) then ((ferruleref28_Number.f k (rd x130002 0)).bind fun t134 => (if t134.size + 1 ≤ 9223372036854775807 then (if (x3.size : Int) > ((t134 ++ (⟨#[10]⟩ : ByteArray)).size : Int) then (if 0 ≤ ((t134 ++ (⟨#[10]⟩ : ByteArray)).size : Int) then (if ((t134 ++ (⟨#[10]⟩ : ByteArray)).size : Int) ≤ (x3.size : Int) then (some ((x3.extract 0 (((t134 ++ (⟨#[10]⟩ : ByteArray)).size : Int) : Int).toNat).toList == (t134 ++ (⟨#[10]⟩ : ByteArray)).toList)) else (none)) else (none)) else (some false)) else (none))) else (none)))
end
noncomputable def ferrulelaw28_ReportLines.f (k : Nat) (a0_0 : Int) (a0_1 : Int) (l0_2 : List Int) : Option (Bool) := if (l0_2.length : Int) > 1000 then (some true) else ((report_Outcome.f a0_0 a0_1 l0_2).bind fun t130 => (ferrulelaw28_ReportLines.l0 k t130 0 0 a0_0 a0_1 l0_2))
theorem ferrulelaw28_ReportLines.mono_l : ∀ k, (∀ y0 y1 y2 y3 y4 y5, LeO (ferrulelaw28_ReportLines.l0 k y0 y1 y2 y3 y4 y5) (ferrulelaw28_ReportLines.l0 (k + 1) y0 y1 y2 y3 y4 y5)) ∧ (∀ y0 y1 y2 y3 y4, LeO (ferrulelaw28_ReportLines.j1 k y0 y1 y2 y3 y4) (ferrulelaw28_ReportLines.j1 (k + 1) y0 y1 y2 y3 y4))
  | 0 => ⟨fun _ _ _ _ _ _ r h => by simp [ferrulelaw28_ReportLines.l0] at h, fun _ _ _ _ _ r h => by simp [ferrulelaw28_ReportLines.j1] at h⟩
  | k + 1 => by
    obtain ⟨ih0, ih1⟩ := ferrulelaw28_ReportLines.mono_l k
    refine ⟨?_, ?_⟩
    · intro y0 y1 y2 y3 y4 y5
      unfold ferrulelaw28_ReportLines.l0
      repeat' first
      | (with_reducible exact ih0 _ _ _ _ _ _)
      | (with_reducible exact ih1 _ _ _ _ _)
      | (with_reducible exact ferruleref28_Number.mono _ _)
      | (with_reducible exact LeO.refl _)
      | (with_reducible exact LeO.none _)
      | (with_reducible refine LeO.ite ?_ ?_)
      | (with_reducible refine LeO.bind ?_ (fun _ => ?_))
      | exact ih0 _ _ _ _ _ _
      | exact ih1 _ _ _ _ _
      | exact ferruleref28_Number.mono _ _
      | exact LeO.none _
      | refine LeO.ite ?_ ?_
      | refine LeO.bind ?_ (fun _ => ?_)
    · intro y0 y1 y2 y3 y4
      unfold ferrulelaw28_ReportLines.j1
      repeat' first
      | (with_reducible exact ih0 _ _ _ _ _ _)
      | (with_reducible exact ih1 _ _ _ _ _)
      | (with_reducible exact ferruleref28_Number.mono _ _)
      | (with_reducible exact LeO.refl _)
      | (with_reducible exact LeO.none _)
      | (with_reducible refine LeO.ite ?_ ?_)
      | (with_reducible refine LeO.bind ?_ (fun _ => ?_))
      | exact ih0 _ _ _ _ _ _
      | exact ih1 _ _ _ _ _
      | exact ferruleref28_Number.mono _ _
      | exact LeO.none _
      | refine LeO.ite ?_ ?_
      | refine LeO.bind ?_ (fun _ => ?_)
theorem ferrulelaw28_ReportLines.mono : ∀ a0 a1 a2 k, LeO (ferrulelaw28_ReportLines.f k a0 a1 a2) (ferrulelaw28_ReportLines.f (k + 1) a0 a1 a2) := by
  intro a0 a1 a2 k
  obtain ⟨ih0, ih1⟩ := ferrulelaw28_ReportLines.mono_l k
  unfold ferrulelaw28_ReportLines.f
  repeat' first
      | (with_reducible exact ih0 _ _ _ _ _ _)
      | (with_reducible exact ih1 _ _ _ _ _)
      | (with_reducible exact ferruleref28_Number.mono _ _)
      | (with_reducible exact LeO.refl _)
      | (with_reducible exact LeO.none _)
      | (with_reducible refine LeO.ite ?_ ?_)
      | (with_reducible refine LeO.bind ?_ (fun _ => ?_))
      | exact ih0 _ _ _ _ _ _
      | exact ih1 _ _ _ _ _
      | exact ferruleref28_Number.mono _ _
      | exact LeO.none _
      | refine LeO.ite ?_ ?_
      | refine LeO.bind ?_ (fun _ => ?_)
set_option maxHeartbeats 8000000 in
set_option maxRecDepth 100000 in
theorem ferrulelaw28_ReportLines.calls (k : Nat) (a0_0 : Int) (a0_1 : Int) (A0_2 : Option Addr) (c0_2 : Nat) (l0_2 : List Int) (r : Bool) (w : World) (hTab : Rep.Tab w) (hr0_2 : Kd.C (Kd.int .i64) w A0_2 l0_2.length l0_2) (hc0_2 : l0_2.length ≤ c0_2) (h : ferrulelaw28_ReportLines.f k a0_0 a0_1 l0_2 = some r) :
    Calls Tryd.prog 5 #[.agg #[.int .i64 a0_0, .int .i64 a0_1, .slice A0_2 l0_2.length c0_2]] w fun e w' => e = .returned (.bool r) ∧ Below w.heap.size w w' := by
  have HTAB := Aside0.mk hTab
  clear hTab
  have hu34 := Tryd.underlying34
  have HR0_2 := Aside0.mk hr0_2
  have HC0_2 := Aside0.mk hc0_2
  clear hr0_2 hc0_2
  have HB := Aside0.mk (Below.refl w.heap.size w)
  have H : (if (l0_2.length : Int) > 1000 then (some true) else ((report_Outcome.f a0_0 a0_1 l0_2).bind fun t130 => (ferrulelaw28_ReportLines.l0 k t130 0 0 a0_0 a0_1 l0_2))) = some r := h
  clear h
  by_cases c2 : (l0_2.length : Int) > 1000
  · rw [if_pos c2] at H
    have c2b0 : decide (1000 < (l0_2.length : Int)) = true := decide_eq_true c2
    have c2b1 : decide (1000 < l0_2.length) = true := decide_eq_true (by omega)
    clear c2
    obtain rfl := Option.some.inj H
    go_enter Tryd.func5, Tryd.ntmps5
    go_wp2_with (first | ((with_reducible refine gate_dst (N := 1) rfl ?_); (try (refine gate_guard (by rfl) ?_; dsimp only)); refine box_event ?hg (N := 1) ?hd (cs := #[.int .i64 a0_0, .int .i64 a0_1, .slice A0_2 l0_2.length c0_2]) (t := 34) ?hr ?_; (case hd => rfl); (case hg => rfl); (case hr => first | (go_simp; done) | (go_simp; rfl)); intro gb129 hg w3 hbox hb; have n0_ := Aside0.mk (below_step (by repeat (first | (with_reducible first | exact HB.out | apply below_alloc | apply pw_below_drewN | apply below_drew1) | exact HB.out)) hb); have n1_ := Aside0.mk (hbox); have n2_ := Aside0.mk ((by rw [hg]; exact (below_size (by repeat (first | (with_reducible first | exact HB.out | apply below_alloc | apply pw_below_drewN | apply below_drew1) | exact HB.out))) : w.heap.size ≤ gb129)); have n3_ := Aside0.mk ((by rw [hg]; exact (below_size (by repeat (first | (with_reducible first | exact HB.out | apply below_alloc | apply pw_below_drewN | apply below_drew1) | exact HB.out))) : w.heap.size ≤ gb129)); clear HB; have HB := n0_; have BK129 := n1_; have GW129 := n2_; have GE129 := n3_; clear n0_ n1_ n2_ n3_; clear hb hbox hg; have hcz4_0 : w3.cell? ⟨gb129, 0, none⟩ = some (.int .i64 a0_0) := (blk_cell BK129.out 0).trans rfl; have hcz4_1 : w3.cell? ⟨gb129, 1, none⟩ = some (.int .i64 a0_1) := (blk_cell BK129.out 1).trans rfl; have hcz4_2 : w3.cell? ⟨gb129, 2, none⟩ = some (.slice A0_2 l0_2.length c0_2) := (blk_cell BK129.out 2).trans rfl; have hfz4_0 := blk_frozen BK129.out 0; have hfz4_1 := blk_frozen BK129.out 1; have hfz4_2 := blk_frozen BK129.out 2))
    go_ret
    exact ⟨by first | rfl | (simp [errW_none, errW_some] <;> rfl) | (simp [*, errW_none, errW_some] <;> rfl), by repeat (first | (with_reducible first | exact HB.out | apply below_alloc | apply pw_below_drewN | apply below_drew1 | refine below_set ?_ GE129.out) | exact HB.out)⟩
  · rw [if_neg c2] at H
    have c2b0 : decide (1000 < (l0_2.length : Int)) = false := decide_eq_false c2
    have c2b1 : decide (1000 < l0_2.length) = false := decide_eq_false (by omega)
    clear c2
    replace H := Option.bind_eq_some_iff.mp H
    obtain ⟨t130, A50, H⟩ := H
    replace H : (ferrulelaw28_ReportLines.l0 k t130 0 0 a0_0 a0_1 l0_2) = some r := H
    have A5 := Aside0.mk A50
    clear A50
    have H' := Aside0.mk H
    clear H
    go_enter Tryd.func5, Tryd.ntmps5
    go_wp2_with (first | ((with_reducible refine gate_dst (N := 1) rfl ?_); (try (refine gate_guard (by rfl) ?_; dsimp only)); refine box_event ?hg (N := 1) ?hd (cs := #[.int .i64 a0_0, .int .i64 a0_1, .slice A0_2 l0_2.length c0_2]) (t := 34) ?hr ?_; (case hd => rfl); (case hg => rfl); (case hr => first | (go_simp; done) | (go_simp; rfl)); intro gb129 hg w6 hbox hb; have n0_ := Aside0.mk (below_step (by repeat (first | (with_reducible first | exact HB.out | apply below_alloc | apply pw_below_drewN | apply below_drew1) | exact HB.out)) hb); have n1_ := Aside0.mk (hbox); have n2_ := Aside0.mk ((by rw [hg]; exact (below_size (by repeat (first | (with_reducible first | exact HB.out | apply below_alloc | apply pw_below_drewN | apply below_drew1) | exact HB.out))) : w.heap.size ≤ gb129)); have n3_ := Aside0.mk ((by rw [hg]; exact (below_size (by repeat (first | (with_reducible first | exact HB.out | apply below_alloc | apply pw_below_drewN | apply below_drew1) | exact HB.out))) : w.heap.size ≤ gb129)); clear HB; have HB := n0_; have BK129 := n1_; have GW129 := n2_; have GE129 := n3_; clear n0_ n1_ n2_ n3_; clear hb hbox hg; have hcz7_0 : w6.cell? ⟨gb129, 0, none⟩ = some (.int .i64 a0_0) := (blk_cell BK129.out 0).trans rfl; have hcz7_1 : w6.cell? ⟨gb129, 1, none⟩ = some (.int .i64 a0_1) := (blk_cell BK129.out 1).trans rfl; have hcz7_2 : w6.cell? ⟨gb129, 2, none⟩ = some (.slice A0_2 l0_2.length c0_2) := (blk_cell BK129.out 2).trans rfl; have hfz7_0 := blk_frozen BK129.out 0; have hfz7_1 := blk_frozen BK129.out 1; have hfz7_2 := blk_frozen BK129.out 2) | ((with_reducible refine gate_callee (f := 13) rfl ?_); refine goesL_ (some 14) rfl rfl Tryd.func13 (by kernel_rfl) rfl #[.agg #[.int .i64 a0_0, .int .i64 a0_1, .slice A0_2 l0_2.length c0_2]] rfl (by (try simp only [List.map_toArray, List.map_cons, List.map_nil]); first | done | rfl | (simp only [List.length_drop, List.length_take]; rfl)) ?_; (with_reducible refine (report_Outcome.calls a0_0 a0_1 _ _ l0_2 t130 _ ?side1 ?side2 A5.out ?side0).mono ?_); (case side0 => exact Rep.Tab.below HTAB.out (by repeat (first | (with_reducible first | exact HB.out | apply below_alloc | apply pw_below_drewN | apply below_drew1) | exact HB.out | exact Below.refl _ _))); (case side1 => repeat (first | exact (Kd.C_below HR0_2.out HB.out) | (with_reducible refine Kd.C_alloc ?_ _) | (with_reducible refine Kd.C_drewN ?_ _) | (with_reducible refine Kd.C_drew ?_))); (case side2 => exact HC0_2.out); rintro e w8 ⟨rfl, hb⟩; refine ⟨_, rfl, ?_⟩; have n0_ := Aside0.mk (blk_below (g := gb129) (o := .cells #[.int .i64 a0_0, .int .i64 a0_1, .slice A0_2 l0_2.length c0_2] 34 (0, 0)) (by (with_reducible repeat (first | refine blk_drewN ?_ _ | refine blk_drew ?_ | refine blk_alloc ?_ _)); exact BK129.out) hb); have n1_ := Aside0.mk (below_step (by repeat (first | (with_reducible first | exact HB.out | apply below_alloc | apply pw_below_drewN | apply below_drew1 | refine below_set ?_ GE129.out) | exact HB.out)) hb); clear BK129; clear HB; have BK129 := n0_; have HB := n1_; clear n0_ n1_; (try clear hb); (try clear hb2); (try clear hk); (try clear hi)))
    go_loopg [4, 5] k (fun kq v4 v5 w' => ∃ (x4_1 : Int) (x5_1 : Int), v4 = .int .i64 x4_1 ∧ v5 = .int .i64 x5_1 ∧ Aside0 (ferrulelaw28_ReportLines.l0 kq t130 x4_1 x5_1 a0_0 a0_1 l0_2 = some r) ∧ Aside0 (kq ≤ k) ∧ Aside0 (w'.heap[gb129]? = some (.cells #[.int .i64 a0_0, .int .i64 a0_1, (.slice A0_2 l0_2.length c0_2)] 34 (0, 0))) ∧ Aside0 (Below w.heap.size w w'))
    case atStart => exact ⟨(0), (0), (by first | rfl | (simp; done) | (simp [*]; done)), (by first | rfl | (simp; done) | (simp [*]; done)), H', ⟨Nat.le_refl _⟩, ⟨by (with_reducible repeat (first | refine blk_drewN ?_ _ | refine blk_drew ?_ | refine blk_alloc ?_ _)); exact BK129.out⟩, ⟨by repeat (first | (with_reducible first | exact HB.out | apply below_alloc | apply pw_below_drewN | apply below_drew1 | refine below_set ?_ GE129.out) | exact HB.out)⟩⟩
    case round =>
      clear H'
      try clear c1
      try clear c2
      try clear c2b0
      try clear c2b1
      try clear p2
      try clear c5
      try clear hcz4_0
      try clear hcz4_1
      try clear hcz4_2
      try clear hcz7_0
      try clear hcz7_1
      try clear hcz7_2
      try clear hfz4_0
      try clear hfz4_1
      try clear hfz4_2
      try clear hfz7_0
      try clear hfz7_1
      try clear hfz7_2
      obtain ⟨x4_1, x5_1, rfl, rfl, HA, HK1, BK129, HB⟩ := hrel
      cases gk with
      | zero => exact absurd HA.out (by simp [ferrulelaw28_ReportLines.l0])
      | succ k1 =>
        have H := HA.out
        clear HA
        simp only [ferrulelaw28_ReportLines.l0] at H
        by_cases c9 : x5_1 < (t130.size : Int)
        · rw [if_pos c9] at H
          have c9b0 : decide (x5_1 < (t130.size : Int)) = true := decide_eq_true c9
          clear c9
          by_cases c10 : 0 ≤ x5_1
          · rw [if_pos c10] at H
            have c10b0 : decide (0 ≤ x5_1) = true := decide_eq_true c10
            clear c10
            by_cases c12 : (bt t130 x5_1) = 10
            · rw [if_pos c12] at H
              have c12b0 : ((bt t130 x5_1) == 10) = true := beq_iff_eq.mpr c12
              have c12b1 : ((bt t130 x5_1) != 10) = false := bne_eq_false_iff_eq.mpr c12
              clear c12
              have H' := Aside0.mk H
              clear H
              have p11 : 0 ≤ (x5_1 : Int) := of_decide_eq_true (by first | (with_reducible assumption) | assumption)
              have q11 : x5_1 < (t130.size : Int) := of_decide_eq_true (by first | (with_reducible assumption) | assumption)
              have hx11 := bt_at t130 x5_1
              replace p11 := eq_true p11
              replace q11 := eq_true q11
              go_wp2
              go_roundg k1
              case measure => have := HK1.out; omega
              case rel => exact ⟨(wrap64 (x4_1 + 1)), (wrap64 (x5_1 + 1)), (by first | rfl | (simp; done) | (simp [*]; done)), (by first | rfl | (simp; done) | (simp [*]; done)), H', ⟨by have := HK1.out; omega⟩, ⟨by (with_reducible repeat (first | refine blk_drewN ?_ _ | refine blk_drew ?_ | refine blk_alloc ?_ _)); exact BK129.out⟩, ⟨by repeat (first | (with_reducible first | exact HB.out | apply below_alloc | apply pw_below_drewN | apply below_drew1 | refine below_set ?_ GE129.out) | exact HB.out)⟩⟩
            · rw [if_neg c12] at H
              have c12b0 : ((bt t130 x5_1) == 10) = false := beq_eq_false_iff_ne.mpr c12
              have c12b1 : ((bt t130 x5_1) != 10) = true := bne_iff_ne.mpr c12
              have H' := Aside0.mk H
              clear H
              have p11 : 0 ≤ (x5_1 : Int) := of_decide_eq_true (by first | (with_reducible assumption) | assumption)
              have q11 : x5_1 < (t130.size : Int) := of_decide_eq_true (by first | (with_reducible assumption) | assumption)
              have hx11 := bt_at t130 x5_1
              replace p11 := eq_true p11
              replace q11 := eq_true q11
              go_wp2
              go_roundg k1
              case measure => have := HK1.out; omega
              case rel => exact ⟨(x4_1), (wrap64 (x5_1 + 1)), (by first | rfl | (simp; done) | (simp [*]; done)), (by first | rfl | (simp; done) | (simp [*]; done)), H', ⟨by have := HK1.out; omega⟩, ⟨by (with_reducible repeat (first | refine blk_drewN ?_ _ | refine blk_drew ?_ | refine blk_alloc ?_ _)); exact BK129.out⟩, ⟨by repeat (first | (with_reducible first | exact HB.out | apply below_alloc | apply pw_below_drewN | apply below_drew1 | refine below_set ?_ GE129.out) | exact HB.out)⟩⟩
          · rw [if_neg c10] at H
            exact absurd H (by simp)
        · rw [if_neg c9] at H
          have c9b0 : decide (x5_1 < (t130.size : Int)) = false := decide_eq_false c9
          clear c9
          replace H := Option.bind_eq_some_iff.mp H
          obtain ⟨⟨t131, t132⟩, A130, H⟩ := H
          replace H : (if (t130.size : Int) = 0 then (ferrulelaw28_ReportLines.j1 k1 t130 true a0_0 a0_1 l0_2) else (if 0 ≤ (wrap64 ((t130.size : Int) - 1)) then (if (wrap64 ((t130.size : Int) - 1)) < (t130.size : Int) then (if (bt t130 (wrap64 ((t130.size : Int) - 1))) = 10 then (if x4_1 = (wrap64 ((l0_2.length : Int) + 1)) then (if t131 = (wrap64 (x4_1 + 1)) then (ferrulelaw28_ReportLines.j1 k1 t130 (t132 != 1) a0_0 a0_1 l0_2) else (ferrulelaw28_ReportLines.j1 k1 t130 true a0_0 a0_1 l0_2)) else (ferrulelaw28_ReportLines.j1 k1 t130 true a0_0 a0_1 l0_2)) else (ferrulelaw28_ReportLines.j1 k1 t130 true a0_0 a0_1 l0_2)) else (none)) else (none))) = some r := H
          have A13 := Aside0.mk A130
          clear A130
          have HC14 := Aside0.mk H
          clear H
          go_upto_region 11 with (first | ((with_reducible refine gate_callee (f := 11) rfl ?_); refine goesL_ (some 31) rfl rfl Tryd.func11 (by kernel_rfl) rfl #[.string t130, .int .i64 (t130.size : Int)] rfl (by (try simp only [List.map_toArray, List.map_cons, List.map_nil]); first | done | rfl | (simp only [List.length_drop, List.length_take]; rfl)) ?_; (with_reducible refine (report_Where.calls t130 (t130.size : Int) t131 t132 _ A13.out).mono ?_); rintro e w' ⟨rfl, ⟨nd, rfl⟩⟩; refine ⟨_, rfl, ?_⟩))
          (try simp only [Act.put, List.setIfInBounds_toArray, List.set_cons_zero, List.set_cons_succ])
          go_cut [62] (fun v62 wc => ∃ (kq : Nat) (x62_13 : Bool), v62 = .bool x62_13 ∧ Aside0 (ferrulelaw28_ReportLines.j1 kq t130 x62_13 a0_0 a0_1 l0_2 = some r) ∧ Aside0 (kq ≤ k1) ∧ Aside0 (wc.heap[gb129]? = some (.cells #[.int .i64 a0_0, .int .i64 a0_1, (.slice A0_2 l0_2.length c0_2)] 34 (0, 0))) ∧ Aside0 (Below w.heap.size w wc))
          case first =>
            have H := HC14.out
            clear HC14
            by_cases c15 : (t130.size : Int) = 0
            · rw [if_pos c15] at H
              have c15b0 : ((t130.size : Int) == 0) = true := beq_iff_eq.mpr c15
              have c15b1 : ((t130.size : Int) != 0) = false := bne_eq_false_iff_eq.mpr c15
              clear c15
              (first | rw [c15b0] | (simp only [i64_w, i32_w]; rw [c15b0]) | skip)
              have H' := Aside0.mk H
              clear H
              go_wp2
              go_meet
              case rel => exact ⟨_, (true), (by first | rfl | (simp; done) | (simp [*]; done)), H', ⟨by have := HK1.out; first | omega | exact Nat.le_refl _⟩, ⟨by (with_reducible repeat (first | refine blk_drewN ?_ _ | refine blk_drew ?_ | refine blk_alloc ?_ _)); exact BK129.out⟩, ⟨by repeat (first | (with_reducible first | exact HB.out | apply below_alloc | apply pw_below_drewN | apply below_drew1 | refine below_set ?_ GE129.out) | exact HB.out)⟩⟩
            · rw [if_neg c15] at H
              have c15b0 : ((t130.size : Int) == 0) = false := beq_eq_false_iff_ne.mpr c15
              have c15b1 : ((t130.size : Int) != 0) = true := bne_iff_ne.mpr c15
              (first | rw [c15b0] | (simp only [i64_w, i32_w]; rw [c15b0]) | skip)
              obtain ⟨ji16, hji16⟩ : ∃ j_ : Int, (wrap64 ((t130.size : Int) - 1)) = j_ := ⟨_, rfl⟩
              replace H : (if 0 ≤ (ji16) then (if (ji16) < (t130.size : Int) then (if (bt t130 (ji16)) = 10 then (if x4_1 = (wrap64 ((l0_2.length : Int) + 1)) then (if t131 = (wrap64 (x4_1 + 1)) then (ferrulelaw28_ReportLines.j1 k1 t130 (t132 != 1) a0_0 a0_1 l0_2) else (ferrulelaw28_ReportLines.j1 k1 t130 true a0_0 a0_1 l0_2)) else (ferrulelaw28_ReportLines.j1 k1 t130 true a0_0 a0_1 l0_2)) else (ferrulelaw28_ReportLines.j1 k1 t130 true a0_0 a0_1 l0_2)) else (none)) else (none)) = some r := by first | (rw [hji16] at H; exact H) | (simp only [hji16] at H ⊢; exact H)
              have hji16w : (IntKind.i64.wrap ((t130.size : Int) - 1)) = ji16 := (i64_w _).trans hji16
              by_cases c17 : 0 ≤ (ji16)
              · rw [if_pos c17] at H
                have c17b0 : decide (0 ≤ (ji16)) = true := decide_eq_true c17
                clear c17
                by_cases c18 : (ji16) < (t130.size : Int)
                · rw [if_pos c18] at H
                  have c18b0 : decide ((ji16) < (t130.size : Int)) = true := decide_eq_true c18
                  clear c18
                  by_cases c20 : (bt t130 (ji16)) = 10
                  · rw [if_pos c20] at H
                    have c20b0 : ((bt t130 (ji16)) == 10) = true := beq_iff_eq.mpr c20
                    have c20b1 : ((bt t130 (ji16)) != 10) = false := bne_eq_false_iff_eq.mpr c20
                    clear c20
                    by_cases c21 : x4_1 = (wrap64 ((l0_2.length : Int) + 1))
                    · rw [if_pos c21] at H
                      have c21b0 : (x4_1 == (wrap64 ((l0_2.length : Int) + 1))) = true := beq_iff_eq.mpr c21
                      have c21b1 : (x4_1 != (wrap64 ((l0_2.length : Int) + 1))) = false := bne_eq_false_iff_eq.mpr c21
                      clear c21
                      by_cases c22 : t131 = (wrap64 (x4_1 + 1))
                      · rw [if_pos c22] at H
                        have c22b0 : (t131 == (wrap64 (x4_1 + 1))) = true := beq_iff_eq.mpr c22
                        have c22b1 : (t131 != (wrap64 (x4_1 + 1))) = false := bne_eq_false_iff_eq.mpr c22
                        clear c22
                        have H' := Aside0.mk H
                        clear H
                        have p19 : 0 ≤ ((ji16) : Int) := of_decide_eq_true (by first | (with_reducible assumption) | assumption)
                        have q19 : (ji16) < (t130.size : Int) := of_decide_eq_true (by first | (with_reducible assumption) | assumption)
                        have hx19 := bt_at t130 (ji16)
                        replace p19 := eq_true p19
                        replace q19 := eq_true q19
                        have hcz23_0 : wr.cell? ⟨gb129, 0, none⟩ = some (.int .i64 a0_0) := (blk_cell BK129.out 0).trans rfl
                        have hcz23_1 : wr.cell? ⟨gb129, 1, none⟩ = some (.int .i64 a0_1) := (blk_cell BK129.out 1).trans rfl
                        have hcz23_2 : wr.cell? ⟨gb129, 2, none⟩ = some (.slice A0_2 l0_2.length c0_2) := (blk_cell BK129.out 2).trans rfl
                        have hfz23_0 := blk_frozen BK129.out 0
                        have hfz23_1 := blk_frozen BK129.out 1
                        have hfz23_2 := blk_frozen BK129.out 2
                        go_wp2
                        go_meet
                        case rel => exact ⟨_, ((t132 != 1)), (by first | rfl | (simp; done) | (simp [*]; done)), H', ⟨by have := HK1.out; first | omega | exact Nat.le_refl _⟩, ⟨by (with_reducible repeat (first | refine blk_drewN ?_ _ | refine blk_drew ?_ | refine blk_alloc ?_ _)); exact BK129.out⟩, ⟨by repeat (first | (with_reducible first | exact HB.out | apply below_alloc | apply pw_below_drewN | apply below_drew1 | refine below_set ?_ GE129.out) | exact HB.out)⟩⟩
                      · rw [if_neg c22] at H
                        have c22b0 : (t131 == (wrap64 (x4_1 + 1))) = false := beq_eq_false_iff_ne.mpr c22
                        have c22b1 : (t131 != (wrap64 (x4_1 + 1))) = true := bne_iff_ne.mpr c22
                        have H' := Aside0.mk H
                        clear H
                        have p19 : 0 ≤ ((ji16) : Int) := of_decide_eq_true (by first | (with_reducible assumption) | assumption)
                        have q19 : (ji16) < (t130.size : Int) := of_decide_eq_true (by first | (with_reducible assumption) | assumption)
                        have hx19 := bt_at t130 (ji16)
                        replace p19 := eq_true p19
                        replace q19 := eq_true q19
                        have hcz24_0 : wr.cell? ⟨gb129, 0, none⟩ = some (.int .i64 a0_0) := (blk_cell BK129.out 0).trans rfl
                        have hcz24_1 : wr.cell? ⟨gb129, 1, none⟩ = some (.int .i64 a0_1) := (blk_cell BK129.out 1).trans rfl
                        have hcz24_2 : wr.cell? ⟨gb129, 2, none⟩ = some (.slice A0_2 l0_2.length c0_2) := (blk_cell BK129.out 2).trans rfl
                        have hfz24_0 := blk_frozen BK129.out 0
                        have hfz24_1 := blk_frozen BK129.out 1
                        have hfz24_2 := blk_frozen BK129.out 2
                        go_wp2
                        go_meet
                        case rel => exact ⟨_, (true), (by first | rfl | (simp; done) | (simp [*]; done)), H', ⟨by have := HK1.out; first | omega | exact Nat.le_refl _⟩, ⟨by (with_reducible repeat (first | refine blk_drewN ?_ _ | refine blk_drew ?_ | refine blk_alloc ?_ _)); exact BK129.out⟩, ⟨by repeat (first | (with_reducible first | exact HB.out | apply below_alloc | apply pw_below_drewN | apply below_drew1 | refine below_set ?_ GE129.out) | exact HB.out)⟩⟩
                    · rw [if_neg c21] at H
                      have c21b0 : (x4_1 == (wrap64 ((l0_2.length : Int) + 1))) = false := beq_eq_false_iff_ne.mpr c21
                      have c21b1 : (x4_1 != (wrap64 ((l0_2.length : Int) + 1))) = true := bne_iff_ne.mpr c21
                      have H' := Aside0.mk H
                      clear H
                      have p19 : 0 ≤ ((ji16) : Int) := of_decide_eq_true (by first | (with_reducible assumption) | assumption)
                      have q19 : (ji16) < (t130.size : Int) := of_decide_eq_true (by first | (with_reducible assumption) | assumption)
                      have hx19 := bt_at t130 (ji16)
                      replace p19 := eq_true p19
                      replace q19 := eq_true q19
                      have hcz25_0 : wr.cell? ⟨gb129, 0, none⟩ = some (.int .i64 a0_0) := (blk_cell BK129.out 0).trans rfl
                      have hcz25_1 : wr.cell? ⟨gb129, 1, none⟩ = some (.int .i64 a0_1) := (blk_cell BK129.out 1).trans rfl
                      have hcz25_2 : wr.cell? ⟨gb129, 2, none⟩ = some (.slice A0_2 l0_2.length c0_2) := (blk_cell BK129.out 2).trans rfl
                      have hfz25_0 := blk_frozen BK129.out 0
                      have hfz25_1 := blk_frozen BK129.out 1
                      have hfz25_2 := blk_frozen BK129.out 2
                      go_wp2
                      go_meet
                      case rel => exact ⟨_, (true), (by first | rfl | (simp; done) | (simp [*]; done)), H', ⟨by have := HK1.out; first | omega | exact Nat.le_refl _⟩, ⟨by (with_reducible repeat (first | refine blk_drewN ?_ _ | refine blk_drew ?_ | refine blk_alloc ?_ _)); exact BK129.out⟩, ⟨by repeat (first | (with_reducible first | exact HB.out | apply below_alloc | apply pw_below_drewN | apply below_drew1 | refine below_set ?_ GE129.out) | exact HB.out)⟩⟩
                  · rw [if_neg c20] at H
                    have c20b0 : ((bt t130 (ji16)) == 10) = false := beq_eq_false_iff_ne.mpr c20
                    have c20b1 : ((bt t130 (ji16)) != 10) = true := bne_iff_ne.mpr c20
                    have H' := Aside0.mk H
                    clear H
                    have p19 : 0 ≤ ((ji16) : Int) := of_decide_eq_true (by first | (with_reducible assumption) | assumption)
                    have q19 : (ji16) < (t130.size : Int) := of_decide_eq_true (by first | (with_reducible assumption) | assumption)
                    have hx19 := bt_at t130 (ji16)
                    replace p19 := eq_true p19
                    replace q19 := eq_true q19
                    go_wp2
                    go_meet
                    case rel => exact ⟨_, (true), (by first | rfl | (simp; done) | (simp [*]; done)), H', ⟨by have := HK1.out; first | omega | exact Nat.le_refl _⟩, ⟨by (with_reducible repeat (first | refine blk_drewN ?_ _ | refine blk_drew ?_ | refine blk_alloc ?_ _)); exact BK129.out⟩, ⟨by repeat (first | (with_reducible first | exact HB.out | apply below_alloc | apply pw_below_drewN | apply below_drew1 | refine below_set ?_ GE129.out) | exact HB.out)⟩⟩
                · rw [if_neg c18] at H
                  exact absurd H (by simp)
              · rw [if_neg c17] at H
                exact absurd H (by simp)
          case rest =>
            clear HC14
            try clear c1
            try clear p1
            try clear q1
            try clear hx1
            try clear c2
            try clear c2b0
            try clear c2b1
            try clear p2
            try clear c5
            try clear p6
            try clear c9
            try clear c9b0
            try clear c10
            try clear c10b0
            try clear c11
            try clear p11
            try clear q11
            try clear hx11
            try clear c12
            try clear c12b0
            try clear c12b1
            try clear c13
            try clear c15
            try clear c15b0
            try clear c15b1
            try clear c17
            try clear c17b0
            try clear c18
            try clear c18b0
            try clear p19
            try clear q19
            try clear hx19
            try clear c20
            try clear c20b0
            try clear c20b1
            try clear c21
            try clear c21b0
            try clear c21b1
            try clear c22
            try clear c22b0
            try clear c22b1
            try clear hcz23_0
            try clear hcz23_1
            try clear hcz23_2
            try clear hcz24_0
            try clear hcz24_1
            try clear hcz24_2
            try clear hcz25_0
            try clear hcz25_1
            try clear hcz25_2
            try clear hcz4_0
            try clear hcz4_1
            try clear hcz4_2
            try clear hcz7_0
            try clear hcz7_1
            try clear hcz7_2
            try clear hfz23_0
            try clear hfz23_1
            try clear hfz23_2
            try clear hfz24_0
            try clear hfz24_1
            try clear hfz24_2
            try clear hfz25_0
            try clear hfz25_1
            try clear hfz25_2
            try clear hfz4_0
            try clear hfz4_1
            try clear hfz4_2
            try clear hfz7_0
            try clear hfz7_1
            try clear hfz7_2
            try clear p11
            try clear p19
            try clear p2
            try clear q11
            try clear q19
            obtain ⟨kq, x62_13, rfl, HA, HJ13, BK129, HB⟩ := hcut
            cases kq with
            | zero => exact absurd HA.out (by simp [ferrulelaw28_ReportLines.j1])
            | succ kj13 =>
              have H := HA.out
              clear HA
              simp only [ferrulelaw28_ReportLines.j1] at H
              by_cases c26 : x62_13 = true
              · subst c26
                have H1 : (some false) = some r := by rw [if_pos rfl] at H; exact H
                clear H
                have H := H1
                clear H1
                obtain rfl := Option.some.inj H
                go_wp2
                go_ret
                exact ⟨by first | rfl | (simp [errW_none, errW_some] <;> rfl) | (simp [*, errW_none, errW_some] <;> rfl), by repeat (first | (with_reducible first | exact HB.out | apply below_alloc | apply pw_below_drewN | apply below_drew1 | refine below_set ?_ GE129.out) | exact HB.out)⟩
              · replace c26 := Bool.eq_false_iff.mpr c26
                subst c26
                have H1 : (if (l0_2.length : Int) = 0 then (some true) else (if 0 < (l0_2.length : Int) then ((ferruleref28_Number.f kj13 (rd l0_2 0)).bind fun t134 => (if t134.size + 1 ≤ 9223372036854775807 then (if (t130.size : Int) > ((t134 ++ (⟨#[10]⟩ : ByteArray)).size : Int) then (if 0 ≤ ((t134 ++ (⟨#[10]⟩ : ByteArray)).size : Int) then (if ((t134 ++ (⟨#[10]⟩ : ByteArray)).size : Int) ≤ (t130.size : Int) then (some ((t130.extract 0 (((t134 ++ (⟨#[10]⟩ : ByteArray)).size : Int) : Int).toNat).toList == (t134 ++ (⟨#[10]⟩ : ByteArray)).toList)) else (none)) else (none)) else (some false)) else (none))) else (none))) = some r := by rw [if_neg (show ¬ (false = true) by decide)] at H; exact H
                clear H
                have H := H1
                clear H1
                by_cases c27 : (l0_2.length : Int) = 0
                · rw [if_pos c27] at H
                  have c27b0 : ((l0_2.length : Int) == 0) = true := beq_iff_eq.mpr c27
                  have c27b1 : ((l0_2.length : Int) != 0) = false := bne_eq_false_iff_eq.mpr c27
                  clear c27
                  obtain rfl := Option.some.inj H
                  have hcz28_0 : wc.cell? ⟨gb129, 0, none⟩ = some (.int .i64 a0_0) := (blk_cell BK129.out 0).trans rfl
                  have hcz28_1 : wc.cell? ⟨gb129, 1, none⟩ = some (.int .i64 a0_1) := (blk_cell BK129.out 1).trans rfl
                  have hcz28_2 : wc.cell? ⟨gb129, 2, none⟩ = some (.slice A0_2 l0_2.length c0_2) := (blk_cell BK129.out 2).trans rfl
                  have hfz28_0 := blk_frozen BK129.out 0
                  have hfz28_1 := blk_frozen BK129.out 1
                  have hfz28_2 := blk_frozen BK129.out 2
                  go_wp2
                  go_ret
                  exact ⟨by first | rfl | (simp [errW_none, errW_some] <;> rfl) | (simp [*, errW_none, errW_some] <;> rfl), by repeat (first | (with_reducible first | exact HB.out | apply below_alloc | apply pw_below_drewN | apply below_drew1 | refine below_set ?_ GE129.out) | exact HB.out)⟩
                · rw [if_neg c27] at H
                  have c27b0 : ((l0_2.length : Int) == 0) = false := beq_eq_false_iff_ne.mpr c27
                  have c27b1 : ((l0_2.length : Int) != 0) = true := bne_iff_ne.mpr c27
                  have c27b2 : ¬ (l0_2 = []) := fun h_ => c27 (by rw [h_]; rfl)
                  by_cases c29 : 0 < (l0_2.length : Int)
                  · rw [if_pos c29] at H
                    have c29b0 : decide (0 < (l0_2.length : Int)) = true := decide_eq_true c29
                    have c29b1 : decide (0 < l0_2.length) = true := decide_eq_true (by omega)
                    clear c29
                    replace H := Option.bind_eq_some_iff.mp H
                    obtain ⟨t134, A300, H⟩ := H
                    replace H : (if t134.size + 1 ≤ 9223372036854775807 then (if (t130.size : Int) > ((t134 ++ (⟨#[10]⟩ : ByteArray)).size : Int) then (if 0 ≤ ((t134 ++ (⟨#[10]⟩ : ByteArray)).size : Int) then (if ((t134 ++ (⟨#[10]⟩ : ByteArray)).size : Int) ≤ (t130.size : Int) then (some ((t130.extract 0 (((t134 ++ (⟨#[10]⟩ : ByteArray)).size : Int) : Int).toNat).toList == (t134 ++ (⟨#[10]⟩ : ByteArray)).toList)) else (none)) else (none)) else (some false)) else (none)) = some r := H
                    have A30 := Aside0.mk A300
                    clear A300
                    by_cases c31 : t134.size + 1 ≤ 9223372036854775807
                    · rw [if_pos c31] at H
                      have c31b0 := eq_true c31
                      have c31b1 : decide (t134.size + 1 ≤ 9223372036854775807) = true := decide_eq_true c31
                      try have c31b2 : (9223372036854775807 < t134.size + 1) = False := eq_false (Nat.not_lt.2 c31)
                      by_cases c32 : (t130.size : Int) > ((t134 ++ (⟨#[10]⟩ : ByteArray)).size : Int)
                      · rw [if_pos c32] at H
                        have c32nz : (t134.size : Int) + 1 < (t130.size : Int) := by have h_ := c32; rw [ByteArray.size_append] at h_; simp only [show (⟨#[10]⟩ : ByteArray).size = 1 from rfl] at h_; omega
                        have c32n0 : decide ((t134.size : Int) + 1 < (t130.size : Int)) = true := decide_eq_true c32nz
                        have c32n1 : t134.size + 1 < t130.size := by omega
                        have c32n2 : decide (t134.size + 1 < t130.size) = true := decide_eq_true c32n1
                        have c32b0 : decide (((t134 ++ (⟨#[10]⟩ : ByteArray)).size : Int) < (t130.size : Int)) = true := decide_eq_true c32
                        have c32b1 : decide ((t134 ++ (⟨#[10]⟩ : ByteArray)).size < t130.size) = true := decide_eq_true (Int.ofNat_lt.mp c32)
                        clear c32
                        by_cases c33 : 0 ≤ ((t134 ++ (⟨#[10]⟩ : ByteArray)).size : Int)
                        · rw [if_pos c33] at H
                          have c33b0 := eq_true c33
                          have c33b1 : decide (0 ≤ ((t134 ++ (⟨#[10]⟩ : ByteArray)).size : Int)) = true := decide_eq_true c33
                          by_cases c34 : ((t134 ++ (⟨#[10]⟩ : ByteArray)).size : Int) ≤ (t130.size : Int)
                          · rw [if_pos c34] at H
                            have c34nz : (t134.size : Int) + 1 ≤ (t130.size : Int) := by have h_ := c34; rw [ByteArray.size_append] at h_; simp only [show (⟨#[10]⟩ : ByteArray).size = 1 from rfl] at h_; omega
                            have c34n0 : decide ((t134.size : Int) + 1 ≤ (t130.size : Int)) = true := decide_eq_true c34nz
                            have c34n1 : t134.size + 1 ≤ t130.size := by omega
                            have c34n2 : decide (t134.size + 1 ≤ t130.size) = true := decide_eq_true c34n1
                            have c34b0 := eq_true c34
                            have c34b1 : decide (((t134 ++ (⟨#[10]⟩ : ByteArray)).size : Int) ≤ (t130.size : Int)) = true := decide_eq_true c34
                            obtain rfl := Option.some.inj H
                            have hcz35_0 : wc.cell? ⟨gb129, 0, none⟩ = some (.int .i64 a0_0) := (blk_cell BK129.out 0).trans rfl
                            have hcz35_1 : wc.cell? ⟨gb129, 1, none⟩ = some (.int .i64 a0_1) := (blk_cell BK129.out 1).trans rfl
                            have hcz35_2 : wc.cell? ⟨gb129, 2, none⟩ = some (.slice A0_2 l0_2.length c0_2) := (blk_cell BK129.out 2).trans rfl
                            have hfz35_0 := blk_frozen BK129.out 0
                            have hfz35_1 := blk_frozen BK129.out 1
                            have hfz35_2 := blk_frozen BK129.out 2
                            have p133 : 0 ≤ (0 : Int) := (by omega)
                            have q133 : 0 < (l0_2.length : Int) := of_decide_eq_true (by first | (with_reducible assumption) | assumption)
                            obtain ⟨ad133, e133, hx133_0⟩ := Kd.at_int HR0_2.out 0 p133 q133
                            cases e133
                            have qi133 : (0 < l0_2.length) = True := eq_true (by omega)
                            (try rw [show ((0 : Int)).toNat = 0 from rfl] at hx133_0)
                            (try rw [Addr.add_zero'] at hx133_0)
                            replace hx133_0 := (HB.out.cell (World.block_lt_of_cell? w _ hx133_0)).trans hx133_0
                            replace p133 := eq_true p133
                            replace q133 := eq_true q133
                            go_wp2_with (first | ((with_reducible refine gate_callee (f := 15) rfl ?_); refine goesL_ (some 71) rfl rfl Tryd.func15 (by kernel_rfl) rfl #[.int .i64 (rd l0_2 0)] rfl (by (try simp only [List.map_toArray, List.map_cons, List.map_nil]); first | done | rfl | (simp only [List.length_drop, List.length_take]; rfl)) ?_; (with_reducible refine (ferruleref28_Number.calls kj13 (rd l0_2 0) t134 _ A30.out).mono ?_); rintro e w' ⟨rfl, ⟨nd, rfl⟩⟩; refine ⟨_, rfl, ?_⟩))
                            go_ret
                            exact ⟨by first | rfl | (simp [errW_none, errW_some] <;> rfl) | (simp [*, errW_none, errW_some] <;> rfl), by repeat (first | (with_reducible first | exact HB.out | apply below_alloc | apply pw_below_drewN | apply below_drew1 | refine below_set ?_ GE129.out) | exact HB.out)⟩
                          · rw [if_neg c34] at H
                            exact absurd H (by simp)
                        · rw [if_neg c33] at H
                          exact absurd H (by simp)
                      · rw [if_neg c32] at H
                        have c32nz : ¬ ((t134.size : Int) + 1 < (t130.size : Int)) := by have h_ := c32; rw [ByteArray.size_append] at h_; simp only [show (⟨#[10]⟩ : ByteArray).size = 1 from rfl] at h_; omega
                        have c32n0 : decide ((t134.size : Int) + 1 < (t130.size : Int)) = false := decide_eq_false c32nz
                        have c32n1 : ¬ (t134.size + 1 < t130.size) := by omega
                        have c32n2 : decide (t134.size + 1 < t130.size) = false := decide_eq_false c32n1
                        have c32b0 : decide (((t134 ++ (⟨#[10]⟩ : ByteArray)).size : Int) < (t130.size : Int)) = false := decide_eq_false c32
                        have c32b1 : decide ((t134 ++ (⟨#[10]⟩ : ByteArray)).size < t130.size) = false := decide_eq_false (fun h => c32 (Int.ofNat_lt.mpr h))
                        clear c32
                        obtain rfl := Option.some.inj H
                        have hcz36_0 : wc.cell? ⟨gb129, 0, none⟩ = some (.int .i64 a0_0) := (blk_cell BK129.out 0).trans rfl
                        have hcz36_1 : wc.cell? ⟨gb129, 1, none⟩ = some (.int .i64 a0_1) := (blk_cell BK129.out 1).trans rfl
                        have hcz36_2 : wc.cell? ⟨gb129, 2, none⟩ = some (.slice A0_2 l0_2.length c0_2) := (blk_cell BK129.out 2).trans rfl
                        have hfz36_0 := blk_frozen BK129.out 0
                        have hfz36_1 := blk_frozen BK129.out 1
                        have hfz36_2 := blk_frozen BK129.out 2
                        have p133 : 0 ≤ (0 : Int) := (by omega)
                        have q133 : 0 < (l0_2.length : Int) := of_decide_eq_true (by first | (with_reducible assumption) | assumption)
                        obtain ⟨ad133, e133, hx133_0⟩ := Kd.at_int HR0_2.out 0 p133 q133
                        cases e133
                        have qi133 : (0 < l0_2.length) = True := eq_true (by omega)
                        (try rw [show ((0 : Int)).toNat = 0 from rfl] at hx133_0)
                        (try rw [Addr.add_zero'] at hx133_0)
                        replace hx133_0 := (HB.out.cell (World.block_lt_of_cell? w _ hx133_0)).trans hx133_0
                        replace p133 := eq_true p133
                        replace q133 := eq_true q133
                        go_wp2_with (first | ((with_reducible refine gate_callee (f := 15) rfl ?_); refine goesL_ (some 71) rfl rfl Tryd.func15 (by kernel_rfl) rfl #[.int .i64 (rd l0_2 0)] rfl (by (try simp only [List.map_toArray, List.map_cons, List.map_nil]); first | done | rfl | (simp only [List.length_drop, List.length_take]; rfl)) ?_; (with_reducible refine (ferruleref28_Number.calls kj13 (rd l0_2 0) t134 _ A30.out).mono ?_); rintro e w' ⟨rfl, ⟨nd, rfl⟩⟩; refine ⟨_, rfl, ?_⟩))
                        go_ret
                        exact ⟨by first | rfl | (simp [errW_none, errW_some] <;> rfl) | (simp [*, errW_none, errW_some] <;> rfl), by repeat (first | (with_reducible first | exact HB.out | apply below_alloc | apply pw_below_drewN | apply below_drew1 | refine below_set ?_ GE129.out) | exact HB.out)⟩
                    · rw [if_neg c31] at H
                      exact absurd H (by simp)
                  · rw [if_neg c29] at H
                    exact absurd H (by simp)

end Go.Proofs.YtocjfdpknfnamaaDoor.PReportPlaces
