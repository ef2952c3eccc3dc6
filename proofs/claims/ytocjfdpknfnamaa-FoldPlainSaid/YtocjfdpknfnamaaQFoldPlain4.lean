-- Lines written by a program for this claim: the kit's print, with contracts of this session's own put in.
import Derived.Test.YtocjfdpknfnamaaQFoldPlain0
import Derived.Test.YtocjfdpknfnamaaQFoldPlain3
namespace Go.Proofs.Ytocjfdpknfnamaa.QFoldPlain
open Go.RowKit Go.Proofs.YtocjfdpknfnamaaW.PrintWords Go.Proofs.YtocjfdpknfnamaaW.PrintLast Go.Proofs.YtocjfdpknfnamaaW.PrintMore
attribute [local go_sem] max2_int min2_int max_two min_two max_three min_three max_four min_four   -- for this text's walks alone
set_option linter.unusedVariables false
set_option linter.unusedSimpArgs false

/-! ### ferruleref15_Plain: function 12 -/
mutual
def ferruleref15_Plain.l0 : Nat → List Bool → Int → ByteArray → List Int → Int → Int → Bool → List (S61) → Option (List Bool)
  | 0, _, _, _, _, _, _, _, _ => none
  | k + 1, x3, x4, x104000, x104001, x104002, x104003, x104004, x104005 => if x4 < (x104001.length : Int) then (if 0 ≤ x4 then (ferruleref15_Plain.l1 k x3 x4 ((rd x104001 x4) == 1) 0 x104000 x104001 x104002 x104003 x104004 x104005) else (none)) else (some x3)
def ferruleref15_Plain.l1 : Nat → List Bool → Int → Bool → Int → ByteArray → List Int → Int → Int → Bool → List (S61) → Option (List Bool)
  | 0, _, _, _, _, _, _, _, _, _, _ => none
  | k + 1, x3, x4, x5, x6, x104000, x104001, x104002, x104003, x104004, x104005 => if x6 < (x104005.length : Int) then (if 0 ≤ x6 then (ferruleref15_Plain.l2 k x3 x4 x5 x6 ((rd_T61 x104005 x6).f0) 0 x104000 x104001 x104002 x104003 x104004 x104005) else (none)) else (if x3.length < 140737488355328 then (ferruleref15_Plain.l0 k (x3 ++ [x5]) (wrap64 (x4 + 1)) x104000 x104001 x104002 x104003 x104004 x104005) else (none))
def ferruleref15_Plain.l2 : Nat → List Bool → Int → Bool → Int → List (S69) → Int → ByteArray → List Int → Int → Int → Bool → List (S61) → Option (List Bool)
  | 0, _, _, _, _, _, _, _, _, _, _, _, _ => none
  | k + 1, x3, x4, x5, x6, x7, x8, x104000, x104001, x104002, x104003, x104004, x104005 => if x8 < (x7.length : Int) then (if 0 ≤ x8 then (if ((rd_T69 x7 x8).f0) = 3 then (ferruleref15_Plain.j3 k x3 x4 x5 x6 x7 x8 true x104000 x104001 x104002 x104003 x104004 x104005) else (if ((rd_T69 x7 x8).f0) = 4 then (ferruleref15_Plain.j3 k x3 x4 x5 x6 x7 x8 true x104000 x104001 x104002 x104003 x104004 x104005) else (if ((rd_T69 x7 x8).f0) = 5 then (ferruleref15_Plain.j3 k x3 x4 x5 x6 x7 x8 true x104000 x104001 x104002 x104003 x104004 x104005) else (if ((rd_T69 x7 x8).f0) = 6 then (ferruleref15_Plain.j3 k x3 x4 x5 x6 x7 x8 true x104000 x104001 x104002 x104003 x104004 x104005) else (ferruleref15_Plain.j3 k x3 x4 x5 x6 x7 x8 (((rd_T69 x7 x8).f0) == 9) x104000 x104001 x104002 x104003 x104004 x104005))))) else (none)) else (ferruleref15_Plain.l1 k x3 x4 x5 (wrap64 (x6 + 1)) x104000 x104001 x104002 x104003 x104004 x104005)
def ferruleref15_Plain.j3 : Nat → List Bool → Int → Bool → Int → List (S69) → Int → Bool → ByteArray → List Int → Int → Int → Bool → List (S61) → Option (List Bool)
  | 0, _, _, _, _, _, _, _, _, _, _, _, _, _ => none
  | k + 1, x3, x4, x5, x6, x7, x8, x9, x104000, x104001, x104002, x104003, x104004, x104005 => if x9 = true then (if 0 ≤ x8 then (if x8 < (x7.length : Int) then ((ferruleref15_made.f ((rd_T69 x7 x8).f4.f0) ((rd_T69 x7 x8).f4.f1) x4).bind fun t115 => (if t115 = true then (ferruleref15_Plain.l2 k x3 x4 false x6 x7 (wrap64 (x8 + 1)) x104000 x104001 x104002 x104003 x104004 x104005) else (if ((rd_T69 x7 x8).f0) = 5 then ((ferruleref15_made.f ((rd_T69 x7 x8).f5.f0) ((rd_T69 x7 x8).f5.f1) x4).bind fun t118 => (if t118 = true then (ferruleref15_Plain.l2 k x3 x4 false x6 x7 (wrap64 (x8 + 1)) x104000 x104001 x104002 x104003 x104004 x104005) else (ferruleref15_Plain.l2 k x3 x4 x5 x6 x7 (wrap64 (x8 + 1)) x104000 x104001 x104002 x104003 x104004 x104005))) else (ferruleref15_Plain.l2 k x3 x4 x5 x6 x7 (wrap64 (x8 + 1)) x104000 x104001 x104002 x104003 x104004 x104005)))) else (none)) else (none)) else (if 0 ≤ x8 then (if x8 < (x7.length : Int) then (if ((rd_T69 x7 x8).f0) = 5 then ((ferruleref15_made.f ((rd_T69 x7 x8).f5.f0) ((rd_T69 x7 x8).f5.f1) x4).bind fun t121 => (if t121 = true then (ferruleref15_Plain.l2 k x3 x4 false x6 x7 (wrap64 (x8 + 1)) x104000 x104001 x104002 x104003 x104004 x104005) else (ferruleref15_Plain.l2 k x3 x4 x5 x6 x7 (wrap64 (x8 + 1)) x104000 x104001 x104002 x104003 x104004 x104005))) else (ferruleref15_Plain.l2 k x3 x4 x5 x6 x7 (wrap64 (x8 + 1)) x104000 x104001 x104002 x104003 x104004 x104005)) else (none)) else (none))
end
def ferruleref15_Plain.f (k : Nat) (a0_0 : ByteArray) (l0_1 : List Int) (a0_2 : Int) (a0_3 : Int) (a0_4 : Bool) (l0_5 : List (S61)) : Option (List Bool) := ferruleref15_Plain.l0 k ([] : List Bool) 0 a0_0 l0_1 a0_2 a0_3 a0_4 l0_5
theorem ferruleref15_Plain.mono_l : ∀ k, (∀ y0 y1 y2 y3 y4 y5 y6 y7, LeO (ferruleref15_Plain.l0 k y0 y1 y2 y3 y4 y5 y6 y7) (ferruleref15_Plain.l0 (k + 1) y0 y1 y2 y3 y4 y5 y6 y7)) ∧ (∀ y0 y1 y2 y3 y4 y5 y6 y7 y8 y9, LeO (ferruleref15_Plain.l1 k y0 y1 y2 y3 y4 y5 y6 y7 y8 y9) (ferruleref15_Plain.l1 (k + 1) y0 y1 y2 y3 y4 y5 y6 y7 y8 y9)) ∧ (∀ y0 y1 y2 y3 y4 y5 y6 y7 y8 y9 y10 y11, LeO (ferruleref15_Plain.l2 k y0 y1 y2 y3 y4 y5 y6 y7 y8 y9 y10 y11) (ferruleref15_Plain.l2 (k + 1) y0 y1 y2 y3 y4 y5 y6 y7 y8 y9 y10 y11)) ∧ (∀ y0 y1 y2 y3 y4 y5 y6 y7 y8 y9 y10 y11 y12, LeO (ferruleref15_Plain.j3 k y0 y1 y2 y3 y4 y5 y6 y7 y8 y9 y10 y11 y12) (ferruleref15_Plain.j3 (k + 1) y0 y1 y2 y3 y4 y5 y6 y7 y8 y9 y10 y11 y12))
  | 0 => ⟨fun _ _ _ _ _ _ _ _ r h => by simp [ferruleref15_Plain.l0] at h, fun _ _ _ _ _ _ _ _ _ _ r h => by simp [ferruleref15_Plain.l1] at h, fun _ _ _ _ _ _ _ _ _ _ _ _ r h => by simp [ferruleref15_Plain.l2] at h, fun _ _ _ _ _ _ _ _ _ _ _ _ _ r h => by simp [ferruleref15_Plain.j3] at h⟩
  | k + 1 => by
    obtain ⟨ih0, ih1, ih2, ih3⟩ := ferruleref15_Plain.mono_l k
    refine ⟨?_, ?_, ?_, ?_⟩
    · intro y0 y1 y2 y3 y4 y5 y6 y7
      unfold ferruleref15_Plain.l0
      repeat' first
      | (with_reducible exact ih0 _ _ _ _ _ _ _ _)
      | (with_reducible exact ih1 _ _ _ _ _ _ _ _ _ _)
      | (with_reducible exact ih2 _ _ _ _ _ _ _ _ _ _ _ _)
      | (with_reducible exact ih3 _ _ _ _ _ _ _ _ _ _ _ _ _)
      | (with_reducible exact LeO.refl _)
      | (with_reducible exact LeO.none _)
      | (with_reducible refine LeO.ite ?_ ?_)
      | (with_reducible refine LeO.bind ?_ (fun _ => ?_))
      | exact ih0 _ _ _ _ _ _ _ _
      | exact ih1 _ _ _ _ _ _ _ _ _ _
      | exact ih2 _ _ _ _ _ _ _ _ _ _ _ _
      | exact ih3 _ _ _ _ _ _ _ _ _ _ _ _ _
      | exact LeO.none _
      | refine LeO.ite ?_ ?_
      | refine LeO.bind ?_ (fun _ => ?_)
    · intro y0 y1 y2 y3 y4 y5 y6 y7 y8 y9
      unfold ferruleref15_Plain.l1
      repeat' first
      | (with_reducible exact ih0 _ _ _ _ _ _ _ _)
      | (with_reducible exact ih1 _ _ _ _ _ _ _ _ _ _)
      | (with_reducible exact ih2 _ _ _ _ _ _ _ _ _ _ _ _)
      | (with_reducible exact ih3 _ _ _ _ _ _ _ _ _ _ _ _ _)
      | (with_reducible exact LeO.refl _)
      | (with_reducible exact LeO.none _)
      | (with_reducible refine LeO.ite ?_ ?_)
      | (with_reducible refine LeO.bind ?_ (fun _ => ?_))
      | exact ih0 _ _ _ _ _ _ _ _
      | exact ih1 _ _ _ _ _ _ _ _ _ _
      | exact ih2 _ _ _ _ _ _ _ _ _ _ _ _
      | exact ih3 _ _ _ _ _ _ _ _ _ _ _ _ _
      | exact LeO.none _
      | refine LeO.ite ?_ ?_
      | refine LeO.bind ?_ (fun _ => ?_)
    · intro y0 y1 y2 y3 y4 y5 y6 y7 y8 y9 y10 y11
      unfold ferruleref15_Plain.l2
      repeat' first
      | (with_reducible exact ih0 _ _ _ _ _ _ _ _)
      | (with_reducible exact ih1 _ _ _ _ _ _ _ _ _ _)
      | (with_reducible exact ih2 _ _ _ _ _ _ _ _ _ _ _ _)
      | (with_reducible exact ih3 _ _ _ _ _ _ _ _ _ _ _ _ _)
      | (with_reducible exact LeO.refl _)
      | (with_reducible exact LeO.none _)
      | (with_reducible refine LeO.ite ?_ ?_)
      | (with_reducible refine LeO.bind ?_ (fun _ => ?_))
      | exact ih0 _ _ _ _ _ _ _ _
      | exact ih1 _ _ _ _ _ _ _ _ _ _
      | exact ih2 _ _ _ _ _ _ _ _ _ _ _ _
      | exact ih3 _ _ _ _ _ _ _ _ _ _ _ _ _
      | exact LeO.none _
      | refine LeO.ite ?_ ?_
      | refine LeO.bind ?_ (fun _ => ?_)
    · intro y0 y1 y2 y3 y4 y5 y6 y7 y8 y9 y10 y11 y12
      unfold ferruleref15_Plain.j3
      repeat' first
      | (with_reducible exact ih0 _ _ _ _ _ _ _ _)
      | (with_reducible exact ih1 _ _ _ _ _ _ _ _ _ _)
      | (with_reducible exact ih2 _ _ _ _ _ _ _ _ _ _ _ _)
      | (with_reducible exact ih3 _ _ _ _ _ _ _ _ _ _ _ _ _)
      | (with_reducible exact LeO.refl _)
      | (with_reducible exact LeO.none _)
      | (with_reducible refine LeO.ite ?_ ?_)
      | (with_reducible refine LeO.bind ?_ (fun _ => ?_))
      | exact ih0 _ _ _ _ _ _ _ _
      | exact ih1 _ _ _ _ _ _ _ _ _ _
      | exact ih2 _ _ _ _ _ _ _ _ _ _ _ _
      | exact ih3 _ _ _ _ _ _ _ _ _ _ _ _ _
      | exact LeO.none _
      | refine LeO.ite ?_ ?_
      | refine LeO.bind ?_ (fun _ => ?_)
theorem ferruleref15_Plain.mono : ∀ a0 a1 a2 a3 a4 a5 k, LeO (ferruleref15_Plain.f k a0 a1 a2 a3 a4 a5) (ferruleref15_Plain.f (k + 1) a0 a1 a2 a3 a4 a5) := by
  intro a0 a1 a2 a3 a4 a5 k
  obtain ⟨ih0, ih1, ih2, ih3⟩ := ferruleref15_Plain.mono_l k
  unfold ferruleref15_Plain.f
  repeat' first
      | (with_reducible exact ih0 _ _ _ _ _ _ _ _)
      | (with_reducible exact ih1 _ _ _ _ _ _ _ _ _ _)
      | (with_reducible exact ih2 _ _ _ _ _ _ _ _ _ _ _ _)
      | (with_reducible exact ih3 _ _ _ _ _ _ _ _ _ _ _ _ _)
      | (with_reducible exact LeO.refl _)
      | (with_reducible exact LeO.none _)
      | (with_reducible refine LeO.ite ?_ ?_)
      | (with_reducible refine LeO.bind ?_ (fun _ => ?_))
      | exact ih0 _ _ _ _ _ _ _ _
      | exact ih1 _ _ _ _ _ _ _ _ _ _
      | exact ih2 _ _ _ _ _ _ _ _ _ _ _ _
      | exact ih3 _ _ _ _ _ _ _ _ _ _ _ _ _
      | exact LeO.none _
      | refine LeO.ite ?_ ?_
      | refine LeO.bind ?_ (fun _ => ?_)
set_option maxHeartbeats 8000000 in
set_option maxRecDepth 100000 in
theorem ferruleref15_Plain.calls (k : Nat) (a0_0 : ByteArray) (A0_1 : Option Addr) (c0_1 : Nat) (l0_1 : List Int) (a0_2 : Int) (a0_3 : Int) (a0_4 : Bool) (A0_5 : Option Addr) (c0_5 : Nat) (l0_5 : List (S61)) (r : List Bool) (w : World) (hr0_1 : Kd.C (Kd.int .i64) w A0_1 l0_1.length l0_1) (hc0_1 : l0_1.length ≤ c0_1) (hr0_5 : Kd.C k61 w A0_5 l0_5.length l0_5) (hc0_5 : l0_5.length ≤ c0_5) (h : ferruleref15_Plain.f k a0_0 l0_1 a0_2 a0_3 a0_4 l0_5 = some r) :
    Calls Try.prog 12 #[.agg #[.string a0_0, .slice A0_1 l0_1.length c0_1, .int .i64 a0_2, .int .i64 a0_3, .bool a0_4, .slice A0_5 l0_5.length c0_5]] w fun e w' => ∃ v0_ : Value, e = .returned (v0_) ∧ Kd.R Kd.bool 4 w' w.heap.size (fun _ => True) v0_ r ∧ Below w.heap.size w w' := by
  have hu40 := Try.underlying40
  have hu67 := Try.underlying67
  have HR0_1 := Aside0.mk hr0_1
  have HC0_1 := Aside0.mk hc0_1
  clear hr0_1 hc0_1
  have HR0_5 := Aside0.mk hr0_5
  have HC0_5 := Aside0.mk hc0_5
  clear hr0_5 hc0_5
  have HB := Aside0.mk (Below.refl w.heap.size w)
  have H : (ferruleref15_Plain.l0 k ([] : List Bool) 0 a0_0 l0_1 a0_2 a0_3 a0_4 l0_5) = some r := h
  clear h
  have H' := Aside0.mk H
  clear H
  go_enter Try.func12, Try.ntmps12
  go_wp2_with (first | ((with_reducible refine gate_dst (N := 1) rfl ?_); refine box_event ?hg (N := 1) ?hd (cs := #[.string a0_0, .slice A0_1 l0_1.length c0_1, .int .i64 a0_2, .int .i64 a0_3, .bool a0_4, .slice A0_5 l0_5.length c0_5]) (t := 40) ?hr ?_; (case hd => rfl); (case hg => rfl); (case hr => first | (go_simp; done) | (go_simp; rfl)); intro gb103 hg w2 hbox hb; have n0_ := Aside0.mk (below_step (by repeat (first | (with_reducible first | exact HB.out | apply below_alloc | apply pw_below_drewN | apply below_drew1) | exact HB.out)) hb); have n1_ := Aside0.mk (hbox); have n2_ := Aside0.mk ((by rw [hg]; exact (below_size (by repeat (first | (with_reducible first | exact HB.out | apply below_alloc | apply pw_below_drewN | apply below_drew1) | exact HB.out))) : w.heap.size ≤ gb103)); have n3_ := Aside0.mk ((by rw [hg]; exact (below_size (by repeat (first | (with_reducible first | exact HB.out | apply below_alloc | apply pw_below_drewN | apply below_drew1) | exact HB.out))) : w.heap.size ≤ gb103)); clear HB; have HB := n0_; have BK103 := n1_; have GW103 := n2_; have GE103 := n3_; clear n0_ n1_ n2_ n3_; clear hb hbox hg))
  go_loopg [3, 4] k (fun kq v3 v4 w' => ∃ (x3_1 : List Bool) (x4_1 : Int), v4 = .int .i64 x4_1 ∧ Aside0 (ferruleref15_Plain.l0 kq x3_1 x4_1 a0_0 l0_1 a0_2 a0_3 a0_4 l0_5 = some r) ∧ Aside0 (kq ≤ k) ∧ Aside0 (Kd.R Kd.bool 4 w' w.heap.size (fun _ => True) v3 x3_1) ∧ Aside0 (w'.heap[gb103]? = some (.cells #[.string a0_0, (.slice A0_1 l0_1.length c0_1), .int .i64 a0_2, .int .i64 a0_3, .bool a0_4, (.slice A0_5 l0_5.length c0_5)] 40 (0, 0))) ∧ Aside0 (Below w.heap.size w w'))
  case atStart => exact ⟨(([] : List Bool)), (0), (by first | rfl | (simp; done) | (simp [*]; done)), H', ⟨Nat.le_refl _⟩, ⟨by first | exact Kd.R_nil _ _ _ _ _ | exact Kd.N_nil _ _ _ _ _ | exact Kd.V_nil _ _ _ _ _ | exact Kd.Q_nil _ _ _ _ _ | exact Kd.S_nil _ _ _ _ _⟩, ⟨by (with_reducible repeat (first | refine blk_drewN ?_ _ | refine blk_drew ?_ | refine blk_alloc ?_ _)); exact BK103.out⟩, ⟨by repeat (first | (with_reducible first | exact HB.out | apply below_alloc | apply pw_below_drewN | apply below_drew1 | refine below_set ?_ GE103.out) | exact HB.out)⟩⟩
  case round =>
    clear H'
    try clear c1
    try clear p2
    obtain ⟨x3_1, x4_1, rfl, HA, HK1, HO_3, BK103, HB⟩ := hrel
    cases gk with
    | zero => exact absurd HA.out (by simp [ferruleref15_Plain.l0])
    | succ k1 =>
      have H := HA.out
      clear HA
      simp only [ferruleref15_Plain.l0] at H
      by_cases c3 : x4_1 < (l0_1.length : Int)
      · rw [if_pos c3] at H
        have c3b0 : decide (x4_1 < (l0_1.length : Int)) = true := decide_eq_true c3
        clear c3
        by_cases c4 : 0 ≤ x4_1
        · rw [if_pos c4] at H
          have c4b0 : decide (0 ≤ x4_1) = true := decide_eq_true c4
          clear c4
          have H' := Aside0.mk H
          clear H
          have hcz5_0 : wr.cell? ⟨gb103, 0, none⟩ = some (.string a0_0) := (blk_cell BK103.out 0).trans rfl
          have hcz5_1 : wr.cell? ⟨gb103, 1, none⟩ = some (.slice A0_1 l0_1.length c0_1) := (blk_cell BK103.out 1).trans rfl
          have hcz5_2 : wr.cell? ⟨gb103, 2, none⟩ = some (.int .i64 a0_2) := (blk_cell BK103.out 2).trans rfl
          have hcz5_3 : wr.cell? ⟨gb103, 3, none⟩ = some (.int .i64 a0_3) := (blk_cell BK103.out 3).trans rfl
          have hcz5_4 : wr.cell? ⟨gb103, 4, none⟩ = some (.bool a0_4) := (blk_cell BK103.out 4).trans rfl
          have hcz5_5 : wr.cell? ⟨gb103, 5, none⟩ = some (.slice A0_5 l0_5.length c0_5) := (blk_cell BK103.out 5).trans rfl
          have hfz5_0 := blk_frozen BK103.out 0
          have hfz5_1 := blk_frozen BK103.out 1
          have hfz5_2 := blk_frozen BK103.out 2
          have hfz5_3 := blk_frozen BK103.out 3
          have hfz5_4 := blk_frozen BK103.out 4
          have hfz5_5 := blk_frozen BK103.out 5
          have p104 : 0 ≤ (x4_1 : Int) := of_decide_eq_true (by first | (with_reducible assumption) | assumption)
          have q104 : x4_1 < (l0_1.length : Int) := of_decide_eq_true (by first | (with_reducible assumption) | assumption)
          obtain ⟨ad104, e104, hx104_0⟩ := Kd.at_int HR0_1.out x4_1 p104 q104
          cases e104
          replace hx104_0 := (HB.out.cell (World.block_lt_of_cell? w _ hx104_0)).trans hx104_0
          replace p104 := eq_true p104
          replace q104 := eq_true q104
          go_wp2
          go_loopg [5, 6] k1 (fun kq v5 v6 w' => ∃ (x5_2 : Bool) (x6_2 : Int), v5 = .bool x5_2 ∧ v6 = .int .i64 x6_2 ∧ Aside0 (ferruleref15_Plain.l1 kq x3_1 x4_1 x5_2 x6_2 a0_0 l0_1 a0_2 a0_3 a0_4 l0_5 = some r) ∧ Aside0 (kq ≤ k1) ∧ Aside0 (Kd.R Kd.bool 4 w' w.heap.size (fun _ => True) u3 x3_1) ∧ Aside0 (w'.heap[gb103]? = some (.cells #[.string a0_0, (.slice (some ad104) l0_1.length c0_1), .int .i64 a0_2, .int .i64 a0_3, .bool a0_4, (.slice A0_5 l0_5.length c0_5)] 40 (0, 0))) ∧ Aside0 (Below w.heap.size w w'))
          case atStart => exact ⟨(((rd l0_1 x4_1) == 1)), (0), (by first | rfl | (simp; done) | (simp [*]; done)), (by first | rfl | (simp; done) | (simp [*]; done)), H', ⟨Nat.le_refl _⟩, ⟨by (with_reducible repeat (first | apply Kd.R_alloc | apply Kd.R_drewN | apply Kd.R_drew)); exact HO_3.out⟩, ⟨by (with_reducible repeat (first | refine blk_drewN ?_ _ | refine blk_drew ?_ | refine blk_alloc ?_ _)); exact BK103.out⟩, ⟨by repeat (first | (with_reducible first | exact HB.out | apply below_alloc | apply pw_below_drewN | apply below_drew1 | refine below_set ?_ GE103.out) | exact HB.out)⟩⟩
          case round =>
            clear H'
            try clear c1
            try clear p1
            try clear q1
            try clear hx1
            try clear p2
            try clear c3
            try clear c3b0
            try clear c4
            try clear c4b0
            try clear hcz5_0
            try clear hcz5_1
            try clear hcz5_2
            try clear hcz5_3
            try clear hcz5_4
            try clear hcz5_5
            try clear hfz5_0
            try clear hfz5_1
            try clear hfz5_2
            try clear hfz5_3
            try clear hfz5_4
            try clear hfz5_5
            try clear hx104_0
            try clear p104
            try clear p2
            try clear q104
            obtain ⟨x5_2, x6_2, rfl, rfl, HA, HK2, HO_3, BK103, HB⟩ := hrel
            cases gk with
            | zero => exact absurd HA.out (by simp [ferruleref15_Plain.l1])
            | succ k2 =>
              have H := HA.out
              clear HA
              simp only [ferruleref15_Plain.l1] at H
              by_cases c6 : x6_2 < (l0_5.length : Int)
              · rw [if_pos c6] at H
                have c6b0 : decide (x6_2 < (l0_5.length : Int)) = true := decide_eq_true c6
                clear c6
                by_cases c7 : 0 ≤ x6_2
                · rw [if_pos c7] at H
                  have c7b0 : decide (0 ≤ x6_2) = true := decide_eq_true c7
                  clear c7
                  have H' := Aside0.mk H
                  clear H
                  have hcz8_0 : wr.cell? ⟨gb103, 0, none⟩ = some (.string a0_0) := (blk_cell BK103.out 0).trans rfl
                  have hcz8_1 : wr.cell? ⟨gb103, 1, none⟩ = some (.slice (some ad104) l0_1.length c0_1) := (blk_cell BK103.out 1).trans rfl
                  have hcz8_2 : wr.cell? ⟨gb103, 2, none⟩ = some (.int .i64 a0_2) := (blk_cell BK103.out 2).trans rfl
                  have hcz8_3 : wr.cell? ⟨gb103, 3, none⟩ = some (.int .i64 a0_3) := (blk_cell BK103.out 3).trans rfl
                  have hcz8_4 : wr.cell? ⟨gb103, 4, none⟩ = some (.bool a0_4) := (blk_cell BK103.out 4).trans rfl
                  have hcz8_5 : wr.cell? ⟨gb103, 5, none⟩ = some (.slice A0_5 l0_5.length c0_5) := (blk_cell BK103.out 5).trans rfl
                  have hfz8_0 := blk_frozen BK103.out 0
                  have hfz8_1 := blk_frozen BK103.out 1
                  have hfz8_2 := blk_frozen BK103.out 2
                  have hfz8_3 := blk_frozen BK103.out 3
                  have hfz8_4 := blk_frozen BK103.out 4
                  have hfz8_5 := blk_frozen BK103.out 5
                  have p108 : 0 ≤ (x6_2 : Int) := of_decide_eq_true (by first | (with_reducible assumption) | assumption)
                  have q108 : x6_2 < (l0_5.length : Int) := of_decide_eq_true (by first | (with_reducible assumption) | assumption)
                  obtain ⟨ad108, A108_0, c108_0, A108_6, c108_6, e108, hx108_0, hx108_1, hx108_2, hx108_3, hx108_4, hx108_5, hx108_6, hl108_0, hi108_0, hl108_6, hi108_6⟩ := at_T61 HR0_5.out x6_2 p108 q108
                  cases e108
                  replace hx108_0 := (HB.out.cell (World.block_lt_of_cell? w _ hx108_0)).trans hx108_0
                  replace hx108_1 := (HB.out.cell (World.block_lt_of_cell? w _ hx108_1)).trans hx108_1
                  replace hx108_2 := (HB.out.cell (World.block_lt_of_cell? w _ hx108_2)).trans hx108_2
                  replace hx108_3 := (HB.out.cell (World.block_lt_of_cell? w _ hx108_3)).trans hx108_3
                  replace hx108_4 := (HB.out.cell (World.block_lt_of_cell? w _ hx108_4)).trans hx108_4
                  replace hx108_5 := (HB.out.cell (World.block_lt_of_cell? w _ hx108_5)).trans hx108_5
                  replace hx108_6 := (HB.out.cell (World.block_lt_of_cell? w _ hx108_6)).trans hx108_6
                  have HR108_0 := Aside0.mk hi108_0
                  have HC108_0 := Aside0.mk hl108_0
                  clear hi108_0 hl108_0
                  have HR108_6 := Aside0.mk hi108_6
                  have HC108_6 := Aside0.mk hl108_6
                  clear hi108_6 hl108_6
                  replace p108 := eq_true p108
                  replace q108 := eq_true q108
                  go_wp2
                  go_loopg [5, 8] k2 (fun kq v5 v8 w' => ∃ (x5_3 : Bool) (x8_3 : Int), v5 = .bool x5_3 ∧ v8 = .int .i64 x8_3 ∧ Aside0 (ferruleref15_Plain.l2 kq x3_1 x4_1 x5_3 x6_2 ((rd_T61 l0_5 x6_2).f0) x8_3 a0_0 l0_1 a0_2 a0_3 a0_4 l0_5 = some r) ∧ Aside0 (kq ≤ k2) ∧ Aside0 (Kd.R Kd.bool 4 w' w.heap.size (fun _ => True) u3 x3_1) ∧ Aside0 (w'.heap[gb103]? = some (.cells #[.string a0_0, (.slice (some ad104) l0_1.length c0_1), .int .i64 a0_2, .int .i64 a0_3, .bool a0_4, (.slice (some ad108) l0_5.length c0_5)] 40 (0, 0))) ∧ Aside0 (Below w.heap.size w w'))
                  case atStart => exact ⟨(x5_2), (0), (by first | rfl | (simp; done) | (simp [*]; done)), (by first | rfl | (simp; done) | (simp [*]; done)), H', ⟨Nat.le_refl _⟩, ⟨by (with_reducible repeat (first | apply Kd.R_alloc | apply Kd.R_drewN | apply Kd.R_drew)); exact HO_3.out⟩, ⟨by (with_reducible repeat (first | refine blk_drewN ?_ _ | refine blk_drew ?_ | refine blk_alloc ?_ _)); exact BK103.out⟩, ⟨by repeat (first | (with_reducible first | exact HB.out | apply below_alloc | apply pw_below_drewN | apply below_drew1 | refine below_set ?_ GE103.out) | exact HB.out)⟩⟩
                  case round =>
                    clear H'
                    try clear c1
                    try clear p1
                    try clear q1
                    try clear hx1
                    try clear p2
                    try clear c3
                    try clear c3b0
                    try clear c4
                    try clear c4b0
                    try clear c6
                    try clear c6b0
                    try clear c7
                    try clear c7b0
                    try clear hcz5_0
                    try clear hcz5_1
                    try clear hcz5_2
                    try clear hcz5_3
                    try clear hcz5_4
                    try clear hcz5_5
                    try clear hcz8_0
                    try clear hcz8_1
                    try clear hcz8_2
                    try clear hcz8_3
                    try clear hcz8_4
                    try clear hcz8_5
                    try clear hfz5_0
                    try clear hfz5_1
                    try clear hfz5_2
                    try clear hfz5_3
                    try clear hfz5_4
                    try clear hfz5_5
                    try clear hfz8_0
                    try clear hfz8_1
                    try clear hfz8_2
                    try clear hfz8_3
                    try clear hfz8_4
                    try clear hfz8_5
                    try clear hx104_0
                    try clear hx108_0
                    try clear hx108_1
                    try clear hx108_2
                    try clear hx108_3
                    try clear hx108_4
                    try clear hx108_5
                    try clear hx108_6
                    try clear p1
                    try clear p104
                    try clear p108
                    try clear p2
                    try clear q1
                    try clear q104
                    try clear q108
                    obtain ⟨x5_3, x8_3, rfl, rfl, HA, HK3, HO_3, BK103, HB⟩ := hrel
                    cases gk with
                    | zero => exact absurd HA.out (by simp [ferruleref15_Plain.l2])
                    | succ k3 =>
                      have H := HA.out
                      clear HA
                      simp only [ferruleref15_Plain.l2] at H
                      by_cases c9 : x8_3 < (((rd_T61 l0_5 x6_2).f0).length : Int)
                      · rw [if_pos c9] at H
                        have c9b0 : decide (x8_3 < (((rd_T61 l0_5 x6_2).f0).length : Int)) = true := decide_eq_true c9
                        clear c9
                        have HC10 := Aside0.mk H
                        clear H
                        go_upto_region 13 with (fail)
                        go_cut [9] (fun v9 wc => ∃ (kq : Nat) (x9_9 : Bool), v9 = .bool x9_9 ∧ Aside0 (ferruleref15_Plain.j3 kq x3_1 x4_1 x5_3 x6_2 ((rd_T61 l0_5 x6_2).f0) x8_3 x9_9 a0_0 l0_1 a0_2 a0_3 a0_4 l0_5 = some r) ∧ Aside0 (kq ≤ k3) ∧ Aside0 (Kd.R Kd.bool 4 wc w.heap.size (fun _ => True) u3 x3_1) ∧ Aside0 (wc.heap[gb103]? = some (.cells #[.string a0_0, (.slice (some ad104) l0_1.length c0_1), .int .i64 a0_2, .int .i64 a0_3, .bool a0_4, (.slice (some ad108) l0_5.length c0_5)] 40 (0, 0))) ∧ Aside0 (Below w.heap.size w wc))
                        case first =>
                          have H := HC10.out
                          clear HC10
                          by_cases c11 : 0 ≤ x8_3
                          · rw [if_pos c11] at H
                            have c11b0 : decide (0 ≤ x8_3) = true := decide_eq_true c11
                            clear c11
                            (first | rw [c11b0] | (simp only [i64_w, i32_w]; rw [c11b0]) | skip)
                            by_cases c12 : ((rd_T69 ((rd_T61 l0_5 x6_2).f0) x8_3).f0) = 3
                            · rw [if_pos c12] at H
                              have c12b0 : (((rd_T69 ((rd_T61 l0_5 x6_2).f0) x8_3).f0) == 3) = true := beq_iff_eq.mpr c12
                              have c12b1 : (((rd_T69 ((rd_T61 l0_5 x6_2).f0) x8_3).f0) != 3) = false := bne_eq_false_iff_eq.mpr c12
                              clear c12
                              have H' := Aside0.mk H
                              clear H
                              have p109 : 0 ≤ (x8_3 : Int) := of_decide_eq_true (by first | (with_reducible assumption) | assumption)
                              have q109 : x8_3 < (((rd_T61 l0_5 x6_2).f0).length : Int) := of_decide_eq_true (by first | (with_reducible assumption) | assumption)
                              obtain ⟨ad109, A109_7, c109_7, A109_9, c109_9, A109_15, c109_15, A109_16, c109_16, A109_17, c109_17, e109, hx109_0, hx109_1, hx109_2, hx109_3, hx109_4, hx109_5, hx109_6, hx109_7, hx109_8, hx109_9, hx109_10, hx109_11, hx109_12, hx109_13, hx109_14, hx109_15, hx109_16, hx109_17, hl109_7, hi109_7, hl109_9, hi109_9, hl109_15, hi109_15, hl109_16, hi109_16, hl109_17, hi109_17⟩ := at_T69 HR108_0.out x8_3 p109 q109
                              cases e109
                              replace hx109_0 := (HB.out.cell (World.block_lt_of_cell? w _ hx109_0)).trans hx109_0
                              replace hx109_1 := (HB.out.cell (World.block_lt_of_cell? w _ hx109_1)).trans hx109_1
                              replace hx109_2 := (HB.out.cell (World.block_lt_of_cell? w _ hx109_2)).trans hx109_2
                              replace hx109_3 := (HB.out.cell (World.block_lt_of_cell? w _ hx109_3)).trans hx109_3
                              replace hx109_4 := (HB.out.cell (World.block_lt_of_cell? w _ hx109_4)).trans hx109_4
                              replace hx109_5 := (HB.out.cell (World.block_lt_of_cell? w _ hx109_5)).trans hx109_5
                              replace hx109_6 := (HB.out.cell (World.block_lt_of_cell? w _ hx109_6)).trans hx109_6
                              replace hx109_7 := (HB.out.cell (World.block_lt_of_cell? w _ hx109_7)).trans hx109_7
                              replace hx109_8 := (HB.out.cell (World.block_lt_of_cell? w _ hx109_8)).trans hx109_8
                              replace hx109_9 := (HB.out.cell (World.block_lt_of_cell? w _ hx109_9)).trans hx109_9
                              replace hx109_10 := (HB.out.cell (World.block_lt_of_cell? w _ hx109_10)).trans hx109_10
                              replace hx109_11 := (HB.out.cell (World.block_lt_of_cell? w _ hx109_11)).trans hx109_11
                              replace hx109_12 := (HB.out.cell (World.block_lt_of_cell? w _ hx109_12)).trans hx109_12
                              replace hx109_13 := (HB.out.cell (World.block_lt_of_cell? w _ hx109_13)).trans hx109_13
                              replace hx109_14 := (HB.out.cell (World.block_lt_of_cell? w _ hx109_14)).trans hx109_14
                              replace hx109_15 := (HB.out.cell (World.block_lt_of_cell? w _ hx109_15)).trans hx109_15
                              replace hx109_16 := (HB.out.cell (World.block_lt_of_cell? w _ hx109_16)).trans hx109_16
                              replace hx109_17 := (HB.out.cell (World.block_lt_of_cell? w _ hx109_17)).trans hx109_17
                              have HR109_7 := Aside0.mk hi109_7
                              have HC109_7 := Aside0.mk hl109_7
                              clear hi109_7 hl109_7
                              have HR109_9 := Aside0.mk hi109_9
                              have HC109_9 := Aside0.mk hl109_9
                              clear hi109_9 hl109_9
                              have HR109_15 := Aside0.mk hi109_15
                              have HC109_15 := Aside0.mk hl109_15
                              clear hi109_15 hl109_15
                              have HR109_16 := Aside0.mk hi109_16
                              have HC109_16 := Aside0.mk hl109_16
                              clear hi109_16 hl109_16
                              have HR109_17 := Aside0.mk hi109_17
                              have HC109_17 := Aside0.mk hl109_17
                              clear hi109_17 hl109_17
                              replace p109 := eq_true p109
                              replace q109 := eq_true q109
                              go_wp2
                              go_meet
                              case rel => exact ⟨_, (true), (by first | rfl | (simp; done) | (simp [*]; done)), H', ⟨by have := HK1.out; have := HK2.out; have := HK3.out; first | omega | exact Nat.le_refl _⟩, ⟨by (with_reducible repeat (first | apply Kd.R_alloc | apply Kd.R_drewN | apply Kd.R_drew)); exact HO_3.out⟩, ⟨by (with_reducible repeat (first | refine blk_drewN ?_ _ | refine blk_drew ?_ | refine blk_alloc ?_ _)); exact BK103.out⟩, ⟨by repeat (first | (with_reducible first | exact HB.out | apply below_alloc | apply pw_below_drewN | apply below_drew1 | refine below_set ?_ GE103.out) | exact HB.out)⟩⟩
                            · rw [if_neg c12] at H
                              have c12b0 : (((rd_T69 ((rd_T61 l0_5 x6_2).f0) x8_3).f0) == 3) = false := beq_eq_false_iff_ne.mpr c12
                              have c12b1 : (((rd_T69 ((rd_T61 l0_5 x6_2).f0) x8_3).f0) != 3) = true := bne_iff_ne.mpr c12
                              by_cases c13 : ((rd_T69 ((rd_T61 l0_5 x6_2).f0) x8_3).f0) = 4
                              · rw [if_pos c13] at H
                                have c13b0 : (((rd_T69 ((rd_T61 l0_5 x6_2).f0) x8_3).f0) == 4) = true := beq_iff_eq.mpr c13
                                have c13b1 : (((rd_T69 ((rd_T61 l0_5 x6_2).f0) x8_3).f0) != 4) = false := bne_eq_false_iff_eq.mpr c13
                                clear c13
                                have H' := Aside0.mk H
                                clear H
                                have p109 : 0 ≤ (x8_3 : Int) := of_decide_eq_true (by first | (with_reducible assumption) | assumption)
                                have q109 : x8_3 < (((rd_T61 l0_5 x6_2).f0).length : Int) := of_decide_eq_true (by first | (with_reducible assumption) | assumption)
                                obtain ⟨ad109, A109_7, c109_7, A109_9, c109_9, A109_15, c109_15, A109_16, c109_16, A109_17, c109_17, e109, hx109_0, hx109_1, hx109_2, hx109_3, hx109_4, hx109_5, hx109_6, hx109_7, hx109_8, hx109_9, hx109_10, hx109_11, hx109_12, hx109_13, hx109_14, hx109_15, hx109_16, hx109_17, hl109_7, hi109_7, hl109_9, hi109_9, hl109_15, hi109_15, hl109_16, hi109_16, hl109_17, hi109_17⟩ := at_T69 HR108_0.out x8_3 p109 q109
                                cases e109
                                replace hx109_0 := (HB.out.cell (World.block_lt_of_cell? w _ hx109_0)).trans hx109_0
                                replace hx109_1 := (HB.out.cell (World.block_lt_of_cell? w _ hx109_1)).trans hx109_1
                                replace hx109_2 := (HB.out.cell (World.block_lt_of_cell? w _ hx109_2)).trans hx109_2
                                replace hx109_3 := (HB.out.cell (World.block_lt_of_cell? w _ hx109_3)).trans hx109_3
                                replace hx109_4 := (HB.out.cell (World.block_lt_of_cell? w _ hx109_4)).trans hx109_4
                                replace hx109_5 := (HB.out.cell (World.block_lt_of_cell? w _ hx109_5)).trans hx109_5
                                replace hx109_6 := (HB.out.cell (World.block_lt_of_cell? w _ hx109_6)).trans hx109_6
                                replace hx109_7 := (HB.out.cell (World.block_lt_of_cell? w _ hx109_7)).trans hx109_7
                                replace hx109_8 := (HB.out.cell (World.block_lt_of_cell? w _ hx109_8)).trans hx109_8
                                replace hx109_9 := (HB.out.cell (World.block_lt_of_cell? w _ hx109_9)).trans hx109_9
                                replace hx109_10 := (HB.out.cell (World.block_lt_of_cell? w _ hx109_10)).trans hx109_10
                                replace hx109_11 := (HB.out.cell (World.block_lt_of_cell? w _ hx109_11)).trans hx109_11
                                replace hx109_12 := (HB.out.cell (World.block_lt_of_cell? w _ hx109_12)).trans hx109_12
                                replace hx109_13 := (HB.out.cell (World.block_lt_of_cell? w _ hx109_13)).trans hx109_13
                                replace hx109_14 := (HB.out.cell (World.block_lt_of_cell? w _ hx109_14)).trans hx109_14
                                replace hx109_15 := (HB.out.cell (World.block_lt_of_cell? w _ hx109_15)).trans hx109_15
                                replace hx109_16 := (HB.out.cell (World.block_lt_of_cell? w _ hx109_16)).trans hx109_16
                                replace hx109_17 := (HB.out.cell (World.block_lt_of_cell? w _ hx109_17)).trans hx109_17
                                have HR109_7 := Aside0.mk hi109_7
                                have HC109_7 := Aside0.mk hl109_7
                                clear hi109_7 hl109_7
                                have HR109_9 := Aside0.mk hi109_9
                                have HC109_9 := Aside0.mk hl109_9
                                clear hi109_9 hl109_9
                                have HR109_15 := Aside0.mk hi109_15
                                have HC109_15 := Aside0.mk hl109_15
                                clear hi109_15 hl109_15
                                have HR109_16 := Aside0.mk hi109_16
                                have HC109_16 := Aside0.mk hl109_16
                                clear hi109_16 hl109_16
                                have HR109_17 := Aside0.mk hi109_17
                                have HC109_17 := Aside0.mk hl109_17
                                clear hi109_17 hl109_17
                                replace p109 := eq_true p109
                                replace q109 := eq_true q109
                                have p110 : 0 ≤ (x8_3 : Int) := of_decide_eq_true (by first | (with_reducible assumption) | assumption)
                                have q110 : x8_3 < (((rd_T61 l0_5 x6_2).f0).length : Int) := of_decide_eq_true (by first | (with_reducible assumption) | assumption)
                                obtain ⟨ad110, A110_7, c110_7, A110_9, c110_9, A110_15, c110_15, A110_16, c110_16, A110_17, c110_17, e110, hx110_0, hx110_1, hx110_2, hx110_3, hx110_4, hx110_5, hx110_6, hx110_7, hx110_8, hx110_9, hx110_10, hx110_11, hx110_12, hx110_13, hx110_14, hx110_15, hx110_16, hx110_17, hl110_7, hi110_7, hl110_9, hi110_9, hl110_15, hi110_15, hl110_16, hi110_16, hl110_17, hi110_17⟩ := at_T69 HR108_0.out x8_3 p110 q110
                                obtain rfl : ad109 = ad110 := (by injection e110)
                                replace hx110_0 := (HB.out.cell (World.block_lt_of_cell? w _ hx110_0)).trans hx110_0
                                replace hx110_1 := (HB.out.cell (World.block_lt_of_cell? w _ hx110_1)).trans hx110_1
                                replace hx110_2 := (HB.out.cell (World.block_lt_of_cell? w _ hx110_2)).trans hx110_2
                                replace hx110_3 := (HB.out.cell (World.block_lt_of_cell? w _ hx110_3)).trans hx110_3
                                replace hx110_4 := (HB.out.cell (World.block_lt_of_cell? w _ hx110_4)).trans hx110_4
                                replace hx110_5 := (HB.out.cell (World.block_lt_of_cell? w _ hx110_5)).trans hx110_5
                                replace hx110_6 := (HB.out.cell (World.block_lt_of_cell? w _ hx110_6)).trans hx110_6
                                replace hx110_7 := (HB.out.cell (World.block_lt_of_cell? w _ hx110_7)).trans hx110_7
                                replace hx110_8 := (HB.out.cell (World.block_lt_of_cell? w _ hx110_8)).trans hx110_8
                                replace hx110_9 := (HB.out.cell (World.block_lt_of_cell? w _ hx110_9)).trans hx110_9
                                replace hx110_10 := (HB.out.cell (World.block_lt_of_cell? w _ hx110_10)).trans hx110_10
                                replace hx110_11 := (HB.out.cell (World.block_lt_of_cell? w _ hx110_11)).trans hx110_11
                                replace hx110_12 := (HB.out.cell (World.block_lt_of_cell? w _ hx110_12)).trans hx110_12
                                replace hx110_13 := (HB.out.cell (World.block_lt_of_cell? w _ hx110_13)).trans hx110_13
                                replace hx110_14 := (HB.out.cell (World.block_lt_of_cell? w _ hx110_14)).trans hx110_14
                                replace hx110_15 := (HB.out.cell (World.block_lt_of_cell? w _ hx110_15)).trans hx110_15
                                replace hx110_16 := (HB.out.cell (World.block_lt_of_cell? w _ hx110_16)).trans hx110_16
                                replace hx110_17 := (HB.out.cell (World.block_lt_of_cell? w _ hx110_17)).trans hx110_17
                                have HR110_7 := Aside0.mk hi110_7
                                have HC110_7 := Aside0.mk hl110_7
                                clear hi110_7 hl110_7
                                have HR110_9 := Aside0.mk hi110_9
                                have HC110_9 := Aside0.mk hl110_9
                                clear hi110_9 hl110_9
                                have HR110_15 := Aside0.mk hi110_15
                                have HC110_15 := Aside0.mk hl110_15
                                clear hi110_15 hl110_15
                                have HR110_16 := Aside0.mk hi110_16
                                have HC110_16 := Aside0.mk hl110_16
                                clear hi110_16 hl110_16
                                have HR110_17 := Aside0.mk hi110_17
                                have HC110_17 := Aside0.mk hl110_17
                                clear hi110_17 hl110_17
                                replace p110 := eq_true p110
                                replace q110 := eq_true q110
                                have ea_ := Option.some.inj (hx109_7.symm.trans hx110_7)
                                injection ea_ with ea_ en_ ec_
                                subst ea_
                                subst ec_
                                clear en_
                                have ea_ := Option.some.inj (hx109_9.symm.trans hx110_9)
                                injection ea_ with ea_ en_ ec_
                                subst ea_
                                subst ec_
                                clear en_
                                have ea_ := Option.some.inj (hx109_15.symm.trans hx110_15)
                                injection ea_ with ea_ en_ ec_
                                subst ea_
                                subst ec_
                                clear en_
                                have ea_ := Option.some.inj (hx109_16.symm.trans hx110_16)
                                injection ea_ with ea_ en_ ec_
                                subst ea_
                                subst ec_
                                clear en_
                                have ea_ := Option.some.inj (hx109_17.symm.trans hx110_17)
                                injection ea_ with ea_ en_ ec_
                                subst ea_
                                subst ec_
                                clear en_
                                go_wp2
                                go_meet
                                case rel => exact ⟨_, (true), (by first | rfl | (simp; done) | (simp [*]; done)), H', ⟨by have := HK1.out; have := HK2.out; have := HK3.out; first | omega | exact Nat.le_refl _⟩, ⟨by (with_reducible repeat (first | apply Kd.R_alloc | apply Kd.R_drewN | apply Kd.R_drew)); exact HO_3.out⟩, ⟨by (with_reducible repeat (first | refine blk_drewN ?_ _ | refine blk_drew ?_ | refine blk_alloc ?_ _)); exact BK103.out⟩, ⟨by repeat (first | (with_reducible first | exact HB.out | apply below_alloc | apply pw_below_drewN | apply below_drew1 | refine below_set ?_ GE103.out) | exact HB.out)⟩⟩
                              · rw [if_neg c13] at H
                                have c13b0 : (((rd_T69 ((rd_T61 l0_5 x6_2).f0) x8_3).f0) == 4) = false := beq_eq_false_iff_ne.mpr c13
                                have c13b1 : (((rd_T69 ((rd_T61 l0_5 x6_2).f0) x8_3).f0) != 4) = true := bne_iff_ne.mpr c13
                                by_cases c14 : ((rd_T69 ((rd_T61 l0_5 x6_2).f0) x8_3).f0) = 5
                                · rw [if_pos c14] at H
                                  have c14b0 : (((rd_T69 ((rd_T61 l0_5 x6_2).f0) x8_3).f0) == 5) = true := beq_iff_eq.mpr c14
                                  have c14b1 : (((rd_T69 ((rd_T61 l0_5 x6_2).f0) x8_3).f0) != 5) = false := bne_eq_false_iff_eq.mpr c14
                                  clear c14
                                  have H' := Aside0.mk H
                                  clear H
                                  have p109 : 0 ≤ (x8_3 : Int) := of_decide_eq_true (by first | (with_reducible assumption) | assumption)
                                  have q109 : x8_3 < (((rd_T61 l0_5 x6_2).f0).length : Int) := of_decide_eq_true (by first | (with_reducible assumption) | assumption)
                                  obtain ⟨ad109, A109_7, c109_7, A109_9, c109_9, A109_15, c109_15, A109_16, c109_16, A109_17, c109_17, e109, hx109_0, hx109_1, hx109_2, hx109_3, hx109_4, hx109_5, hx109_6, hx109_7, hx109_8, hx109_9, hx109_10, hx109_11, hx109_12, hx109_13, hx109_14, hx109_15, hx109_16, hx109_17, hl109_7, hi109_7, hl109_9, hi109_9, hl109_15, hi109_15, hl109_16, hi109_16, hl109_17, hi109_17⟩ := at_T69 HR108_0.out x8_3 p109 q109
                                  cases e109
                                  replace hx109_0 := (HB.out.cell (World.block_lt_of_cell? w _ hx109_0)).trans hx109_0
                                  replace hx109_1 := (HB.out.cell (World.block_lt_of_cell? w _ hx109_1)).trans hx109_1
                                  replace hx109_2 := (HB.out.cell (World.block_lt_of_cell? w _ hx109_2)).trans hx109_2
                                  replace hx109_3 := (HB.out.cell (World.block_lt_of_cell? w _ hx109_3)).trans hx109_3
                                  replace hx109_4 := (HB.out.cell (World.block_lt_of_cell? w _ hx109_4)).trans hx109_4
                                  replace hx109_5 := (HB.out.cell (World.block_lt_of_cell? w _ hx109_5)).trans hx109_5
                                  replace hx109_6 := (HB.out.cell (World.block_lt_of_cell? w _ hx109_6)).trans hx109_6
                                  replace hx109_7 := (HB.out.cell (World.block_lt_of_cell? w _ hx109_7)).trans hx109_7
                                  replace hx109_8 := (HB.out.cell (World.block_lt_of_cell? w _ hx109_8)).trans hx109_8
                                  replace hx109_9 := (HB.out.cell (World.block_lt_of_cell? w _ hx109_9)).trans hx109_9
                                  replace hx109_10 := (HB.out.cell (World.block_lt_of_cell? w _ hx109_10)).trans hx109_10
                                  replace hx109_11 := (HB.out.cell (World.block_lt_of_cell? w _ hx109_11)).trans hx109_11
                                  replace hx109_12 := (HB.out.cell (World.block_lt_of_cell? w _ hx109_12)).trans hx109_12
                                  replace hx109_13 := (HB.out.cell (World.block_lt_of_cell? w _ hx109_13)).trans hx109_13
                                  replace hx109_14 := (HB.out.cell (World.block_lt_of_cell? w _ hx109_14)).trans hx109_14
                                  replace hx109_15 := (HB.out.cell (World.block_lt_of_cell? w _ hx109_15)).trans hx109_15
                                  replace hx109_16 := (HB.out.cell (World.block_lt_of_cell? w _ hx109_16)).trans hx109_16
                                  replace hx109_17 := (HB.out.cell (World.block_lt_of_cell? w _ hx109_17)).trans hx109_17
                                  have HR109_7 := Aside0.mk hi109_7
                                  have HC109_7 := Aside0.mk hl109_7
                                  clear hi109_7 hl109_7
                                  have HR109_9 := Aside0.mk hi109_9
                                  have HC109_9 := Aside0.mk hl109_9
                                  clear hi109_9 hl109_9
                                  have HR109_15 := Aside0.mk hi109_15
                                  have HC109_15 := Aside0.mk hl109_15
                                  clear hi109_15 hl109_15
                                  have HR109_16 := Aside0.mk hi109_16
                                  have HC109_16 := Aside0.mk hl109_16
                                  clear hi109_16 hl109_16
                                  have HR109_17 := Aside0.mk hi109_17
                                  have HC109_17 := Aside0.mk hl109_17
                                  clear hi109_17 hl109_17
                                  replace p109 := eq_true p109
                                  replace q109 := eq_true q109
                                  have p110 : 0 ≤ (x8_3 : Int) := of_decide_eq_true (by first | (with_reducible assumption) | assumption)
                                  have q110 : x8_3 < (((rd_T61 l0_5 x6_2).f0).length : Int) := of_decide_eq_true (by first | (with_reducible assumption) | assumption)
                                  obtain ⟨ad110, A110_7, c110_7, A110_9, c110_9, A110_15, c110_15, A110_16, c110_16, A110_17, c110_17, e110, hx110_0, hx110_1, hx110_2, hx110_3, hx110_4, hx110_5, hx110_6, hx110_7, hx110_8, hx110_9, hx110_10, hx110_11, hx110_12, hx110_13, hx110_14, hx110_15, hx110_16, hx110_17, hl110_7, hi110_7, hl110_9, hi110_9, hl110_15, hi110_15, hl110_16, hi110_16, hl110_17, hi110_17⟩ := at_T69 HR108_0.out x8_3 p110 q110
                                  obtain rfl : ad109 = ad110 := (by injection e110)
                                  replace hx110_0 := (HB.out.cell (World.block_lt_of_cell? w _ hx110_0)).trans hx110_0
                                  replace hx110_1 := (HB.out.cell (World.block_lt_of_cell? w _ hx110_1)).trans hx110_1
                                  replace hx110_2 := (HB.out.cell (World.block_lt_of_cell? w _ hx110_2)).trans hx110_2
                                  replace hx110_3 := (HB.out.cell (World.block_lt_of_cell? w _ hx110_3)).trans hx110_3
                                  replace hx110_4 := (HB.out.cell (World.block_lt_of_cell? w _ hx110_4)).trans hx110_4
                                  replace hx110_5 := (HB.out.cell (World.block_lt_of_cell? w _ hx110_5)).trans hx110_5
                                  replace hx110_6 := (HB.out.cell (World.block_lt_of_cell? w _ hx110_6)).trans hx110_6
                                  replace hx110_7 := (HB.out.cell (World.block_lt_of_cell? w _ hx110_7)).trans hx110_7
                                  replace hx110_8 := (HB.out.cell (World.block_lt_of_cell? w _ hx110_8)).trans hx110_8
                                  replace hx110_9 := (HB.out.cell (World.block_lt_of_cell? w _ hx110_9)).trans hx110_9
                                  replace hx110_10 := (HB.out.cell (World.block_lt_of_cell? w _ hx110_10)).trans hx110_10
                                  replace hx110_11 := (HB.out.cell (World.block_lt_of_cell? w _ hx110_11)).trans hx110_11
                                  replace hx110_12 := (HB.out.cell (World.block_lt_of_cell? w _ hx110_12)).trans hx110_12
                                  replace hx110_13 := (HB.out.cell (World.block_lt_of_cell? w _ hx110_13)).trans hx110_13
                                  replace hx110_14 := (HB.out.cell (World.block_lt_of_cell? w _ hx110_14)).trans hx110_14
                                  replace hx110_15 := (HB.out.cell (World.block_lt_of_cell? w _ hx110_15)).trans hx110_15
                                  replace hx110_16 := (HB.out.cell (World.block_lt_of_cell? w _ hx110_16)).trans hx110_16
                                  replace hx110_17 := (HB.out.cell (World.block_lt_of_cell? w _ hx110_17)).trans hx110_17
                                  have HR110_7 := Aside0.mk hi110_7
                                  have HC110_7 := Aside0.mk hl110_7
                                  clear hi110_7 hl110_7
                                  have HR110_9 := Aside0.mk hi110_9
                                  have HC110_9 := Aside0.mk hl110_9
                                  clear hi110_9 hl110_9
                                  have HR110_15 := Aside0.mk hi110_15
                                  have HC110_15 := Aside0.mk hl110_15
                                  clear hi110_15 hl110_15
                                  have HR110_16 := Aside0.mk hi110_16
                                  have HC110_16 := Aside0.mk hl110_16
                                  clear hi110_16 hl110_16
                                  have HR110_17 := Aside0.mk hi110_17
                                  have HC110_17 := Aside0.mk hl110_17
                                  clear hi110_17 hl110_17
                                  replace p110 := eq_true p110
                                  replace q110 := eq_true q110
                                  have ea_ := Option.some.inj (hx109_7.symm.trans hx110_7)
                                  injection ea_ with ea_ en_ ec_
                                  subst ea_
                                  subst ec_
                                  clear en_
                                  have ea_ := Option.some.inj (hx109_9.symm.trans hx110_9)
                                  injection ea_ with ea_ en_ ec_
                                  subst ea_
                                  subst ec_
                                  clear en_
                                  have ea_ := Option.some.inj (hx109_15.symm.trans hx110_15)
                                  injection ea_ with ea_ en_ ec_
                                  subst ea_
                                  subst ec_
                                  clear en_
                                  have ea_ := Option.some.inj (hx109_16.symm.trans hx110_16)
                                  injection ea_ with ea_ en_ ec_
                                  subst ea_
                                  subst ec_
                                  clear en_
                                  have ea_ := Option.some.inj (hx109_17.symm.trans hx110_17)
                                  injection ea_ with ea_ en_ ec_
                                  subst ea_
                                  subst ec_
                                  clear en_
                                  have p111 : 0 ≤ (x8_3 : Int) := of_decide_eq_true (by first | (with_reducible assumption) | assumption)
                                  have q111 : x8_3 < (((rd_T61 l0_5 x6_2).f0).length : Int) := of_decide_eq_true (by first | (with_reducible assumption) | assumption)
                                  obtain ⟨ad111, A111_7, c111_7, A111_9, c111_9, A111_15, c111_15, A111_16, c111_16, A111_17, c111_17, e111, hx111_0, hx111_1, hx111_2, hx111_3, hx111_4, hx111_5, hx111_6, hx111_7, hx111_8, hx111_9, hx111_10, hx111_11, hx111_12, hx111_13, hx111_14, hx111_15, hx111_16, hx111_17, hl111_7, hi111_7, hl111_9, hi111_9, hl111_15, hi111_15, hl111_16, hi111_16, hl111_17, hi111_17⟩ := at_T69 HR108_0.out x8_3 p111 q111
                                  obtain rfl : ad109 = ad111 := (by injection e111)
                                  replace hx111_0 := (HB.out.cell (World.block_lt_of_cell? w _ hx111_0)).trans hx111_0
                                  replace hx111_1 := (HB.out.cell (World.block_lt_of_cell? w _ hx111_1)).trans hx111_1
                                  replace hx111_2 := (HB.out.cell (World.block_lt_of_cell? w _ hx111_2)).trans hx111_2
                                  replace hx111_3 := (HB.out.cell (World.block_lt_of_cell? w _ hx111_3)).trans hx111_3
                                  replace hx111_4 := (HB.out.cell (World.block_lt_of_cell? w _ hx111_4)).trans hx111_4
                                  replace hx111_5 := (HB.out.cell (World.block_lt_of_cell? w _ hx111_5)).trans hx111_5
                                  replace hx111_6 := (HB.out.cell (World.block_lt_of_cell? w _ hx111_6)).trans hx111_6
                                  replace hx111_7 := (HB.out.cell (World.block_lt_of_cell? w _ hx111_7)).trans hx111_7
                                  replace hx111_8 := (HB.out.cell (World.block_lt_of_cell? w _ hx111_8)).trans hx111_8
                                  replace hx111_9 := (HB.out.cell (World.block_lt_of_cell? w _ hx111_9)).trans hx111_9
                                  replace hx111_10 := (HB.out.cell (World.block_lt_of_cell? w _ hx111_10)).trans hx111_10
                                  replace hx111_11 := (HB.out.cell (World.block_lt_of_cell? w _ hx111_11)).trans hx111_11
                                  replace hx111_12 := (HB.out.cell (World.block_lt_of_cell? w _ hx111_12)).trans hx111_12
                                  replace hx111_13 := (HB.out.cell (World.block_lt_of_cell? w _ hx111_13)).trans hx111_13
                                  replace hx111_14 := (HB.out.cell (World.block_lt_of_cell? w _ hx111_14)).trans hx111_14
                                  replace hx111_15 := (HB.out.cell (World.block_lt_of_cell? w _ hx111_15)).trans hx111_15
                                  replace hx111_16 := (HB.out.cell (World.block_lt_of_cell? w _ hx111_16)).trans hx111_16
                                  replace hx111_17 := (HB.out.cell (World.block_lt_of_cell? w _ hx111_17)).trans hx111_17
                                  have HR111_7 := Aside0.mk hi111_7
                                  have HC111_7 := Aside0.mk hl111_7
                                  clear hi111_7 hl111_7
                                  have HR111_9 := Aside0.mk hi111_9
                                  have HC111_9 := Aside0.mk hl111_9
                                  clear hi111_9 hl111_9
                                  have HR111_15 := Aside0.mk hi111_15
                                  have HC111_15 := Aside0.mk hl111_15
                                  clear hi111_15 hl111_15
                                  have HR111_16 := Aside0.mk hi111_16
                                  have HC111_16 := Aside0.mk hl111_16
                                  clear hi111_16 hl111_16
                                  have HR111_17 := Aside0.mk hi111_17
                                  have HC111_17 := Aside0.mk hl111_17
                                  clear hi111_17 hl111_17
                                  replace p111 := eq_true p111
                                  replace q111 := eq_true q111
                                  have ea_ := Option.some.inj (hx109_7.symm.trans hx111_7)
                                  injection ea_ with ea_ en_ ec_
                                  subst ea_
                                  subst ec_
                                  clear en_
                                  have ea_ := Option.some.inj (hx109_9.symm.trans hx111_9)
                                  injection ea_ with ea_ en_ ec_
                                  subst ea_
                                  subst ec_
                                  clear en_
                                  have ea_ := Option.some.inj (hx109_15.symm.trans hx111_15)
                                  injection ea_ with ea_ en_ ec_
                                  subst ea_
                                  subst ec_
                                  clear en_
                                  have ea_ := Option.some.inj (hx109_16.symm.trans hx111_16)
                                  injection ea_ with ea_ en_ ec_
                                  subst ea_
                                  subst ec_
                                  clear en_
                                  have ea_ := Option.some.inj (hx109_17.symm.trans hx111_17)
                                  injection ea_ with ea_ en_ ec_
                                  subst ea_
                                  subst ec_
                                  clear en_
                                  go_wp2
                                  go_meet
                                  case rel => exact ⟨_, (true), (by first | rfl | (simp; done) | (simp [*]; done)), H', ⟨by have := HK1.out; have := HK2.out; have := HK3.out; first | omega | exact Nat.le_refl _⟩, ⟨by (with_reducible repeat (first | apply Kd.R_alloc | apply Kd.R_drewN | apply Kd.R_drew)); exact HO_3.out⟩, ⟨by (with_reducible repeat (first | refine blk_drewN ?_ _ | refine blk_drew ?_ | refine blk_alloc ?_ _)); exact BK103.out⟩, ⟨by repeat (first | (with_reducible first | exact HB.out | apply below_alloc | apply pw_below_drewN | apply below_drew1 | refine below_set ?_ GE103.out) | exact HB.out)⟩⟩
                                · rw [if_neg c14] at H
                                  have c14b0 : (((rd_T69 ((rd_T61 l0_5 x6_2).f0) x8_3).f0) == 5) = false := beq_eq_false_iff_ne.mpr c14
                                  have c14b1 : (((rd_T69 ((rd_T61 l0_5 x6_2).f0) x8_3).f0) != 5) = true := bne_iff_ne.mpr c14
                                  by_cases c15 : ((rd_T69 ((rd_T61 l0_5 x6_2).f0) x8_3).f0) = 6
                                  · rw [if_pos c15] at H
                                    have c15b0 : (((rd_T69 ((rd_T61 l0_5 x6_2).f0) x8_3).f0) == 6) = true := beq_iff_eq.mpr c15
                                    have c15b1 : (((rd_T69 ((rd_T61 l0_5 x6_2).f0) x8_3).f0) != 6) = false := bne_eq_false_iff_eq.mpr c15
                                    clear c15
                                    have H' := Aside0.mk H
                                    clear H
                                    have p109 : 0 ≤ (x8_3 : Int) := of_decide_eq_true (by first | (with_reducible assumption) | assumption)
                                    have q109 : x8_3 < (((rd_T61 l0_5 x6_2).f0).length : Int) := of_decide_eq_true (by first | (with_reducible assumption) | assumption)
                                    obtain ⟨ad109, A109_7, c109_7, A109_9, c109_9, A109_15, c109_15, A109_16, c109_16, A109_17, c109_17, e109, hx109_0, hx109_1, hx109_2, hx109_3, hx109_4, hx109_5, hx109_6, hx109_7, hx109_8, hx109_9, hx109_10, hx109_11, hx109_12, hx109_13, hx109_14, hx109_15, hx109_16, hx109_17, hl109_7, hi109_7, hl109_9, hi109_9, hl109_15, hi109_15, hl109_16, hi109_16, hl109_17, hi109_17⟩ := at_T69 HR108_0.out x8_3 p109 q109
                                    cases e109
                                    replace hx109_0 := (HB.out.cell (World.block_lt_of_cell? w _ hx109_0)).trans hx109_0
                                    replace hx109_1 := (HB.out.cell (World.block_lt_of_cell? w _ hx109_1)).trans hx109_1
                                    replace hx109_2 := (HB.out.cell (World.block_lt_of_cell? w _ hx109_2)).trans hx109_2
                                    replace hx109_3 := (HB.out.cell (World.block_lt_of_cell? w _ hx109_3)).trans hx109_3
                                    replace hx109_4 := (HB.out.cell (World.block_lt_of_cell? w _ hx109_4)).trans hx109_4
                                    replace hx109_5 := (HB.out.cell (World.block_lt_of_cell? w _ hx109_5)).trans hx109_5
                                    replace hx109_6 := (HB.out.cell (World.block_lt_of_cell? w _ hx109_6)).trans hx109_6
                                    replace hx109_7 := (HB.out.cell (World.block_lt_of_cell? w _ hx109_7)).trans hx109_7
                                    replace hx109_8 := (HB.out.cell (World.block_lt_of_cell? w _ hx109_8)).trans hx109_8
                                    replace hx109_9 := (HB.out.cell (World.block_lt_of_cell? w _ hx109_9)).trans hx109_9
                                    replace hx109_10 := (HB.out.cell (World.block_lt_of_cell? w _ hx109_10)).trans hx109_10
                                    replace hx109_11 := (HB.out.cell (World.block_lt_of_cell? w _ hx109_11)).trans hx109_11
                                    replace hx109_12 := (HB.out.cell (World.block_lt_of_cell? w _ hx109_12)).trans hx109_12
                                    replace hx109_13 := (HB.out.cell (World.block_lt_of_cell? w _ hx109_13)).trans hx109_13
                                    replace hx109_14 := (HB.out.cell (World.block_lt_of_cell? w _ hx109_14)).trans hx109_14
                                    replace hx109_15 := (HB.out.cell (World.block_lt_of_cell? w _ hx109_15)).trans hx109_15
                                    replace hx109_16 := (HB.out.cell (World.block_lt_of_cell? w _ hx109_16)).trans hx109_16
                                    replace hx109_17 := (HB.out.cell (World.block_lt_of_cell? w _ hx109_17)).trans hx109_17
                                    have HR109_7 := Aside0.mk hi109_7
                                    have HC109_7 := Aside0.mk hl109_7
                                    clear hi109_7 hl109_7
                                    have HR109_9 := Aside0.mk hi109_9
                                    have HC109_9 := Aside0.mk hl109_9
                                    clear hi109_9 hl109_9
                                    have HR109_15 := Aside0.mk hi109_15
                                    have HC109_15 := Aside0.mk hl109_15
                                    clear hi109_15 hl109_15
                                    have HR109_16 := Aside0.mk hi109_16
                                    have HC109_16 := Aside0.mk hl109_16
                                    clear hi109_16 hl109_16
                                    have HR109_17 := Aside0.mk hi109_17
                                    have HC109_17 := Aside0.mk hl109_17
                                    clear hi109_17 hl109_17
                                    replace p109 := eq_true p109
                                    replace q109 := eq_true q109
                                    have p110 : 0 ≤ (x8_3 : Int) := of_decide_eq_true (by first | (with_reducible assumption) | assumption)
                                    have q110 : x8_3 < (((rd_T61 l0_5 x6_2).f0).length : Int) := of_decide_eq_true (by first | (with_reducible assumption) | assumption)
                                    obtain ⟨ad110, A110_7, c110_7, A110_9, c110_9, A110_15, c110_15, A110_16, c110_16, A110_17, c110_17, e110, hx110_0, hx110_1, hx110_2, hx110_3, hx110_4, hx110_5, hx110_6, hx110_7, hx110_8, hx110_9, hx110_10, hx110_11, hx110_12, hx110_13, hx110_14, hx110_15, hx110_16, hx110_17, hl110_7, hi110_7, hl110_9, hi110_9, hl110_15, hi110_15, hl110_16, hi110_16, hl110_17, hi110_17⟩ := at_T69 HR108_0.out x8_3 p110 q110
                                    obtain rfl : ad109 = ad110 := (by injection e110)
                                    replace hx110_0 := (HB.out.cell (World.block_lt_of_cell? w _ hx110_0)).trans hx110_0
                                    replace hx110_1 := (HB.out.cell (World.block_lt_of_cell? w _ hx110_1)).trans hx110_1
                                    replace hx110_2 := (HB.out.cell (World.block_lt_of_cell? w _ hx110_2)).trans hx110_2
                                    replace hx110_3 := (HB.out.cell (World.block_lt_of_cell? w _ hx110_3)).trans hx110_3
                                    replace hx110_4 := (HB.out.cell (World.block_lt_of_cell? w _ hx110_4)).trans hx110_4
                                    replace hx110_5 := (HB.out.cell (World.block_lt_of_cell? w _ hx110_5)).trans hx110_5
                                    replace hx110_6 := (HB.out.cell (World.block_lt_of_cell? w _ hx110_6)).trans hx110_6
                                    replace hx110_7 := (HB.out.cell (World.block_lt_of_cell? w _ hx110_7)).trans hx110_7
                                    replace hx110_8 := (HB.out.cell (World.block_lt_of_cell? w _ hx110_8)).trans hx110_8
                                    replace hx110_9 := (HB.out.cell (World.block_lt_of_cell? w _ hx110_9)).trans hx110_9
                                    replace hx110_10 := (HB.out.cell (World.block_lt_of_cell? w _ hx110_10)).trans hx110_10
                                    replace hx110_11 := (HB.out.cell (World.block_lt_of_cell? w _ hx110_11)).trans hx110_11
                                    replace hx110_12 := (HB.out.cell (World.block_lt_of_cell? w _ hx110_12)).trans hx110_12
                                    replace hx110_13 := (HB.out.cell (World.block_lt_of_cell? w _ hx110_13)).trans hx110_13
                                    replace hx110_14 := (HB.out.cell (World.block_lt_of_cell? w _ hx110_14)).trans hx110_14
                                    replace hx110_15 := (HB.out.cell (World.block_lt_of_cell? w _ hx110_15)).trans hx110_15
                                    replace hx110_16 := (HB.out.cell (World.block_lt_of_cell? w _ hx110_16)).trans hx110_16
                                    replace hx110_17 := (HB.out.cell (World.block_lt_of_cell? w _ hx110_17)).trans hx110_17
                                    have HR110_7 := Aside0.mk hi110_7
                                    have HC110_7 := Aside0.mk hl110_7
                                    clear hi110_7 hl110_7
                                    have HR110_9 := Aside0.mk hi110_9
                                    have HC110_9 := Aside0.mk hl110_9
                                    clear hi110_9 hl110_9
                                    have HR110_15 := Aside0.mk hi110_15
                                    have HC110_15 := Aside0.mk hl110_15
                                    clear hi110_15 hl110_15
                                    have HR110_16 := Aside0.mk hi110_16
                                    have HC110_16 := Aside0.mk hl110_16
                                    clear hi110_16 hl110_16
                                    have HR110_17 := Aside0.mk hi110_17
                                    have HC110_17 := Aside0.mk hl110_17
                                    clear hi110_17 hl110_17
                                    replace p110 := eq_true p110
                                    replace q110 := eq_true q110
                                    have ea_ := Option.some.inj (hx109_7.symm.trans hx110_7)
                                    injection ea_ with ea_ en_ ec_
                                    subst ea_
                                    subst ec_
                                    clear en_
                                    have ea_ := Option.some.inj (hx109_9.symm.trans hx110_9)
                                    injection ea_ with ea_ en_ ec_
                                    subst ea_
                                    subst ec_
                                    clear en_
                                    have ea_ := Option.some.inj (hx109_15.symm.trans hx110_15)
                                    injection ea_ with ea_ en_ ec_
                                    subst ea_
                                    subst ec_
                                    clear en_
                                    have ea_ := Option.some.inj (hx109_16.symm.trans hx110_16)
                                    injection ea_ with ea_ en_ ec_
                                    subst ea_
                                    subst ec_
                                    clear en_
                                    have ea_ := Option.some.inj (hx109_17.symm.trans hx110_17)
                                    injection ea_ with ea_ en_ ec_
                                    subst ea_
                                    subst ec_
                                    clear en_
                                    have p111 : 0 ≤ (x8_3 : Int) := of_decide_eq_true (by first | (with_reducible assumption) | assumption)
                                    have q111 : x8_3 < (((rd_T61 l0_5 x6_2).f0).length : Int) := of_decide_eq_true (by first | (with_reducible assumption) | assumption)
                                    obtain ⟨ad111, A111_7, c111_7, A111_9, c111_9, A111_15, c111_15, A111_16, c111_16, A111_17, c111_17, e111, hx111_0, hx111_1, hx111_2, hx111_3, hx111_4, hx111_5, hx111_6, hx111_7, hx111_8, hx111_9, hx111_10, hx111_11, hx111_12, hx111_13, hx111_14, hx111_15, hx111_16, hx111_17, hl111_7, hi111_7, hl111_9, hi111_9, hl111_15, hi111_15, hl111_16, hi111_16, hl111_17, hi111_17⟩ := at_T69 HR108_0.out x8_3 p111 q111
                                    obtain rfl : ad109 = ad111 := (by injection e111)
                                    replace hx111_0 := (HB.out.cell (World.block_lt_of_cell? w _ hx111_0)).trans hx111_0
                                    replace hx111_1 := (HB.out.cell (World.block_lt_of_cell? w _ hx111_1)).trans hx111_1
                                    replace hx111_2 := (HB.out.cell (World.block_lt_of_cell? w _ hx111_2)).trans hx111_2
                                    replace hx111_3 := (HB.out.cell (World.block_lt_of_cell? w _ hx111_3)).trans hx111_3
                                    replace hx111_4 := (HB.out.cell (World.block_lt_of_cell? w _ hx111_4)).trans hx111_4
                                    replace hx111_5 := (HB.out.cell (World.block_lt_of_cell? w _ hx111_5)).trans hx111_5
                                    replace hx111_6 := (HB.out.cell (World.block_lt_of_cell? w _ hx111_6)).trans hx111_6
                                    replace hx111_7 := (HB.out.cell (World.block_lt_of_cell? w _ hx111_7)).trans hx111_7
                                    replace hx111_8 := (HB.out.cell (World.block_lt_of_cell? w _ hx111_8)).trans hx111_8
                                    replace hx111_9 := (HB.out.cell (World.block_lt_of_cell? w _ hx111_9)).trans hx111_9
                                    replace hx111_10 := (HB.out.cell (World.block_lt_of_cell? w _ hx111_10)).trans hx111_10
                                    replace hx111_11 := (HB.out.cell (World.block_lt_of_cell? w _ hx111_11)).trans hx111_11
                                    replace hx111_12 := (HB.out.cell (World.block_lt_of_cell? w _ hx111_12)).trans hx111_12
                                    replace hx111_13 := (HB.out.cell (World.block_lt_of_cell? w _ hx111_13)).trans hx111_13
                                    replace hx111_14 := (HB.out.cell (World.block_lt_of_cell? w _ hx111_14)).trans hx111_14
                                    replace hx111_15 := (HB.out.cell (World.block_lt_of_cell? w _ hx111_15)).trans hx111_15
                                    replace hx111_16 := (HB.out.cell (World.block_lt_of_cell? w _ hx111_16)).trans hx111_16
                                    replace hx111_17 := (HB.out.cell (World.block_lt_of_cell? w _ hx111_17)).trans hx111_17
                                    have HR111_7 := Aside0.mk hi111_7
                                    have HC111_7 := Aside0.mk hl111_7
                                    clear hi111_7 hl111_7
                                    have HR111_9 := Aside0.mk hi111_9
                                    have HC111_9 := Aside0.mk hl111_9
                                    clear hi111_9 hl111_9
                                    have HR111_15 := Aside0.mk hi111_15
                                    have HC111_15 := Aside0.mk hl111_15
                                    clear hi111_15 hl111_15
                                    have HR111_16 := Aside0.mk hi111_16
                                    have HC111_16 := Aside0.mk hl111_16
                                    clear hi111_16 hl111_16
                                    have HR111_17 := Aside0.mk hi111_17
                                    have HC111_17 := Aside0.mk hl111_17
                                    clear hi111_17 hl111_17
                                    replace p111 := eq_true p111
                                    replace q111 := eq_true q111
                                    have ea_ := Option.some.inj (hx109_7.symm.trans hx111_7)
                                    injection ea_ with ea_ en_ ec_
                                    subst ea_
                                    subst ec_
                                    clear en_
                                    have ea_ := Option.some.inj (hx109_9.symm.trans hx111_9)
                                    injection ea_ with ea_ en_ ec_
                                    subst ea_
                                    subst ec_
                                    clear en_
                                    have ea_ := Option.some.inj (hx109_15.symm.trans hx111_15)
                                    injection ea_ with ea_ en_ ec_
                                    subst ea_
                                    subst ec_
                                    clear en_
                                    have ea_ := Option.some.inj (hx109_16.symm.trans hx111_16)
                                    injection ea_ with ea_ en_ ec_
                                    subst ea_
                                    subst ec_
                                    clear en_
                                    have ea_ := Option.some.inj (hx109_17.symm.trans hx111_17)
                                    injection ea_ with ea_ en_ ec_
                                    subst ea_
                                    subst ec_
                                    clear en_
                                    have p112 : 0 ≤ (x8_3 : Int) := of_decide_eq_true (by first | (with_reducible assumption) | assumption)
                                    have q112 : x8_3 < (((rd_T61 l0_5 x6_2).f0).length : Int) := of_decide_eq_true (by first | (with_reducible assumption) | assumption)
                                    obtain ⟨ad112, A112_7, c112_7, A112_9, c112_9, A112_15, c112_15, A112_16, c112_16, A112_17, c112_17, e112, hx112_0, hx112_1, hx112_2, hx112_3, hx112_4, hx112_5, hx112_6, hx112_7, hx112_8, hx112_9, hx112_10, hx112_11, hx112_12, hx112_13, hx112_14, hx112_15, hx112_16, hx112_17, hl112_7, hi112_7, hl112_9, hi112_9, hl112_15, hi112_15, hl112_16, hi112_16, hl112_17, hi112_17⟩ := at_T69 HR108_0.out x8_3 p112 q112
                                    obtain rfl : ad109 = ad112 := (by injection e112)
                                    replace hx112_0 := (HB.out.cell (World.block_lt_of_cell? w _ hx112_0)).trans hx112_0
                                    replace hx112_1 := (HB.out.cell (World.block_lt_of_cell? w _ hx112_1)).trans hx112_1
                                    replace hx112_2 := (HB.out.cell (World.block_lt_of_cell? w _ hx112_2)).trans hx112_2
                                    replace hx112_3 := (HB.out.cell (World.block_lt_of_cell? w _ hx112_3)).trans hx112_3
                                    replace hx112_4 := (HB.out.cell (World.block_lt_of_cell? w _ hx112_4)).trans hx112_4
                                    replace hx112_5 := (HB.out.cell (World.block_lt_of_cell? w _ hx112_5)).trans hx112_5
                                    replace hx112_6 := (HB.out.cell (World.block_lt_of_cell? w _ hx112_6)).trans hx112_6
                                    replace hx112_7 := (HB.out.cell (World.block_lt_of_cell? w _ hx112_7)).trans hx112_7
                                    replace hx112_8 := (HB.out.cell (World.block_lt_of_cell? w _ hx112_8)).trans hx112_8
                                    replace hx112_9 := (HB.out.cell (World.block_lt_of_cell? w _ hx112_9)).trans hx112_9
                                    replace hx112_10 := (HB.out.cell (World.block_lt_of_cell? w _ hx112_10)).trans hx112_10
                                    replace hx112_11 := (HB.out.cell (World.block_lt_of_cell? w _ hx112_11)).trans hx112_11
                                    replace hx112_12 := (HB.out.cell (World.block_lt_of_cell? w _ hx112_12)).trans hx112_12
                                    replace hx112_13 := (HB.out.cell (World.block_lt_of_cell? w _ hx112_13)).trans hx112_13
                                    replace hx112_14 := (HB.out.cell (World.block_lt_of_cell? w _ hx112_14)).trans hx112_14
                                    replace hx112_15 := (HB.out.cell (World.block_lt_of_cell? w _ hx112_15)).trans hx112_15
                                    replace hx112_16 := (HB.out.cell (World.block_lt_of_cell? w _ hx112_16)).trans hx112_16
                                    replace hx112_17 := (HB.out.cell (World.block_lt_of_cell? w _ hx112_17)).trans hx112_17
                                    have HR112_7 := Aside0.mk hi112_7
                                    have HC112_7 := Aside0.mk hl112_7
                                    clear hi112_7 hl112_7
                                    have HR112_9 := Aside0.mk hi112_9
                                    have HC112_9 := Aside0.mk hl112_9
                                    clear hi112_9 hl112_9
                                    have HR112_15 := Aside0.mk hi112_15
                                    have HC112_15 := Aside0.mk hl112_15
                                    clear hi112_15 hl112_15
                                    have HR112_16 := Aside0.mk hi112_16
                                    have HC112_16 := Aside0.mk hl112_16
                                    clear hi112_16 hl112_16
                                    have HR112_17 := Aside0.mk hi112_17
                                    have HC112_17 := Aside0.mk hl112_17
                                    clear hi112_17 hl112_17
                                    replace p112 := eq_true p112
                                    replace q112 := eq_true q112
                                    have ea_ := Option.some.inj (hx109_7.symm.trans hx112_7)
                                    injection ea_ with ea_ en_ ec_
                                    subst ea_
                                    subst ec_
                                    clear en_
                                    have ea_ := Option.some.inj (hx109_9.symm.trans hx112_9)
                                    injection ea_ with ea_ en_ ec_
                                    subst ea_
                                    subst ec_
                                    clear en_
                                    have ea_ := Option.some.inj (hx109_15.symm.trans hx112_15)
                                    injection ea_ with ea_ en_ ec_
                                    subst ea_
                                    subst ec_
                                    clear en_
                                    have ea_ := Option.some.inj (hx109_16.symm.trans hx112_16)
                                    injection ea_ with ea_ en_ ec_
                                    subst ea_
                                    subst ec_
                                    clear en_
                                    have ea_ := Option.some.inj (hx109_17.symm.trans hx112_17)
                                    injection ea_ with ea_ en_ ec_
                                    subst ea_
                                    subst ec_
                                    clear en_
                                    go_wp2
                                    go_meet
                                    case rel => exact ⟨_, (true), (by first | rfl | (simp; done) | (simp [*]; done)), H', ⟨by have := HK1.out; have := HK2.out; have := HK3.out; first | omega | exact Nat.le_refl _⟩, ⟨by (with_reducible repeat (first | apply Kd.R_alloc | apply Kd.R_drewN | apply Kd.R_drew)); exact HO_3.out⟩, ⟨by (with_reducible repeat (first | refine blk_drewN ?_ _ | refine blk_drew ?_ | refine blk_alloc ?_ _)); exact BK103.out⟩, ⟨by repeat (first | (with_reducible first | exact HB.out | apply below_alloc | apply pw_below_drewN | apply below_drew1 | refine below_set ?_ GE103.out) | exact HB.out)⟩⟩
                                  · rw [if_neg c15] at H
                                    have c15b0 : (((rd_T69 ((rd_T61 l0_5 x6_2).f0) x8_3).f0) == 6) = false := beq_eq_false_iff_ne.mpr c15
                                    have c15b1 : (((rd_T69 ((rd_T61 l0_5 x6_2).f0) x8_3).f0) != 6) = true := bne_iff_ne.mpr c15
                                    have H' := Aside0.mk H
                                    clear H
                                    have p109 : 0 ≤ (x8_3 : Int) := of_decide_eq_true (by first | (with_reducible assumption) | assumption)
                                    have q109 : x8_3 < (((rd_T61 l0_5 x6_2).f0).length : Int) := of_decide_eq_true (by first | (with_reducible assumption) | assumption)
                                    obtain ⟨ad109, A109_7, c109_7, A109_9, c109_9, A109_15, c109_15, A109_16, c109_16, A109_17, c109_17, e109, hx109_0, hx109_1, hx109_2, hx109_3, hx109_4, hx109_5, hx109_6, hx109_7, hx109_8, hx109_9, hx109_10, hx109_11, hx109_12, hx109_13, hx109_14, hx109_15, hx109_16, hx109_17, hl109_7, hi109_7, hl109_9, hi109_9, hl109_15, hi109_15, hl109_16, hi109_16, hl109_17, hi109_17⟩ := at_T69 HR108_0.out x8_3 p109 q109
                                    cases e109
                                    replace hx109_0 := (HB.out.cell (World.block_lt_of_cell? w _ hx109_0)).trans hx109_0
                                    replace hx109_1 := (HB.out.cell (World.block_lt_of_cell? w _ hx109_1)).trans hx109_1
                                    replace hx109_2 := (HB.out.cell (World.block_lt_of_cell? w _ hx109_2)).trans hx109_2
                                    replace hx109_3 := (HB.out.cell (World.block_lt_of_cell? w _ hx109_3)).trans hx109_3
                                    replace hx109_4 := (HB.out.cell (World.block_lt_of_cell? w _ hx109_4)).trans hx109_4
                                    replace hx109_5 := (HB.out.cell (World.block_lt_of_cell? w _ hx109_5)).trans hx109_5
                                    replace hx109_6 := (HB.out.cell (World.block_lt_of_cell? w _ hx109_6)).trans hx109_6
                                    replace hx109_7 := (HB.out.cell (World.block_lt_of_cell? w _ hx109_7)).trans hx109_7
                                    replace hx109_8 := (HB.out.cell (World.block_lt_of_cell? w _ hx109_8)).trans hx109_8
                                    replace hx109_9 := (HB.out.cell (World.block_lt_of_cell? w _ hx109_9)).trans hx109_9
                                    replace hx109_10 := (HB.out.cell (World.block_lt_of_cell? w _ hx109_10)).trans hx109_10
                                    replace hx109_11 := (HB.out.cell (World.block_lt_of_cell? w _ hx109_11)).trans hx109_11
                                    replace hx109_12 := (HB.out.cell (World.block_lt_of_cell? w _ hx109_12)).trans hx109_12
                                    replace hx109_13 := (HB.out.cell (World.block_lt_of_cell? w _ hx109_13)).trans hx109_13
                                    replace hx109_14 := (HB.out.cell (World.block_lt_of_cell? w _ hx109_14)).trans hx109_14
                                    replace hx109_15 := (HB.out.cell (World.block_lt_of_cell? w _ hx109_15)).trans hx109_15
                                    replace hx109_16 := (HB.out.cell (World.block_lt_of_cell? w _ hx109_16)).trans hx109_16
                                    replace hx109_17 := (HB.out.cell (World.block_lt_of_cell? w _ hx109_17)).trans hx109_17
                                    have HR109_7 := Aside0.mk hi109_7
                                    have HC109_7 := Aside0.mk hl109_7
                                    clear hi109_7 hl109_7
                                    have HR109_9 := Aside0.mk hi109_9
                                    have HC109_9 := Aside0.mk hl109_9
                                    clear hi109_9 hl109_9
                                    have HR109_15 := Aside0.mk hi109_15
                                    have HC109_15 := Aside0.mk hl109_15
                                    clear hi109_15 hl109_15
                                    have HR109_16 := Aside0.mk hi109_16
                                    have HC109_16 := Aside0.mk hl109_16
                                    clear hi109_16 hl109_16
                                    have HR109_17 := Aside0.mk hi109_17
                                    have HC109_17 := Aside0.mk hl109_17
                                    clear hi109_17 hl109_17
                                    replace p109 := eq_true p109
                                    replace q109 := eq_true q109
                                    have p110 : 0 ≤ (x8_3 : Int) := of_decide_eq_true (by first | (with_reducible assumption) | assumption)
                                    have q110 : x8_3 < (((rd_T61 l0_5 x6_2).f0).length : Int) := of_decide_eq_true (by first | (with_reducible assumption) | assumption)
                                    obtain ⟨ad110, A110_7, c110_7, A110_9, c110_9, A110_15, c110_15, A110_16, c110_16, A110_17, c110_17, e110, hx110_0, hx110_1, hx110_2, hx110_3, hx110_4, hx110_5, hx110_6, hx110_7, hx110_8, hx110_9, hx110_10, hx110_11, hx110_12, hx110_13, hx110_14, hx110_15, hx110_16, hx110_17, hl110_7, hi110_7, hl110_9, hi110_9, hl110_15, hi110_15, hl110_16, hi110_16, hl110_17, hi110_17⟩ := at_T69 HR108_0.out x8_3 p110 q110
                                    obtain rfl : ad109 = ad110 := (by injection e110)
                                    replace hx110_0 := (HB.out.cell (World.block_lt_of_cell? w _ hx110_0)).trans hx110_0
                                    replace hx110_1 := (HB.out.cell (World.block_lt_of_cell? w _ hx110_1)).trans hx110_1
                                    replace hx110_2 := (HB.out.cell (World.block_lt_of_cell? w _ hx110_2)).trans hx110_2
                                    replace hx110_3 := (HB.out.cell (World.block_lt_of_cell? w _ hx110_3)).trans hx110_3
                                    replace hx110_4 := (HB.out.cell (World.block_lt_of_cell? w _ hx110_4)).trans hx110_4
                                    replace hx110_5 := (HB.out.cell (World.block_lt_of_cell? w _ hx110_5)).trans hx110_5
                                    replace hx110_6 := (HB.out.cell (World.block_lt_of_cell? w _ hx110_6)).trans hx110_6
                                    replace hx110_7 := (HB.out.cell (World.block_lt_of_cell? w _ hx110_7)).trans hx110_7
                                    replace hx110_8 := (HB.out.cell (World.block_lt_of_cell? w _ hx110_8)).trans hx110_8
                                    replace hx110_9 := (HB.out.cell (World.block_lt_of_cell? w _ hx110_9)).trans hx110_9
                                    replace hx110_10 := (HB.out.cell (World.block_lt_of_cell? w _ hx110_10)).trans hx110_10
                                    replace hx110_11 := (HB.out.cell (World.block_lt_of_cell? w _ hx110_11)).trans hx110_11
                                    replace hx110_12 := (HB.out.cell (World.block_lt_of_cell? w _ hx110_12)).trans hx110_12
                                    replace hx110_13 := (HB.out.cell (World.block_lt_of_cell? w _ hx110_13)).trans hx110_13
                                    replace hx110_14 := (HB.out.cell (World.block_lt_of_cell? w _ hx110_14)).trans hx110_14
                                    replace hx110_15 := (HB.out.cell (World.block_lt_of_cell? w _ hx110_15)).trans hx110_15
                                    replace hx110_16 := (HB.out.cell (World.block_lt_of_cell? w _ hx110_16)).trans hx110_16
                                    replace hx110_17 := (HB.out.cell (World.block_lt_of_cell? w _ hx110_17)).trans hx110_17
                                    have HR110_7 := Aside0.mk hi110_7
                                    have HC110_7 := Aside0.mk hl110_7
                                    clear hi110_7 hl110_7
                                    have HR110_9 := Aside0.mk hi110_9
                                    have HC110_9 := Aside0.mk hl110_9
                                    clear hi110_9 hl110_9
                                    have HR110_15 := Aside0.mk hi110_15
                                    have HC110_15 := Aside0.mk hl110_15
                                    clear hi110_15 hl110_15
                                    have HR110_16 := Aside0.mk hi110_16
                                    have HC110_16 := Aside0.mk hl110_16
                                    clear hi110_16 hl110_16
                                    have HR110_17 := Aside0.mk hi110_17
                                    have HC110_17 := Aside0.mk hl110_17
                                    clear hi110_17 hl110_17
                                    replace p110 := eq_true p110
                                    replace q110 := eq_true q110
                                    have ea_ := Option.some.inj (hx109_7.symm.trans hx110_7)
                                    injection ea_ with ea_ en_ ec_
                                    subst ea_
                                    subst ec_
                                    clear en_
                                    have ea_ := Option.some.inj (hx109_9.symm.trans hx110_9)
                                    injection ea_ with ea_ en_ ec_
                                    subst ea_
                                    subst ec_
                                    clear en_
                                    have ea_ := Option.some.inj (hx109_15.symm.trans hx110_15)
                                    injection ea_ with ea_ en_ ec_
                                    subst ea_
                                    subst ec_
                                    clear en_
                                    have ea_ := Option.some.inj (hx109_16.symm.trans hx110_16)
                                    injection ea_ with ea_ en_ ec_
                                    subst ea_
                                    subst ec_
                                    clear en_
                                    have ea_ := Option.some.inj (hx109_17.symm.trans hx110_17)
                                    injection ea_ with ea_ en_ ec_
                                    subst ea_
                                    subst ec_
                                    clear en_
                                    have p111 : 0 ≤ (x8_3 : Int) := of_decide_eq_true (by first | (with_reducible assumption) | assumption)
                                    have q111 : x8_3 < (((rd_T61 l0_5 x6_2).f0).length : Int) := of_decide_eq_true (by first | (with_reducible assumption) | assumption)
                                    obtain ⟨ad111, A111_7, c111_7, A111_9, c111_9, A111_15, c111_15, A111_16, c111_16, A111_17, c111_17, e111, hx111_0, hx111_1, hx111_2, hx111_3, hx111_4, hx111_5, hx111_6, hx111_7, hx111_8, hx111_9, hx111_10, hx111_11, hx111_12, hx111_13, hx111_14, hx111_15, hx111_16, hx111_17, hl111_7, hi111_7, hl111_9, hi111_9, hl111_15, hi111_15, hl111_16, hi111_16, hl111_17, hi111_17⟩ := at_T69 HR108_0.out x8_3 p111 q111
                                    obtain rfl : ad109 = ad111 := (by injection e111)
                                    replace hx111_0 := (HB.out.cell (World.block_lt_of_cell? w _ hx111_0)).trans hx111_0
                                    replace hx111_1 := (HB.out.cell (World.block_lt_of_cell? w _ hx111_1)).trans hx111_1
                                    replace hx111_2 := (HB.out.cell (World.block_lt_of_cell? w _ hx111_2)).trans hx111_2
                                    replace hx111_3 := (HB.out.cell (World.block_lt_of_cell? w _ hx111_3)).trans hx111_3
                                    replace hx111_4 := (HB.out.cell (World.block_lt_of_cell? w _ hx111_4)).trans hx111_4
                                    replace hx111_5 := (HB.out.cell (World.block_lt_of_cell? w _ hx111_5)).trans hx111_5
                                    replace hx111_6 := (HB.out.cell (World.block_lt_of_cell? w _ hx111_6)).trans hx111_6
                                    replace hx111_7 := (HB.out.cell (World.block_lt_of_cell? w _ hx111_7)).trans hx111_7
                                    replace hx111_8 := (HB.out.cell (World.block_lt_of_cell? w _ hx111_8)).trans hx111_8
                                    replace hx111_9 := (HB.out.cell (World.block_lt_of_cell? w _ hx111_9)).trans hx111_9
                                    replace hx111_10 := (HB.out.cell (World.block_lt_of_cell? w _ hx111_10)).trans hx111_10
                                    replace hx111_11 := (HB.out.cell (World.block_lt_of_cell? w _ hx111_11)).trans hx111_11
                                    replace hx111_12 := (HB.out.cell (World.block_lt_of_cell? w _ hx111_12)).trans hx111_12
                                    replace hx111_13 := (HB.out.cell (World.block_lt_of_cell? w _ hx111_13)).trans hx111_13
                                    replace hx111_14 := (HB.out.cell (World.block_lt_of_cell? w _ hx111_14)).trans hx111_14
                                    replace hx111_15 := (HB.out.cell (World.block_lt_of_cell? w _ hx111_15)).trans hx111_15
                                    replace hx111_16 := (HB.out.cell (World.block_lt_of_cell? w _ hx111_16)).trans hx111_16
                                    replace hx111_17 := (HB.out.cell (World.block_lt_of_cell? w _ hx111_17)).trans hx111_17
                                    have HR111_7 := Aside0.mk hi111_7
                                    have HC111_7 := Aside0.mk hl111_7
                                    clear hi111_7 hl111_7
                                    have HR111_9 := Aside0.mk hi111_9
                                    have HC111_9 := Aside0.mk hl111_9
                                    clear hi111_9 hl111_9
                                    have HR111_15 := Aside0.mk hi111_15
                                    have HC111_15 := Aside0.mk hl111_15
                                    clear hi111_15 hl111_15
                                    have HR111_16 := Aside0.mk hi111_16
                                    have HC111_16 := Aside0.mk hl111_16
                                    clear hi111_16 hl111_16
                                    have HR111_17 := Aside0.mk hi111_17
                                    have HC111_17 := Aside0.mk hl111_17
                                    clear hi111_17 hl111_17
                                    replace p111 := eq_true p111
                                    replace q111 := eq_true q111
                                    have ea_ := Option.some.inj (hx109_7.symm.trans hx111_7)
                                    injection ea_ with ea_ en_ ec_
                                    subst ea_
                                    subst ec_
                                    clear en_
                                    have ea_ := Option.some.inj (hx109_9.symm.trans hx111_9)
                                    injection ea_ with ea_ en_ ec_
                                    subst ea_
                                    subst ec_
                                    clear en_
                                    have ea_ := Option.some.inj (hx109_15.symm.trans hx111_15)
                                    injection ea_ with ea_ en_ ec_
                                    subst ea_
                                    subst ec_
                                    clear en_
                                    have ea_ := Option.some.inj (hx109_16.symm.trans hx111_16)
                                    injection ea_ with ea_ en_ ec_
                                    subst ea_
                                    subst ec_
                                    clear en_
                                    have ea_ := Option.some.inj (hx109_17.symm.trans hx111_17)
                                    injection ea_ with ea_ en_ ec_
                                    subst ea_
                                    subst ec_
                                    clear en_
                                    have p112 : 0 ≤ (x8_3 : Int) := of_decide_eq_true (by first | (with_reducible assumption) | assumption)
                                    have q112 : x8_3 < (((rd_T61 l0_5 x6_2).f0).length : Int) := of_decide_eq_true (by first | (with_reducible assumption) | assumption)
                                    obtain ⟨ad112, A112_7, c112_7, A112_9, c112_9, A112_15, c112_15, A112_16, c112_16, A112_17, c112_17, e112, hx112_0, hx112_1, hx112_2, hx112_3, hx112_4, hx112_5, hx112_6, hx112_7, hx112_8, hx112_9, hx112_10, hx112_11, hx112_12, hx112_13, hx112_14, hx112_15, hx112_16, hx112_17, hl112_7, hi112_7, hl112_9, hi112_9, hl112_15, hi112_15, hl112_16, hi112_16, hl112_17, hi112_17⟩ := at_T69 HR108_0.out x8_3 p112 q112
                                    obtain rfl : ad109 = ad112 := (by injection e112)
                                    replace hx112_0 := (HB.out.cell (World.block_lt_of_cell? w _ hx112_0)).trans hx112_0
                                    replace hx112_1 := (HB.out.cell (World.block_lt_of_cell? w _ hx112_1)).trans hx112_1
                                    replace hx112_2 := (HB.out.cell (World.block_lt_of_cell? w _ hx112_2)).trans hx112_2
                                    replace hx112_3 := (HB.out.cell (World.block_lt_of_cell? w _ hx112_3)).trans hx112_3
                                    replace hx112_4 := (HB.out.cell (World.block_lt_of_cell? w _ hx112_4)).trans hx112_4
                                    replace hx112_5 := (HB.out.cell (World.block_lt_of_cell? w _ hx112_5)).trans hx112_5
                                    replace hx112_6 := (HB.out.cell (World.block_lt_of_cell? w _ hx112_6)).trans hx112_6
                                    replace hx112_7 := (HB.out.cell (World.block_lt_of_cell? w _ hx112_7)).trans hx112_7
                                    replace hx112_8 := (HB.out.cell (World.block_lt_of_cell? w _ hx112_8)).trans hx112_8
                                    replace hx112_9 := (HB.out.cell (World.block_lt_of_cell? w _ hx112_9)).trans hx112_9
                                    replace hx112_10 := (HB.out.cell (World.block_lt_of_cell? w _ hx112_10)).trans hx112_10
                                    replace hx112_11 := (HB.out.cell (World.block_lt_of_cell? w _ hx112_11)).trans hx112_11
                                    replace hx112_12 := (HB.out.cell (World.block_lt_of_cell? w _ hx112_12)).trans hx112_12
                                    replace hx112_13 := (HB.out.cell (World.block_lt_of_cell? w _ hx112_13)).trans hx112_13
                                    replace hx112_14 := (HB.out.cell (World.block_lt_of_cell? w _ hx112_14)).trans hx112_14
                                    replace hx112_15 := (HB.out.cell (World.block_lt_of_cell? w _ hx112_15)).trans hx112_15
                                    replace hx112_16 := (HB.out.cell (World.block_lt_of_cell? w _ hx112_16)).trans hx112_16
                                    replace hx112_17 := (HB.out.cell (World.block_lt_of_cell? w _ hx112_17)).trans hx112_17
                                    have HR112_7 := Aside0.mk hi112_7
                                    have HC112_7 := Aside0.mk hl112_7
                                    clear hi112_7 hl112_7
                                    have HR112_9 := Aside0.mk hi112_9
                                    have HC112_9 := Aside0.mk hl112_9
                                    clear hi112_9 hl112_9
                                    have HR112_15 := Aside0.mk hi112_15
                                    have HC112_15 := Aside0.mk hl112_15
                                    clear hi112_15 hl112_15
                                    have HR112_16 := Aside0.mk hi112_16
                                    have HC112_16 := Aside0.mk hl112_16
                                    clear hi112_16 hl112_16
                                    have HR112_17 := Aside0.mk hi112_17
                                    have HC112_17 := Aside0.mk hl112_17
                                    clear hi112_17 hl112_17
                                    replace p112 := eq_true p112
                                    replace q112 := eq_true q112
                                    have ea_ := Option.some.inj (hx109_7.symm.trans hx112_7)
                                    injection ea_ with ea_ en_ ec_
                                    subst ea_
                                    subst ec_
                                    clear en_
                                    have ea_ := Option.some.inj (hx109_9.symm.trans hx112_9)
                                    injection ea_ with ea_ en_ ec_
                                    subst ea_
                                    subst ec_
                                    clear en_
                                    have ea_ := Option.some.inj (hx109_15.symm.trans hx112_15)
                                    injection ea_ with ea_ en_ ec_
                                    subst ea_
                                    subst ec_
                                    clear en_
                                    have ea_ := Option.some.inj (hx109_16.symm.trans hx112_16)
                                    injection ea_ with ea_ en_ ec_
                                    subst ea_
                                    subst ec_
                                    clear en_
                                    have ea_ := Option.some.inj (hx109_17.symm.trans hx112_17)
                                    injection ea_ with ea_ en_ ec_
                                    subst ea_
                                    subst ec_
                                    clear en_
                                    have p113 : 0 ≤ (x8_3 : Int) := of_decide_eq_true (by first | (with_reducible assumption) | assumption)
                                    have q113 : x8_3 < (((rd_T61 l0_5 x6_2).f0).length : Int) := of_decide_eq_true (by first | (with_reducible assumption) | assumption)
                                    obtain ⟨ad113, A113_7, c113_7, A113_9, c113_9, A113_15, c113_15, A113_16, c113_16, A113_17, c113_17, e113, hx113_0, hx113_1, hx113_2, hx113_3, hx113_4, hx113_5, hx113_6, hx113_7, hx113_8, hx113_9, hx113_10, hx113_11, hx113_12, hx113_13, hx113_14, hx113_15, hx113_16, hx113_17, hl113_7, hi113_7, hl113_9, hi113_9, hl113_15, hi113_15, hl113_16, hi113_16, hl113_17, hi113_17⟩ := at_T69 HR108_0.out x8_3 p113 q113
                                    obtain rfl : ad109 = ad113 := (by injection e113)
                                    replace hx113_0 := (HB.out.cell (World.block_lt_of_cell? w _ hx113_0)).trans hx113_0
                                    replace hx113_1 := (HB.out.cell (World.block_lt_of_cell? w _ hx113_1)).trans hx113_1
                                    replace hx113_2 := (HB.out.cell (World.block_lt_of_cell? w _ hx113_2)).trans hx113_2
                                    replace hx113_3 := (HB.out.cell (World.block_lt_of_cell? w _ hx113_3)).trans hx113_3
                                    replace hx113_4 := (HB.out.cell (World.block_lt_of_cell? w _ hx113_4)).trans hx113_4
                                    replace hx113_5 := (HB.out.cell (World.block_lt_of_cell? w _ hx113_5)).trans hx113_5
                                    replace hx113_6 := (HB.out.cell (World.block_lt_of_cell? w _ hx113_6)).trans hx113_6
                                    replace hx113_7 := (HB.out.cell (World.block_lt_of_cell? w _ hx113_7)).trans hx113_7
                                    replace hx113_8 := (HB.out.cell (World.block_lt_of_cell? w _ hx113_8)).trans hx113_8
                                    replace hx113_9 := (HB.out.cell (World.block_lt_of_cell? w _ hx113_9)).trans hx113_9
                                    replace hx113_10 := (HB.out.cell (World.block_lt_of_cell? w _ hx113_10)).trans hx113_10
                                    replace hx113_11 := (HB.out.cell (World.block_lt_of_cell? w _ hx113_11)).trans hx113_11
                                    replace hx113_12 := (HB.out.cell (World.block_lt_of_cell? w _ hx113_12)).trans hx113_12
                                    replace hx113_13 := (HB.out.cell (World.block_lt_of_cell? w _ hx113_13)).trans hx113_13
                                    replace hx113_14 := (HB.out.cell (World.block_lt_of_cell? w _ hx113_14)).trans hx113_14
                                    replace hx113_15 := (HB.out.cell (World.block_lt_of_cell? w _ hx113_15)).trans hx113_15
                                    replace hx113_16 := (HB.out.cell (World.block_lt_of_cell? w _ hx113_16)).trans hx113_16
                                    replace hx113_17 := (HB.out.cell (World.block_lt_of_cell? w _ hx113_17)).trans hx113_17
                                    have HR113_7 := Aside0.mk hi113_7
                                    have HC113_7 := Aside0.mk hl113_7
                                    clear hi113_7 hl113_7
                                    have HR113_9 := Aside0.mk hi113_9
                                    have HC113_9 := Aside0.mk hl113_9
                                    clear hi113_9 hl113_9
                                    have HR113_15 := Aside0.mk hi113_15
                                    have HC113_15 := Aside0.mk hl113_15
                                    clear hi113_15 hl113_15
                                    have HR113_16 := Aside0.mk hi113_16
                                    have HC113_16 := Aside0.mk hl113_16
                                    clear hi113_16 hl113_16
                                    have HR113_17 := Aside0.mk hi113_17
                                    have HC113_17 := Aside0.mk hl113_17
                                    clear hi113_17 hl113_17
                                    replace p113 := eq_true p113
                                    replace q113 := eq_true q113
                                    have ea_ := Option.some.inj (hx109_7.symm.trans hx113_7)
                                    injection ea_ with ea_ en_ ec_
                                    subst ea_
                                    subst ec_
                                    clear en_
                                    have ea_ := Option.some.inj (hx109_9.symm.trans hx113_9)
                                    injection ea_ with ea_ en_ ec_
                                    subst ea_
                                    subst ec_
                                    clear en_
                                    have ea_ := Option.some.inj (hx109_15.symm.trans hx113_15)
                                    injection ea_ with ea_ en_ ec_
                                    subst ea_
                                    subst ec_
                                    clear en_
                                    have ea_ := Option.some.inj (hx109_16.symm.trans hx113_16)
                                    injection ea_ with ea_ en_ ec_
                                    subst ea_
                                    subst ec_
                                    clear en_
                                    have ea_ := Option.some.inj (hx109_17.symm.trans hx113_17)
                                    injection ea_ with ea_ en_ ec_
                                    subst ea_
                                    subst ec_
                                    clear en_
                                    go_wp2
                                    go_meet
                                    case rel => exact ⟨_, ((((rd_T69 ((rd_T61 l0_5 x6_2).f0) x8_3).f0) == 9)), (by first | rfl | (simp; done) | (simp [*]; done)), H', ⟨by have := HK1.out; have := HK2.out; have := HK3.out; first | omega | exact Nat.le_refl _⟩, ⟨by (with_reducible repeat (first | apply Kd.R_alloc | apply Kd.R_drewN | apply Kd.R_drew)); exact HO_3.out⟩, ⟨by (with_reducible repeat (first | refine blk_drewN ?_ _ | refine blk_drew ?_ | refine blk_alloc ?_ _)); exact BK103.out⟩, ⟨by repeat (first | (with_reducible first | exact HB.out | apply below_alloc | apply pw_below_drewN | apply below_drew1 | refine below_set ?_ GE103.out) | exact HB.out)⟩⟩
                          · rw [if_neg c11] at H
                            exact absurd H (by simp)
                        case rest =>
                          clear HC10
                          try clear c1
                          try clear p1
                          try clear q1
                          try clear hx1
                          try clear p2
                          try clear c10
                          try clear p10
                          try clear q10
                          try clear hx10
                          try clear c11
                          try clear p11
                          try clear q11
                          try clear hx11
                          try clear c14
                          try clear c14b0
                          try clear c14b1
                          try clear c15
                          try clear c15b0
                          try clear c15b1
                          try clear hx109_0
                          try clear hx109_1
                          try clear hx109_10
                          try clear hx109_11
                          try clear hx109_12
                          try clear hx109_13
                          try clear hx109_14
                          try clear hx109_15
                          try clear hx109_16
                          try clear hx109_17
                          try clear hx109_2
                          try clear hx109_3
                          try clear hx109_4
                          try clear hx109_5
                          try clear hx109_6
                          try clear hx109_7
                          try clear hx109_8
                          try clear hx109_9
                          try clear hx110_0
                          try clear hx110_1
                          try clear hx110_10
                          try clear hx110_11
                          try clear hx110_12
                          try clear hx110_13
                          try clear hx110_14
                          try clear hx110_15
                          try clear hx110_16
                          try clear hx110_17
                          try clear hx110_2
                          try clear hx110_3
                          try clear hx110_4
                          try clear hx110_5
                          try clear hx110_6
                          try clear hx110_7
                          try clear hx110_8
                          try clear hx110_9
                          try clear hx111_0
                          try clear hx111_1
                          try clear hx111_10
                          try clear hx111_11
                          try clear hx111_12
                          try clear hx111_13
                          try clear hx111_14
                          try clear hx111_15
                          try clear hx111_16
                          try clear hx111_17
                          try clear hx111_2
                          try clear hx111_3
                          try clear hx111_4
                          try clear hx111_5
                          try clear hx111_6
                          try clear hx111_7
                          try clear hx111_8
                          try clear hx111_9
                          try clear hx112_0
                          try clear hx112_1
                          try clear hx112_10
                          try clear hx112_11
                          try clear hx112_12
                          try clear hx112_13
                          try clear hx112_14
                          try clear hx112_15
                          try clear hx112_16
                          try clear hx112_17
                          try clear hx112_2
                          try clear hx112_3
                          try clear hx112_4
                          try clear hx112_5
                          try clear hx112_6
                          try clear hx112_7
                          try clear hx112_8
                          try clear hx112_9
                          try clear hx113_0
                          try clear hx113_1
                          try clear hx113_10
                          try clear hx113_11
                          try clear hx113_12
                          try clear hx113_13
                          try clear hx113_14
                          try clear hx113_15
                          try clear hx113_16
                          try clear hx113_17
                          try clear hx113_2
                          try clear hx113_3
                          try clear hx113_4
                          try clear hx113_5
                          try clear hx113_6
                          try clear hx113_7
                          try clear hx113_8
                          try clear hx113_9
                          try clear p109
                          try clear p110
                          try clear p111
                          try clear p112
                          try clear p113
                          try clear q109
                          try clear q110
                          try clear q111
                          try clear q112
                          try clear q113
                          obtain ⟨kq, x9_9, rfl, HA, HJ9, HO_3, BK103, HB⟩ := hcut
                          cases kq with
                          | zero => exact absurd HA.out (by simp [ferruleref15_Plain.j3])
                          | succ kj9 =>
                            have H := HA.out
                            clear HA
                            simp only [ferruleref15_Plain.j3] at H
                            by_cases c16 : x9_9 = true
                            · subst c16
                              have H1 : (if 0 ≤ x8_3 then (if x8_3 < (((rd_T61 l0_5 x6_2).f0).length : Int) then ((ferruleref15_made.f ((rd_T69 ((rd_T61 l0_5 x6_2).f0) x8_3).f4.f0) ((rd_T69 ((rd_T61 l0_5 x6_2).f0) x8_3).f4.f1) x4_1).bind fun t115 => (if t115 = true then (ferruleref15_Plain.l2 kj9 x3_1 x4_1 false x6_2 ((rd_T61 l0_5 x6_2).f0) (wrap64 (x8_3 + 1)) a0_0 l0_1 a0_2 a0_3 a0_4 l0_5) else (if ((rd_T69 ((rd_T61 l0_5 x6_2).f0) x8_3).f0) = 5 then ((ferruleref15_made.f ((rd_T69 ((rd_T61 l0_5 x6_2).f0) x8_3).f5.f0) ((rd_T69 ((rd_T61 l0_5 x6_2).f0) x8_3).f5.f1) x4_1).bind fun t118 => (if t118 = true then (ferruleref15_Plain.l2 kj9 x3_1 x4_1 false x6_2 ((rd_T61 l0_5 x6_2).f0) (wrap64 (x8_3 + 1)) a0_0 l0_1 a0_2 a0_3 a0_4 l0_5) else (ferruleref15_Plain.l2 kj9 x3_1 x4_1 x5_3 x6_2 ((rd_T61 l0_5 x6_2).f0) (wrap64 (x8_3 + 1)) a0_0 l0_1 a0_2 a0_3 a0_4 l0_5))) else (ferruleref15_Plain.l2 kj9 x3_1 x4_1 x5_3 x6_2 ((rd_T61 l0_5 x6_2).f0) (wrap64 (x8_3 + 1)) a0_0 l0_1 a0_2 a0_3 a0_4 l0_5)))) else (none)) else (none)) = some r := by rw [if_pos rfl] at H; exact H
                              clear H
                              have H := H1
                              clear H1
                              by_cases c17 : 0 ≤ x8_3
                              · rw [if_pos c17] at H
                                have c17b0 : decide (0 ≤ x8_3) = true := decide_eq_true c17
                                clear c17
                                by_cases c18 : x8_3 < (((rd_T61 l0_5 x6_2).f0).length : Int)
                                · rw [if_pos c18] at H
                                  have c18b0 : decide (x8_3 < (((rd_T61 l0_5 x6_2).f0).length : Int)) = true := decide_eq_true c18
                                  clear c18
                                  replace H := Option.bind_eq_some_iff.mp H
                                  obtain ⟨t115, A190, H⟩ := H
                                  replace H : (if t115 = true then (ferruleref15_Plain.l2 kj9 x3_1 x4_1 false x6_2 ((rd_T61 l0_5 x6_2).f0) (wrap64 (x8_3 + 1)) a0_0 l0_1 a0_2 a0_3 a0_4 l0_5) else (if ((rd_T69 ((rd_T61 l0_5 x6_2).f0) x8_3).f0) = 5 then ((ferruleref15_made.f ((rd_T69 ((rd_T61 l0_5 x6_2).f0) x8_3).f5.f0) ((rd_T69 ((rd_T61 l0_5 x6_2).f0) x8_3).f5.f1) x4_1).bind fun t118 => (if t118 = true then (ferruleref15_Plain.l2 kj9 x3_1 x4_1 false x6_2 ((rd_T61 l0_5 x6_2).f0) (wrap64 (x8_3 + 1)) a0_0 l0_1 a0_2 a0_3 a0_4 l0_5) else (ferruleref15_Plain.l2 kj9 x3_1 x4_1 x5_3 x6_2 ((rd_T61 l0_5 x6_2).f0) (wrap64 (x8_3 + 1)) a0_0 l0_1 a0_2 a0_3 a0_4 l0_5))) else (ferruleref15_Plain.l2 kj9 x3_1 x4_1 x5_3 x6_2 ((rd_T61 l0_5 x6_2).f0) (wrap64 (x8_3 + 1)) a0_0 l0_1 a0_2 a0_3 a0_4 l0_5))) = some r := H
                                  have A19 := Aside0.mk A190
                                  clear A190
                                  by_cases c20 : t115 = true
                                  · subst c20
                                    have H1 : (ferruleref15_Plain.l2 kj9 x3_1 x4_1 false x6_2 ((rd_T61 l0_5 x6_2).f0) (wrap64 (x8_3 + 1)) a0_0 l0_1 a0_2 a0_3 a0_4 l0_5) = some r := by rw [if_pos rfl] at H; exact H
                                    clear H
                                    have H := H1
                                    clear H1
                                    have H' := Aside0.mk H
                                    clear H
                                    have p114 : 0 ≤ (x8_3 : Int) := of_decide_eq_true (by first | (with_reducible assumption) | assumption)
                                    have q114 : x8_3 < (((rd_T61 l0_5 x6_2).f0).length : Int) := of_decide_eq_true (by first | (with_reducible assumption) | assumption)
                                    obtain ⟨ad114, A114_7, c114_7, A114_9, c114_9, A114_15, c114_15, A114_16, c114_16, A114_17, c114_17, e114, hx114_0, hx114_1, hx114_2, hx114_3, hx114_4, hx114_5, hx114_6, hx114_7, hx114_8, hx114_9, hx114_10, hx114_11, hx114_12, hx114_13, hx114_14, hx114_15, hx114_16, hx114_17, hl114_7, hi114_7, hl114_9, hi114_9, hl114_15, hi114_15, hl114_16, hi114_16, hl114_17, hi114_17⟩ := at_T69 HR108_0.out x8_3 p114 q114
                                    cases e114
                                    replace hx114_0 := (HB.out.cell (World.block_lt_of_cell? w _ hx114_0)).trans hx114_0
                                    replace hx114_1 := (HB.out.cell (World.block_lt_of_cell? w _ hx114_1)).trans hx114_1
                                    replace hx114_2 := (HB.out.cell (World.block_lt_of_cell? w _ hx114_2)).trans hx114_2
                                    replace hx114_3 := (HB.out.cell (World.block_lt_of_cell? w _ hx114_3)).trans hx114_3
                                    replace hx114_4 := (HB.out.cell (World.block_lt_of_cell? w _ hx114_4)).trans hx114_4
                                    replace hx114_5 := (HB.out.cell (World.block_lt_of_cell? w _ hx114_5)).trans hx114_5
                                    replace hx114_6 := (HB.out.cell (World.block_lt_of_cell? w _ hx114_6)).trans hx114_6
                                    replace hx114_7 := (HB.out.cell (World.block_lt_of_cell? w _ hx114_7)).trans hx114_7
                                    replace hx114_8 := (HB.out.cell (World.block_lt_of_cell? w _ hx114_8)).trans hx114_8
                                    replace hx114_9 := (HB.out.cell (World.block_lt_of_cell? w _ hx114_9)).trans hx114_9
                                    replace hx114_10 := (HB.out.cell (World.block_lt_of_cell? w _ hx114_10)).trans hx114_10
                                    replace hx114_11 := (HB.out.cell (World.block_lt_of_cell? w _ hx114_11)).trans hx114_11
                                    replace hx114_12 := (HB.out.cell (World.block_lt_of_cell? w _ hx114_12)).trans hx114_12
                                    replace hx114_13 := (HB.out.cell (World.block_lt_of_cell? w _ hx114_13)).trans hx114_13
                                    replace hx114_14 := (HB.out.cell (World.block_lt_of_cell? w _ hx114_14)).trans hx114_14
                                    replace hx114_15 := (HB.out.cell (World.block_lt_of_cell? w _ hx114_15)).trans hx114_15
                                    replace hx114_16 := (HB.out.cell (World.block_lt_of_cell? w _ hx114_16)).trans hx114_16
                                    replace hx114_17 := (HB.out.cell (World.block_lt_of_cell? w _ hx114_17)).trans hx114_17
                                    have HR114_7 := Aside0.mk hi114_7
                                    have HC114_7 := Aside0.mk hl114_7
                                    clear hi114_7 hl114_7
                                    have HR114_9 := Aside0.mk hi114_9
                                    have HC114_9 := Aside0.mk hl114_9
                                    clear hi114_9 hl114_9
                                    have HR114_15 := Aside0.mk hi114_15
                                    have HC114_15 := Aside0.mk hl114_15
                                    clear hi114_15 hl114_15
                                    have HR114_16 := Aside0.mk hi114_16
                                    have HC114_16 := Aside0.mk hl114_16
                                    clear hi114_16 hl114_16
                                    have HR114_17 := Aside0.mk hi114_17
                                    have HC114_17 := Aside0.mk hl114_17
                                    clear hi114_17 hl114_17
                                    replace p114 := eq_true p114
                                    replace q114 := eq_true q114
                                    go_wp2_with (first | (go_at_call 22; (with_reducible refine (ferruleref15_made.calls ((rd_T69 ((rd_T61 l0_5 x6_2).f0) x8_3).f4.f0) _ _ ((rd_T69 ((rd_T61 l0_5 x6_2).f0) x8_3).f4.f1) x4_1 true _ ?side1 ?side2 A19.out).mono ?_); (case side1 => repeat (first | exact (Kd.C_below HR114_7.out HB.out) | (with_reducible refine Kd.C_alloc ?_ _) | (with_reducible refine Kd.C_drewN ?_ _) | (with_reducible refine Kd.C_drew ?_))); (case side2 => exact HC114_7.out); rintro e w21 ⟨rfl, hb⟩; have n0_ := Aside0.mk (Kd.R_below (by (with_reducible repeat (first | apply Kd.R_alloc | apply Kd.R_drewN | apply Kd.R_drew)); exact HO_3.out) hb); have n1_ := Aside0.mk (blk_below (g := gb103) (o := .cells #[.string a0_0, .slice (some ad104) l0_1.length c0_1, .int .i64 a0_2, .int .i64 a0_3, .bool a0_4, .slice (some ad108) l0_5.length c0_5] 40 (0, 0)) (by (with_reducible repeat (first | refine blk_drewN ?_ _ | refine blk_drew ?_ | refine blk_alloc ?_ _)); exact BK103.out) hb); have n2_ := Aside0.mk (below_step (by repeat (first | (with_reducible first | exact HB.out | apply below_alloc | apply pw_below_drewN | apply below_drew1 | refine below_set ?_ GE103.out) | exact HB.out)) hb); clear HO_3; clear BK103; clear HB; have HO_3 := n0_; have BK103 := n1_; have HB := n2_; clear n0_ n1_ n2_; (try clear hb); (try clear hb2); (try clear hk); (try clear hi)))
                                    go_roundg kj9
                                    case measure => have := HK1.out; have := HK2.out; have := HK3.out; have := HJ9.out; omega
                                    case rel => exact ⟨(false), (wrap64 (x8_3 + 1)), (by first | rfl | (simp; done) | (simp [*]; done)), (by first | rfl | (simp; done) | (simp [*]; done)), H', ⟨by have := HK1.out; have := HK2.out; have := HK3.out; have := HJ9.out; omega⟩, ⟨by (with_reducible repeat (first | apply Kd.R_alloc | apply Kd.R_drewN | apply Kd.R_drew)); exact HO_3.out⟩, ⟨by (with_reducible repeat (first | refine blk_drewN ?_ _ | refine blk_drew ?_ | refine blk_alloc ?_ _)); exact BK103.out⟩, ⟨by repeat (first | (with_reducible first | exact HB.out | apply below_alloc | apply pw_below_drewN | apply below_drew1 | refine below_set ?_ GE103.out) | exact HB.out)⟩⟩
                                  · replace c20 := Bool.eq_false_iff.mpr c20
                                    subst c20
                                    have H1 : (if ((rd_T69 ((rd_T61 l0_5 x6_2).f0) x8_3).f0) = 5 then ((ferruleref15_made.f ((rd_T69 ((rd_T61 l0_5 x6_2).f0) x8_3).f5.f0) ((rd_T69 ((rd_T61 l0_5 x6_2).f0) x8_3).f5.f1) x4_1).bind fun t118 => (if t118 = true then (ferruleref15_Plain.l2 kj9 x3_1 x4_1 false x6_2 ((rd_T61 l0_5 x6_2).f0) (wrap64 (x8_3 + 1)) a0_0 l0_1 a0_2 a0_3 a0_4 l0_5) else (ferruleref15_Plain.l2 kj9 x3_1 x4_1 x5_3 x6_2 ((rd_T61 l0_5 x6_2).f0) (wrap64 (x8_3 + 1)) a0_0 l0_1 a0_2 a0_3 a0_4 l0_5))) else (ferruleref15_Plain.l2 kj9 x3_1 x4_1 x5_3 x6_2 ((rd_T61 l0_5 x6_2).f0) (wrap64 (x8_3 + 1)) a0_0 l0_1 a0_2 a0_3 a0_4 l0_5)) = some r := by rw [if_neg (show ¬ (false = true) by decide)] at H; exact H
                                    clear H
                                    have H := H1
                                    clear H1
                                    by_cases c22 : ((rd_T69 ((rd_T61 l0_5 x6_2).f0) x8_3).f0) = 5
                                    · rw [if_pos c22] at H
                                      have c22b0 : (((rd_T69 ((rd_T61 l0_5 x6_2).f0) x8_3).f0) == 5) = true := beq_iff_eq.mpr c22
                                      have c22b1 : (((rd_T69 ((rd_T61 l0_5 x6_2).f0) x8_3).f0) != 5) = false := bne_eq_false_iff_eq.mpr c22
                                      clear c22
                                      replace H := Option.bind_eq_some_iff.mp H
                                      obtain ⟨t118, A230, H⟩ := H
                                      replace H : (if t118 = true then (ferruleref15_Plain.l2 kj9 x3_1 x4_1 false x6_2 ((rd_T61 l0_5 x6_2).f0) (wrap64 (x8_3 + 1)) a0_0 l0_1 a0_2 a0_3 a0_4 l0_5) else (ferruleref15_Plain.l2 kj9 x3_1 x4_1 x5_3 x6_2 ((rd_T61 l0_5 x6_2).f0) (wrap64 (x8_3 + 1)) a0_0 l0_1 a0_2 a0_3 a0_4 l0_5)) = some r := H
                                      have A23 := Aside0.mk A230
                                      clear A230
                                      by_cases c24 : t118 = true
                                      · subst c24
                                        have H1 : (ferruleref15_Plain.l2 kj9 x3_1 x4_1 false x6_2 ((rd_T61 l0_5 x6_2).f0) (wrap64 (x8_3 + 1)) a0_0 l0_1 a0_2 a0_3 a0_4 l0_5) = some r := by rw [if_pos rfl] at H; exact H
                                        clear H
                                        have H := H1
                                        clear H1
                                        have H' := Aside0.mk H
                                        clear H
                                        have p114 : 0 ≤ (x8_3 : Int) := of_decide_eq_true (by first | (with_reducible assumption) | assumption)
                                        have q114 : x8_3 < (((rd_T61 l0_5 x6_2).f0).length : Int) := of_decide_eq_true (by first | (with_reducible assumption) | assumption)
                                        obtain ⟨ad114, A114_7, c114_7, A114_9, c114_9, A114_15, c114_15, A114_16, c114_16, A114_17, c114_17, e114, hx114_0, hx114_1, hx114_2, hx114_3, hx114_4, hx114_5, hx114_6, hx114_7, hx114_8, hx114_9, hx114_10, hx114_11, hx114_12, hx114_13, hx114_14, hx114_15, hx114_16, hx114_17, hl114_7, hi114_7, hl114_9, hi114_9, hl114_15, hi114_15, hl114_16, hi114_16, hl114_17, hi114_17⟩ := at_T69 HR108_0.out x8_3 p114 q114
                                        cases e114
                                        replace hx114_0 := (HB.out.cell (World.block_lt_of_cell? w _ hx114_0)).trans hx114_0
                                        replace hx114_1 := (HB.out.cell (World.block_lt_of_cell? w _ hx114_1)).trans hx114_1
                                        replace hx114_2 := (HB.out.cell (World.block_lt_of_cell? w _ hx114_2)).trans hx114_2
                                        replace hx114_3 := (HB.out.cell (World.block_lt_of_cell? w _ hx114_3)).trans hx114_3
                                        replace hx114_4 := (HB.out.cell (World.block_lt_of_cell? w _ hx114_4)).trans hx114_4
                                        replace hx114_5 := (HB.out.cell (World.block_lt_of_cell? w _ hx114_5)).trans hx114_5
                                        replace hx114_6 := (HB.out.cell (World.block_lt_of_cell? w _ hx114_6)).trans hx114_6
                                        replace hx114_7 := (HB.out.cell (World.block_lt_of_cell? w _ hx114_7)).trans hx114_7
                                        replace hx114_8 := (HB.out.cell (World.block_lt_of_cell? w _ hx114_8)).trans hx114_8
                                        replace hx114_9 := (HB.out.cell (World.block_lt_of_cell? w _ hx114_9)).trans hx114_9
                                        replace hx114_10 := (HB.out.cell (World.block_lt_of_cell? w _ hx114_10)).trans hx114_10
                                        replace hx114_11 := (HB.out.cell (World.block_lt_of_cell? w _ hx114_11)).trans hx114_11
                                        replace hx114_12 := (HB.out.cell (World.block_lt_of_cell? w _ hx114_12)).trans hx114_12
                                        replace hx114_13 := (HB.out.cell (World.block_lt_of_cell? w _ hx114_13)).trans hx114_13
                                        replace hx114_14 := (HB.out.cell (World.block_lt_of_cell? w _ hx114_14)).trans hx114_14
                                        replace hx114_15 := (HB.out.cell (World.block_lt_of_cell? w _ hx114_15)).trans hx114_15
                                        replace hx114_16 := (HB.out.cell (World.block_lt_of_cell? w _ hx114_16)).trans hx114_16
                                        replace hx114_17 := (HB.out.cell (World.block_lt_of_cell? w _ hx114_17)).trans hx114_17
                                        have HR114_7 := Aside0.mk hi114_7
                                        have HC114_7 := Aside0.mk hl114_7
                                        clear hi114_7 hl114_7
                                        have HR114_9 := Aside0.mk hi114_9
                                        have HC114_9 := Aside0.mk hl114_9
                                        clear hi114_9 hl114_9
                                        have HR114_15 := Aside0.mk hi114_15
                                        have HC114_15 := Aside0.mk hl114_15
                                        clear hi114_15 hl114_15
                                        have HR114_16 := Aside0.mk hi114_16
                                        have HC114_16 := Aside0.mk hl114_16
                                        clear hi114_16 hl114_16
                                        have HR114_17 := Aside0.mk hi114_17
                                        have HC114_17 := Aside0.mk hl114_17
                                        clear hi114_17 hl114_17
                                        replace p114 := eq_true p114
                                        replace q114 := eq_true q114
                                        go_wp2_with (first | (go_at_call 22; (with_reducible refine (ferruleref15_made.calls ((rd_T69 ((rd_T61 l0_5 x6_2).f0) x8_3).f4.f0) _ _ ((rd_T69 ((rd_T61 l0_5 x6_2).f0) x8_3).f4.f1) x4_1 false _ ?side1 ?side2 A19.out).mono ?_); (case side1 => repeat (first | exact (Kd.C_below HR114_7.out HB.out) | (with_reducible refine Kd.C_alloc ?_ _) | (with_reducible refine Kd.C_drewN ?_ _) | (with_reducible refine Kd.C_drew ?_))); (case side2 => exact HC114_7.out); rintro e w25 ⟨rfl, hb⟩; have n0_ := Aside0.mk (Kd.R_below (by (with_reducible repeat (first | apply Kd.R_alloc | apply Kd.R_drewN | apply Kd.R_drew)); exact HO_3.out) hb); have n1_ := Aside0.mk (blk_below (g := gb103) (o := .cells #[.string a0_0, .slice (some ad104) l0_1.length c0_1, .int .i64 a0_2, .int .i64 a0_3, .bool a0_4, .slice (some ad108) l0_5.length c0_5] 40 (0, 0)) (by (with_reducible repeat (first | refine blk_drewN ?_ _ | refine blk_drew ?_ | refine blk_alloc ?_ _)); exact BK103.out) hb); have n2_ := Aside0.mk (below_step (by repeat (first | (with_reducible first | exact HB.out | apply below_alloc | apply pw_below_drewN | apply below_drew1 | refine below_set ?_ GE103.out) | exact HB.out)) hb); clear HO_3; clear BK103; clear HB; have HO_3 := n0_; have BK103 := n1_; have HB := n2_; clear n0_ n1_ n2_; (try clear hb); (try clear hb2); (try clear hk); (try clear hi); have p116 : 0 ≤ (x8_3 : Int) := of_decide_eq_true (by first | (with_reducible assumption) | assumption); have q116 : x8_3 < (((rd_T61 l0_5 x6_2).f0).length : Int) := of_decide_eq_true (by first | (with_reducible assumption) | assumption); obtain ⟨ad116, A116_7, c116_7, A116_9, c116_9, A116_15, c116_15, A116_16, c116_16, A116_17, c116_17, e116, hx116_0, hx116_1, hx116_2, hx116_3, hx116_4, hx116_5, hx116_6, hx116_7, hx116_8, hx116_9, hx116_10, hx116_11, hx116_12, hx116_13, hx116_14, hx116_15, hx116_16, hx116_17, hl116_7, hi116_7, hl116_9, hi116_9, hl116_15, hi116_15, hl116_16, hi116_16, hl116_17, hi116_17⟩ := at_T69 HR108_0.out x8_3 p116 q116; obtain rfl : ad114 = ad116 := (by injection e116); replace hx116_0 := (HB.out.cell (World.block_lt_of_cell? w _ hx116_0)).trans hx116_0; replace hx116_1 := (HB.out.cell (World.block_lt_of_cell? w _ hx116_1)).trans hx116_1; replace hx116_2 := (HB.out.cell (World.block_lt_of_cell? w _ hx116_2)).trans hx116_2; replace hx116_3 := (HB.out.cell (World.block_lt_of_cell? w _ hx116_3)).trans hx116_3; replace hx116_4 := (HB.out.cell (World.block_lt_of_cell? w _ hx116_4)).trans hx116_4; replace hx116_5 := (HB.out.cell (World.block_lt_of_cell? w _ hx116_5)).trans hx116_5; replace hx116_6 := (HB.out.cell (World.block_lt_of_cell? w _ hx116_6)).trans hx116_6; replace hx116_7 := (HB.out.cell (World.block_lt_of_cell? w _ hx116_7)).trans hx116_7; replace hx116_8 := (HB.out.cell (World.block_lt_of_cell? w _ hx116_8)).trans hx116_8; replace hx116_9 := (HB.out.cell (World.block_lt_of_cell? w _ hx116_9)).trans hx116_9; replace hx116_10 := (HB.out.cell (World.block_lt_of_cell? w _ hx116_10)).trans hx116_10; replace hx116_11 := (HB.out.cell (World.block_lt_of_cell? w _ hx116_11)).trans hx116_11; replace hx116_12 := (HB.out.cell (World.block_lt_of_cell? w _ hx116_12)).trans hx116_12; replace hx116_13 := (HB.out.cell (World.block_lt_of_cell? w _ hx116_13)).trans hx116_13; replace hx116_14 := (HB.out.cell (World.block_lt_of_cell? w _ hx116_14)).trans hx116_14; replace hx116_15 := (HB.out.cell (World.block_lt_of_cell? w _ hx116_15)).trans hx116_15; replace hx116_16 := (HB.out.cell (World.block_lt_of_cell? w _ hx116_16)).trans hx116_16; replace hx116_17 := (HB.out.cell (World.block_lt_of_cell? w _ hx116_17)).trans hx116_17; have HR116_7 := Aside0.mk hi116_7; have HC116_7 := Aside0.mk hl116_7; clear hi116_7 hl116_7; have HR116_9 := Aside0.mk hi116_9; have HC116_9 := Aside0.mk hl116_9; clear hi116_9 hl116_9; have HR116_15 := Aside0.mk hi116_15; have HC116_15 := Aside0.mk hl116_15; clear hi116_15 hl116_15; have HR116_16 := Aside0.mk hi116_16; have HC116_16 := Aside0.mk hl116_16; clear hi116_16 hl116_16; have HR116_17 := Aside0.mk hi116_17; have HC116_17 := Aside0.mk hl116_17; clear hi116_17 hl116_17; replace p116 := eq_true p116; replace q116 := eq_true q116; have p117 : 0 ≤ (x8_3 : Int) := of_decide_eq_true (by first | (with_reducible assumption) | assumption); have q117 : x8_3 < (((rd_T61 l0_5 x6_2).f0).length : Int) := of_decide_eq_true (by first | (with_reducible assumption) | assumption); obtain ⟨ad117, A117_7, c117_7, A117_9, c117_9, A117_15, c117_15, A117_16, c117_16, A117_17, c117_17, e117, hx117_0, hx117_1, hx117_2, hx117_3, hx117_4, hx117_5, hx117_6, hx117_7, hx117_8, hx117_9, hx117_10, hx117_11, hx117_12, hx117_13, hx117_14, hx117_15, hx117_16, hx117_17, hl117_7, hi117_7, hl117_9, hi117_9, hl117_15, hi117_15, hl117_16, hi117_16, hl117_17, hi117_17⟩ := at_T69 HR108_0.out x8_3 p117 q117; obtain rfl : ad114 = ad117 := (by injection e117); replace hx117_0 := (HB.out.cell (World.block_lt_of_cell? w _ hx117_0)).trans hx117_0; replace hx117_1 := (HB.out.cell (World.block_lt_of_cell? w _ hx117_1)).trans hx117_1; replace hx117_2 := (HB.out.cell (World.block_lt_of_cell? w _ hx117_2)).trans hx117_2; replace hx117_3 := (HB.out.cell (World.block_lt_of_cell? w _ hx117_3)).trans hx117_3; replace hx117_4 := (HB.out.cell (World.block_lt_of_cell? w _ hx117_4)).trans hx117_4; replace hx117_5 := (HB.out.cell (World.block_lt_of_cell? w _ hx117_5)).trans hx117_5; replace hx117_6 := (HB.out.cell (World.block_lt_of_cell? w _ hx117_6)).trans hx117_6; replace hx117_7 := (HB.out.cell (World.block_lt_of_cell? w _ hx117_7)).trans hx117_7; replace hx117_8 := (HB.out.cell (World.block_lt_of_cell? w _ hx117_8)).trans hx117_8; replace hx117_9 := (HB.out.cell (World.block_lt_of_cell? w _ hx117_9)).trans hx117_9; replace hx117_10 := (HB.out.cell (World.block_lt_of_cell? w _ hx117_10)).trans hx117_10; replace hx117_11 := (HB.out.cell (World.block_lt_of_cell? w _ hx117_11)).trans hx117_11; replace hx117_12 := (HB.out.cell (World.block_lt_of_cell? w _ hx117_12)).trans hx117_12; replace hx117_13 := (HB.out.cell (World.block_lt_of_cell? w _ hx117_13)).trans hx117_13; replace hx117_14 := (HB.out.cell (World.block_lt_of_cell? w _ hx117_14)).trans hx117_14; replace hx117_15 := (HB.out.cell (World.block_lt_of_cell? w _ hx117_15)).trans hx117_15; replace hx117_16 := (HB.out.cell (World.block_lt_of_cell? w _ hx117_16)).trans hx117_16; replace hx117_17 := (HB.out.cell (World.block_lt_of_cell? w _ hx117_17)).trans hx117_17; have HR117_7 := Aside0.mk hi117_7; have HC117_7 := Aside0.mk hl117_7; clear hi117_7 hl117_7; have HR117_9 := Aside0.mk hi117_9; have HC117_9 := Aside0.mk hl117_9; clear hi117_9 hl117_9; have HR117_15 := Aside0.mk hi117_15; have HC117_15 := Aside0.mk hl117_15; clear hi117_15 hl117_15; have HR117_16 := Aside0.mk hi117_16; have HC117_16 := Aside0.mk hl117_16; clear hi117_16 hl117_16; have HR117_17 := Aside0.mk hi117_17; have HC117_17 := Aside0.mk hl117_17; clear hi117_17 hl117_17; replace p117 := eq_true p117; replace q117 := eq_true q117; have ea_ := Option.some.inj (hx116_7.symm.trans hx117_7); injection ea_ with ea_ en_ ec_; subst ea_; subst ec_; clear en_; have ea_ := Option.some.inj (hx116_9.symm.trans hx117_9); injection ea_ with ea_ en_ ec_; subst ea_; subst ec_; clear en_; have ea_ := Option.some.inj (hx116_15.symm.trans hx117_15); injection ea_ with ea_ en_ ec_; subst ea_; subst ec_; clear en_; have ea_ := Option.some.inj (hx116_16.symm.trans hx117_16); injection ea_ with ea_ en_ ec_; subst ea_; subst ec_; clear en_; have ea_ := Option.some.inj (hx116_17.symm.trans hx117_17); injection ea_ with ea_ en_ ec_; subst ea_; subst ec_; clear en_) | (go_at_call 22; (with_reducible refine (ferruleref15_made.calls ((rd_T69 ((rd_T61 l0_5 x6_2).f0) x8_3).f5.f0) _ _ ((rd_T69 ((rd_T61 l0_5 x6_2).f0) x8_3).f5.f1) x4_1 true _ ?side1 ?side2 A23.out).mono ?_); (case side1 => repeat (first | exact (Kd.C_below HR117_9.out HB.out) | (with_reducible refine Kd.C_alloc ?_ _) | (with_reducible refine Kd.C_drewN ?_ _) | (with_reducible refine Kd.C_drew ?_))); (case side2 => exact HC117_9.out); rintro e w26 ⟨rfl, hb⟩; have n0_ := Aside0.mk (Kd.R_below (by (with_reducible repeat (first | apply Kd.R_alloc | apply Kd.R_drewN | apply Kd.R_drew)); exact HO_3.out) hb); have n1_ := Aside0.mk (blk_below (g := gb103) (o := .cells #[.string a0_0, .slice (some ad104) l0_1.length c0_1, .int .i64 a0_2, .int .i64 a0_3, .bool a0_4, .slice (some ad108) l0_5.length c0_5] 40 (0, 0)) (by (with_reducible repeat (first | refine blk_drewN ?_ _ | refine blk_drew ?_ | refine blk_alloc ?_ _)); exact BK103.out) hb); have n2_ := Aside0.mk (below_step (by repeat (first | (with_reducible first | exact HB.out | apply below_alloc | apply pw_below_drewN | apply below_drew1 | refine below_set ?_ GE103.out) | exact HB.out)) hb); clear HO_3; clear BK103; clear HB; have HO_3 := n0_; have BK103 := n1_; have HB := n2_; clear n0_ n1_ n2_; (try clear hb); (try clear hb2); (try clear hk); (try clear hi)))
                                        go_roundg kj9
                                        case measure => have := HK1.out; have := HK2.out; have := HK3.out; have := HJ9.out; omega
                                        case rel => exact ⟨(false), (wrap64 (x8_3 + 1)), (by first | rfl | (simp; done) | (simp [*]; done)), (by first | rfl | (simp; done) | (simp [*]; done)), H', ⟨by have := HK1.out; have := HK2.out; have := HK3.out; have := HJ9.out; omega⟩, ⟨by (with_reducible repeat (first | apply Kd.R_alloc | apply Kd.R_drewN | apply Kd.R_drew)); exact HO_3.out⟩, ⟨by (with_reducible repeat (first | refine blk_drewN ?_ _ | refine blk_drew ?_ | refine blk_alloc ?_ _)); exact BK103.out⟩, ⟨by repeat (first | (with_reducible first | exact HB.out | apply below_alloc | apply pw_below_drewN | apply below_drew1 | refine below_set ?_ GE103.out) | exact HB.out)⟩⟩
                                      · replace c24 := Bool.eq_false_iff.mpr c24
                                        subst c24
                                        have H1 : (ferruleref15_Plain.l2 kj9 x3_1 x4_1 x5_3 x6_2 ((rd_T61 l0_5 x6_2).f0) (wrap64 (x8_3 + 1)) a0_0 l0_1 a0_2 a0_3 a0_4 l0_5) = some r := by rw [if_neg (show ¬ (false = true) by decide)] at H; exact H
                                        clear H
                                        have H := H1
                                        clear H1
                                        have H' := Aside0.mk H
                                        clear H
                                        have p114 : 0 ≤ (x8_3 : Int) := of_decide_eq_true (by first | (with_reducible assumption) | assumption)
                                        have q114 : x8_3 < (((rd_T61 l0_5 x6_2).f0).length : Int) := of_decide_eq_true (by first | (with_reducible assumption) | assumption)
                                        obtain ⟨ad114, A114_7, c114_7, A114_9, c114_9, A114_15, c114_15, A114_16, c114_16, A114_17, c114_17, e114, hx114_0, hx114_1, hx114_2, hx114_3, hx114_4, hx114_5, hx114_6, hx114_7, hx114_8, hx114_9, hx114_10, hx114_11, hx114_12, hx114_13, hx114_14, hx114_15, hx114_16, hx114_17, hl114_7, hi114_7, hl114_9, hi114_9, hl114_15, hi114_15, hl114_16, hi114_16, hl114_17, hi114_17⟩ := at_T69 HR108_0.out x8_3 p114 q114
                                        cases e114
                                        replace hx114_0 := (HB.out.cell (World.block_lt_of_cell? w _ hx114_0)).trans hx114_0
                                        replace hx114_1 := (HB.out.cell (World.block_lt_of_cell? w _ hx114_1)).trans hx114_1
                                        replace hx114_2 := (HB.out.cell (World.block_lt_of_cell? w _ hx114_2)).trans hx114_2
                                        replace hx114_3 := (HB.out.cell (World.block_lt_of_cell? w _ hx114_3)).trans hx114_3
                                        replace hx114_4 := (HB.out.cell (World.block_lt_of_cell? w _ hx114_4)).trans hx114_4
                                        replace hx114_5 := (HB.out.cell (World.block_lt_of_cell? w _ hx114_5)).trans hx114_5
                                        replace hx114_6 := (HB.out.cell (World.block_lt_of_cell? w _ hx114_6)).trans hx114_6
                                        replace hx114_7 := (HB.out.cell (World.block_lt_of_cell? w _ hx114_7)).trans hx114_7
                                        replace hx114_8 := (HB.out.cell (World.block_lt_of_cell? w _ hx114_8)).trans hx114_8
                                        replace hx114_9 := (HB.out.cell (World.block_lt_of_cell? w _ hx114_9)).trans hx114_9
                                        replace hx114_10 := (HB.out.cell (World.block_lt_of_cell? w _ hx114_10)).trans hx114_10
                                        replace hx114_11 := (HB.out.cell (World.block_lt_of_cell? w _ hx114_11)).trans hx114_11
                                        replace hx114_12 := (HB.out.cell (World.block_lt_of_cell? w _ hx114_12)).trans hx114_12
                                        replace hx114_13 := (HB.out.cell (World.block_lt_of_cell? w _ hx114_13)).trans hx114_13
                                        replace hx114_14 := (HB.out.cell (World.block_lt_of_cell? w _ hx114_14)).trans hx114_14
                                        replace hx114_15 := (HB.out.cell (World.block_lt_of_cell? w _ hx114_15)).trans hx114_15
                                        replace hx114_16 := (HB.out.cell (World.block_lt_of_cell? w _ hx114_16)).trans hx114_16
                                        replace hx114_17 := (HB.out.cell (World.block_lt_of_cell? w _ hx114_17)).trans hx114_17
                                        have HR114_7 := Aside0.mk hi114_7
                                        have HC114_7 := Aside0.mk hl114_7
                                        clear hi114_7 hl114_7
                                        have HR114_9 := Aside0.mk hi114_9
                                        have HC114_9 := Aside0.mk hl114_9
                                        clear hi114_9 hl114_9
                                        have HR114_15 := Aside0.mk hi114_15
                                        have HC114_15 := Aside0.mk hl114_15
                                        clear hi114_15 hl114_15
                                        have HR114_16 := Aside0.mk hi114_16
                                        have HC114_16 := Aside0.mk hl114_16
                                        clear hi114_16 hl114_16
                                        have HR114_17 := Aside0.mk hi114_17
                                        have HC114_17 := Aside0.mk hl114_17
                                        clear hi114_17 hl114_17
                                        replace p114 := eq_true p114
                                        replace q114 := eq_true q114
                                        go_wp2_with (first | (go_at_call 22; (with_reducible refine (ferruleref15_made.calls ((rd_T69 ((rd_T61 l0_5 x6_2).f0) x8_3).f4.f0) _ _ ((rd_T69 ((rd_T61 l0_5 x6_2).f0) x8_3).f4.f1) x4_1 false _ ?side1 ?side2 A19.out).mono ?_); (case side1 => repeat (first | exact (Kd.C_below HR114_7.out HB.out) | (with_reducible refine Kd.C_alloc ?_ _) | (with_reducible refine Kd.C_drewN ?_ _) | (with_reducible refine Kd.C_drew ?_))); (case side2 => exact HC114_7.out); rintro e w27 ⟨rfl, hb⟩; have n0_ := Aside0.mk (Kd.R_below (by (with_reducible repeat (first | apply Kd.R_alloc | apply Kd.R_drewN | apply Kd.R_drew)); exact HO_3.out) hb); have n1_ := Aside0.mk (blk_below (g := gb103) (o := .cells #[.string a0_0, .slice (some ad104) l0_1.length c0_1, .int .i64 a0_2, .int .i64 a0_3, .bool a0_4, .slice (some ad108) l0_5.length c0_5] 40 (0, 0)) (by (with_reducible repeat (first | refine blk_drewN ?_ _ | refine blk_drew ?_ | refine blk_alloc ?_ _)); exact BK103.out) hb); have n2_ := Aside0.mk (below_step (by repeat (first | (with_reducible first | exact HB.out | apply below_alloc | apply pw_below_drewN | apply below_drew1 | refine below_set ?_ GE103.out) | exact HB.out)) hb); clear HO_3; clear BK103; clear HB; have HO_3 := n0_; have BK103 := n1_; have HB := n2_; clear n0_ n1_ n2_; (try clear hb); (try clear hb2); (try clear hk); (try clear hi); have p116 : 0 ≤ (x8_3 : Int) := of_decide_eq_true (by first | (with_reducible assumption) | assumption); have q116 : x8_3 < (((rd_T61 l0_5 x6_2).f0).length : Int) := of_decide_eq_true (by first | (with_reducible assumption) | assumption); obtain ⟨ad116, A116_7, c116_7, A116_9, c116_9, A116_15, c116_15, A116_16, c116_16, A116_17, c116_17, e116, hx116_0, hx116_1, hx116_2, hx116_3, hx116_4, hx116_5, hx116_6, hx116_7, hx116_8, hx116_9, hx116_10, hx116_11, hx116_12, hx116_13, hx116_14, hx116_15, hx116_16, hx116_17, hl116_7, hi116_7, hl116_9, hi116_9, hl116_15, hi116_15, hl116_16, hi116_16, hl116_17, hi116_17⟩ := at_T69 HR108_0.out x8_3 p116 q116; obtain rfl : ad114 = ad116 := (by injection e116); replace hx116_0 := (HB.out.cell (World.block_lt_of_cell? w _ hx116_0)).trans hx116_0; replace hx116_1 := (HB.out.cell (World.block_lt_of_cell? w _ hx116_1)).trans hx116_1; replace hx116_2 := (HB.out.cell (World.block_lt_of_cell? w _ hx116_2)).trans hx116_2; replace hx116_3 := (HB.out.cell (World.block_lt_of_cell? w _ hx116_3)).trans hx116_3; replace hx116_4 := (HB.out.cell (World.block_lt_of_cell? w _ hx116_4)).trans hx116_4; replace hx116_5 := (HB.out.cell (World.block_lt_of_cell? w _ hx116_5)).trans hx116_5; replace hx116_6 := (HB.out.cell (World.block_lt_of_cell? w _ hx116_6)).trans hx116_6; replace hx116_7 := (HB.out.cell (World.block_lt_of_cell? w _ hx116_7)).trans hx116_7; replace hx116_8 := (HB.out.cell (World.block_lt_of_cell? w _ hx116_8)).trans hx116_8; replace hx116_9 := (HB.out.cell (World.block_lt_of_cell? w _ hx116_9)).trans hx116_9; replace hx116_10 := (HB.out.cell (World.block_lt_of_cell? w _ hx116_10)).trans hx116_10; replace hx116_11 := (HB.out.cell (World.block_lt_of_cell? w _ hx116_11)).trans hx116_11; replace hx116_12 := (HB.out.cell (World.block_lt_of_cell? w _ hx116_12)).trans hx116_12; replace hx116_13 := (HB.out.cell (World.block_lt_of_cell? w _ hx116_13)).trans hx116_13; replace hx116_14 := (HB.out.cell (World.block_lt_of_cell? w _ hx116_14)).trans hx116_14; replace hx116_15 := (HB.out.cell (World.block_lt_of_cell? w _ hx116_15)).trans hx116_15; replace hx116_16 := (HB.out.cell (World.block_lt_of_cell? w _ hx116_16)).trans hx116_16; replace hx116_17 := (HB.out.cell (World.block_lt_of_cell? w _ hx116_17)).trans hx116_17; have HR116_7 := Aside0.mk hi116_7; have HC116_7 := Aside0.mk hl116_7; clear hi116_7 hl116_7; have HR116_9 := Aside0.mk hi116_9; have HC116_9 := Aside0.mk hl116_9; clear hi116_9 hl116_9; have HR116_15 := Aside0.mk hi116_15; have HC116_15 := Aside0.mk hl116_15; clear hi116_15 hl116_15; have HR116_16 := Aside0.mk hi116_16; have HC116_16 := Aside0.mk hl116_16; clear hi116_16 hl116_16; have HR116_17 := Aside0.mk hi116_17; have HC116_17 := Aside0.mk hl116_17; clear hi116_17 hl116_17; replace p116 := eq_true p116; replace q116 := eq_true q116; have p117 : 0 ≤ (x8_3 : Int) := of_decide_eq_true (by first | (with_reducible assumption) | assumption); have q117 : x8_3 < (((rd_T61 l0_5 x6_2).f0).length : Int) := of_decide_eq_true (by first | (with_reducible assumption) | assumption); obtain ⟨ad117, A117_7, c117_7, A117_9, c117_9, A117_15, c117_15, A117_16, c117_16, A117_17, c117_17, e117, hx117_0, hx117_1, hx117_2, hx117_3, hx117_4, hx117_5, hx117_6, hx117_7, hx117_8, hx117_9, hx117_10, hx117_11, hx117_12, hx117_13, hx117_14, hx117_15, hx117_16, hx117_17, hl117_7, hi117_7, hl117_9, hi117_9, hl117_15, hi117_15, hl117_16, hi117_16, hl117_17, hi117_17⟩ := at_T69 HR108_0.out x8_3 p117 q117; obtain rfl : ad114 = ad117 := (by injection e117); replace hx117_0 := (HB.out.cell (World.block_lt_of_cell? w _ hx117_0)).trans hx117_0; replace hx117_1 := (HB.out.cell (World.block_lt_of_cell? w _ hx117_1)).trans hx117_1; replace hx117_2 := (HB.out.cell (World.block_lt_of_cell? w _ hx117_2)).trans hx117_2; replace hx117_3 := (HB.out.cell (World.block_lt_of_cell? w _ hx117_3)).trans hx117_3; replace hx117_4 := (HB.out.cell (World.block_lt_of_cell? w _ hx117_4)).trans hx117_4; replace hx117_5 := (HB.out.cell (World.block_lt_of_cell? w _ hx117_5)).trans hx117_5; replace hx117_6 := (HB.out.cell (World.block_lt_of_cell? w _ hx117_6)).trans hx117_6; replace hx117_7 := (HB.out.cell (World.block_lt_of_cell? w _ hx117_7)).trans hx117_7; replace hx117_8 := (HB.out.cell (World.block_lt_of_cell? w _ hx117_8)).trans hx117_8; replace hx117_9 := (HB.out.cell (World.block_lt_of_cell? w _ hx117_9)).trans hx117_9; replace hx117_10 := (HB.out.cell (World.block_lt_of_cell? w _ hx117_10)).trans hx117_10; replace hx117_11 := (HB.out.cell (World.block_lt_of_cell? w _ hx117_11)).trans hx117_11; replace hx117_12 := (HB.out.cell (World.block_lt_of_cell? w _ hx117_12)).trans hx117_12; replace hx117_13 := (HB.out.cell (World.block_lt_of_cell? w _ hx117_13)).trans hx117_13; replace hx117_14 := (HB.out.cell (World.block_lt_of_cell? w _ hx117_14)).trans hx117_14; replace hx117_15 := (HB.out.cell (World.block_lt_of_cell? w _ hx117_15)).trans hx117_15; replace hx117_16 := (HB.out.cell (World.block_lt_of_cell? w _ hx117_16)).trans hx117_16; replace hx117_17 := (HB.out.cell (World.block_lt_of_cell? w _ hx117_17)).trans hx117_17; have HR117_7 := Aside0.mk hi117_7; have HC117_7 := Aside0.mk hl117_7; clear hi117_7 hl117_7; have HR117_9 := Aside0.mk hi117_9; have HC117_9 := Aside0.mk hl117_9; clear hi117_9 hl117_9; have HR117_15 := Aside0.mk hi117_15; have HC117_15 := Aside0.mk hl117_15; clear hi117_15 hl117_15; have HR117_16 := Aside0.mk hi117_16; have HC117_16 := Aside0.mk hl117_16; clear hi117_16 hl117_16; have HR117_17 := Aside0.mk hi117_17; have HC117_17 := Aside0.mk hl117_17; clear hi117_17 hl117_17; replace p117 := eq_true p117; replace q117 := eq_true q117; have ea_ := Option.some.inj (hx116_7.symm.trans hx117_7); injection ea_ with ea_ en_ ec_; subst ea_; subst ec_; clear en_; have ea_ := Option.some.inj (hx116_9.symm.trans hx117_9); injection ea_ with ea_ en_ ec_; subst ea_; subst ec_; clear en_; have ea_ := Option.some.inj (hx116_15.symm.trans hx117_15); injection ea_ with ea_ en_ ec_; subst ea_; subst ec_; clear en_; have ea_ := Option.some.inj (hx116_16.symm.trans hx117_16); injection ea_ with ea_ en_ ec_; subst ea_; subst ec_; clear en_; have ea_ := Option.some.inj (hx116_17.symm.trans hx117_17); injection ea_ with ea_ en_ ec_; subst ea_; subst ec_; clear en_) | (go_at_call 22; (with_reducible refine (ferruleref15_made.calls ((rd_T69 ((rd_T61 l0_5 x6_2).f0) x8_3).f5.f0) _ _ ((rd_T69 ((rd_T61 l0_5 x6_2).f0) x8_3).f5.f1) x4_1 false _ ?side1 ?side2 A23.out).mono ?_); (case side1 => repeat (first | exact (Kd.C_below HR117_9.out HB.out) | (with_reducible refine Kd.C_alloc ?_ _) | (with_reducible refine Kd.C_drewN ?_ _) | (with_reducible refine Kd.C_drew ?_))); (case side2 => exact HC117_9.out); rintro e w28 ⟨rfl, hb⟩; have n0_ := Aside0.mk (Kd.R_below (by (with_reducible repeat (first | apply Kd.R_alloc | apply Kd.R_drewN | apply Kd.R_drew)); exact HO_3.out) hb); have n1_ := Aside0.mk (blk_below (g := gb103) (o := .cells #[.string a0_0, .slice (some ad104) l0_1.length c0_1, .int .i64 a0_2, .int .i64 a0_3, .bool a0_4, .slice (some ad108) l0_5.length c0_5] 40 (0, 0)) (by (with_reducible repeat (first | refine blk_drewN ?_ _ | refine blk_drew ?_ | refine blk_alloc ?_ _)); exact BK103.out) hb); have n2_ := Aside0.mk (below_step (by repeat (first | (with_reducible first | exact HB.out | apply below_alloc | apply pw_below_drewN | apply below_drew1 | refine below_set ?_ GE103.out) | exact HB.out)) hb); clear HO_3; clear BK103; clear HB; have HO_3 := n0_; have BK103 := n1_; have HB := n2_; clear n0_ n1_ n2_; (try clear hb); (try clear hb2); (try clear hk); (try clear hi)))
                                        go_roundg kj9
                                        case measure => have := HK1.out; have := HK2.out; have := HK3.out; have := HJ9.out; omega
                                        case rel => exact ⟨(x5_3), (wrap64 (x8_3 + 1)), (by first | rfl | (simp; done) | (simp [*]; done)), (by first | rfl | (simp; done) | (simp [*]; done)), H', ⟨by have := HK1.out; have := HK2.out; have := HK3.out; have := HJ9.out; omega⟩, ⟨by (with_reducible repeat (first | apply Kd.R_alloc | apply Kd.R_drewN | apply Kd.R_drew)); exact HO_3.out⟩, ⟨by (with_reducible repeat (first | refine blk_drewN ?_ _ | refine blk_drew ?_ | refine blk_alloc ?_ _)); exact BK103.out⟩, ⟨by repeat (first | (with_reducible first | exact HB.out | apply below_alloc | apply pw_below_drewN | apply below_drew1 | refine below_set ?_ GE103.out) | exact HB.out)⟩⟩
                                    · rw [if_neg c22] at H
                                      have c22b0 : (((rd_T69 ((rd_T61 l0_5 x6_2).f0) x8_3).f0) == 5) = false := beq_eq_false_iff_ne.mpr c22
                                      have c22b1 : (((rd_T69 ((rd_T61 l0_5 x6_2).f0) x8_3).f0) != 5) = true := bne_iff_ne.mpr c22
                                      have H' := Aside0.mk H
                                      clear H
                                      have p114 : 0 ≤ (x8_3 : Int) := of_decide_eq_true (by first | (with_reducible assumption) | assumption)
                                      have q114 : x8_3 < (((rd_T61 l0_5 x6_2).f0).length : Int) := of_decide_eq_true (by first | (with_reducible assumption) | assumption)
                                      obtain ⟨ad114, A114_7, c114_7, A114_9, c114_9, A114_15, c114_15, A114_16, c114_16, A114_17, c114_17, e114, hx114_0, hx114_1, hx114_2, hx114_3, hx114_4, hx114_5, hx114_6, hx114_7, hx114_8, hx114_9, hx114_10, hx114_11, hx114_12, hx114_13, hx114_14, hx114_15, hx114_16, hx114_17, hl114_7, hi114_7, hl114_9, hi114_9, hl114_15, hi114_15, hl114_16, hi114_16, hl114_17, hi114_17⟩ := at_T69 HR108_0.out x8_3 p114 q114
                                      cases e114
                                      replace hx114_0 := (HB.out.cell (World.block_lt_of_cell? w _ hx114_0)).trans hx114_0
                                      replace hx114_1 := (HB.out.cell (World.block_lt_of_cell? w _ hx114_1)).trans hx114_1
                                      replace hx114_2 := (HB.out.cell (World.block_lt_of_cell? w _ hx114_2)).trans hx114_2
                                      replace hx114_3 := (HB.out.cell (World.block_lt_of_cell? w _ hx114_3)).trans hx114_3
                                      replace hx114_4 := (HB.out.cell (World.block_lt_of_cell? w _ hx114_4)).trans hx114_4
                                      replace hx114_5 := (HB.out.cell (World.block_lt_of_cell? w _ hx114_5)).trans hx114_5
                                      replace hx114_6 := (HB.out.cell (World.block_lt_of_cell? w _ hx114_6)).trans hx114_6
                                      replace hx114_7 := (HB.out.cell (World.block_lt_of_cell? w _ hx114_7)).trans hx114_7
                                      replace hx114_8 := (HB.out.cell (World.block_lt_of_cell? w _ hx114_8)).trans hx114_8
                                      replace hx114_9 := (HB.out.cell (World.block_lt_of_cell? w _ hx114_9)).trans hx114_9
                                      replace hx114_10 := (HB.out.cell (World.block_lt_of_cell? w _ hx114_10)).trans hx114_10
                                      replace hx114_11 := (HB.out.cell (World.block_lt_of_cell? w _ hx114_11)).trans hx114_11
                                      replace hx114_12 := (HB.out.cell (World.block_lt_of_cell? w _ hx114_12)).trans hx114_12
                                      replace hx114_13 := (HB.out.cell (World.block_lt_of_cell? w _ hx114_13)).trans hx114_13
                                      replace hx114_14 := (HB.out.cell (World.block_lt_of_cell? w _ hx114_14)).trans hx114_14
                                      replace hx114_15 := (HB.out.cell (World.block_lt_of_cell? w _ hx114_15)).trans hx114_15
                                      replace hx114_16 := (HB.out.cell (World.block_lt_of_cell? w _ hx114_16)).trans hx114_16
                                      replace hx114_17 := (HB.out.cell (World.block_lt_of_cell? w _ hx114_17)).trans hx114_17
                                      have HR114_7 := Aside0.mk hi114_7
                                      have HC114_7 := Aside0.mk hl114_7
                                      clear hi114_7 hl114_7
                                      have HR114_9 := Aside0.mk hi114_9
                                      have HC114_9 := Aside0.mk hl114_9
                                      clear hi114_9 hl114_9
                                      have HR114_15 := Aside0.mk hi114_15
                                      have HC114_15 := Aside0.mk hl114_15
                                      clear hi114_15 hl114_15
                                      have HR114_16 := Aside0.mk hi114_16
                                      have HC114_16 := Aside0.mk hl114_16
                                      clear hi114_16 hl114_16
                                      have HR114_17 := Aside0.mk hi114_17
                                      have HC114_17 := Aside0.mk hl114_17
                                      clear hi114_17 hl114_17
                                      replace p114 := eq_true p114
                                      replace q114 := eq_true q114
                                      go_wp2_with (first | (go_at_call 22; (with_reducible refine (ferruleref15_made.calls ((rd_T69 ((rd_T61 l0_5 x6_2).f0) x8_3).f4.f0) _ _ ((rd_T69 ((rd_T61 l0_5 x6_2).f0) x8_3).f4.f1) x4_1 false _ ?side1 ?side2 A19.out).mono ?_); (case side1 => repeat (first | exact (Kd.C_below HR114_7.out HB.out) | (with_reducible refine Kd.C_alloc ?_ _) | (with_reducible refine Kd.C_drewN ?_ _) | (with_reducible refine Kd.C_drew ?_))); (case side2 => exact HC114_7.out); rintro e w29 ⟨rfl, hb⟩; have n0_ := Aside0.mk (Kd.R_below (by (with_reducible repeat (first | apply Kd.R_alloc | apply Kd.R_drewN | apply Kd.R_drew)); exact HO_3.out) hb); have n1_ := Aside0.mk (blk_below (g := gb103) (o := .cells #[.string a0_0, .slice (some ad104) l0_1.length c0_1, .int .i64 a0_2, .int .i64 a0_3, .bool a0_4, .slice (some ad108) l0_5.length c0_5] 40 (0, 0)) (by (with_reducible repeat (first | refine blk_drewN ?_ _ | refine blk_drew ?_ | refine blk_alloc ?_ _)); exact BK103.out) hb); have n2_ := Aside0.mk (below_step (by repeat (first | (with_reducible first | exact HB.out | apply below_alloc | apply pw_below_drewN | apply below_drew1 | refine below_set ?_ GE103.out) | exact HB.out)) hb); clear HO_3; clear BK103; clear HB; have HO_3 := n0_; have BK103 := n1_; have HB := n2_; clear n0_ n1_ n2_; (try clear hb); (try clear hb2); (try clear hk); (try clear hi); have p116 : 0 ≤ (x8_3 : Int) := of_decide_eq_true (by first | (with_reducible assumption) | assumption); have q116 : x8_3 < (((rd_T61 l0_5 x6_2).f0).length : Int) := of_decide_eq_true (by first | (with_reducible assumption) | assumption); obtain ⟨ad116, A116_7, c116_7, A116_9, c116_9, A116_15, c116_15, A116_16, c116_16, A116_17, c116_17, e116, hx116_0, hx116_1, hx116_2, hx116_3, hx116_4, hx116_5, hx116_6, hx116_7, hx116_8, hx116_9, hx116_10, hx116_11, hx116_12, hx116_13, hx116_14, hx116_15, hx116_16, hx116_17, hl116_7, hi116_7, hl116_9, hi116_9, hl116_15, hi116_15, hl116_16, hi116_16, hl116_17, hi116_17⟩ := at_T69 HR108_0.out x8_3 p116 q116; obtain rfl : ad114 = ad116 := (by injection e116); replace hx116_0 := (HB.out.cell (World.block_lt_of_cell? w _ hx116_0)).trans hx116_0; replace hx116_1 := (HB.out.cell (World.block_lt_of_cell? w _ hx116_1)).trans hx116_1; replace hx116_2 := (HB.out.cell (World.block_lt_of_cell? w _ hx116_2)).trans hx116_2; replace hx116_3 := (HB.out.cell (World.block_lt_of_cell? w _ hx116_3)).trans hx116_3; replace hx116_4 := (HB.out.cell (World.block_lt_of_cell? w _ hx116_4)).trans hx116_4; replace hx116_5 := (HB.out.cell (World.block_lt_of_cell? w _ hx116_5)).trans hx116_5; replace hx116_6 := (HB.out.cell (World.block_lt_of_cell? w _ hx116_6)).trans hx116_6; replace hx116_7 := (HB.out.cell (World.block_lt_of_cell? w _ hx116_7)).trans hx116_7; replace hx116_8 := (HB.out.cell (World.block_lt_of_cell? w _ hx116_8)).trans hx116_8; replace hx116_9 := (HB.out.cell (World.block_lt_of_cell? w _ hx116_9)).trans hx116_9; replace hx116_10 := (HB.out.cell (World.block_lt_of_cell? w _ hx116_10)).trans hx116_10; replace hx116_11 := (HB.out.cell (World.block_lt_of_cell? w _ hx116_11)).trans hx116_11; replace hx116_12 := (HB.out.cell (World.block_lt_of_cell? w _ hx116_12)).trans hx116_12; replace hx116_13 := (HB.out.cell (World.block_lt_of_cell? w _ hx116_13)).trans hx116_13; replace hx116_14 := (HB.out.cell (World.block_lt_of_cell? w _ hx116_14)).trans hx116_14; replace hx116_15 := (HB.out.cell (World.block_lt_of_cell? w _ hx116_15)).trans hx116_15; replace hx116_16 := (HB.out.cell (World.block_lt_of_cell? w _ hx116_16)).trans hx116_16; replace hx116_17 := (HB.out.cell (World.block_lt_of_cell? w _ hx116_17)).trans hx116_17; have HR116_7 := Aside0.mk hi116_7; have HC116_7 := Aside0.mk hl116_7; clear hi116_7 hl116_7; have HR116_9 := Aside0.mk hi116_9; have HC116_9 := Aside0.mk hl116_9; clear hi116_9 hl116_9; have HR116_15 := Aside0.mk hi116_15; have HC116_15 := Aside0.mk hl116_15; clear hi116_15 hl116_15; have HR116_16 := Aside0.mk hi116_16; have HC116_16 := Aside0.mk hl116_16; clear hi116_16 hl116_16; have HR116_17 := Aside0.mk hi116_17; have HC116_17 := Aside0.mk hl116_17; clear hi116_17 hl116_17; replace p116 := eq_true p116; replace q116 := eq_true q116))
                                      go_roundg kj9
                                      case measure => have := HK1.out; have := HK2.out; have := HK3.out; have := HJ9.out; omega
                                      case rel => exact ⟨(x5_3), (wrap64 (x8_3 + 1)), (by first | rfl | (simp; done) | (simp [*]; done)), (by first | rfl | (simp; done) | (simp [*]; done)), H', ⟨by have := HK1.out; have := HK2.out; have := HK3.out; have := HJ9.out; omega⟩, ⟨by (with_reducible repeat (first | apply Kd.R_alloc | apply Kd.R_drewN | apply Kd.R_drew)); exact HO_3.out⟩, ⟨by (with_reducible repeat (first | refine blk_drewN ?_ _ | refine blk_drew ?_ | refine blk_alloc ?_ _)); exact BK103.out⟩, ⟨by repeat (first | (with_reducible first | exact HB.out | apply below_alloc | apply pw_below_drewN | apply below_drew1 | refine below_set ?_ GE103.out) | exact HB.out)⟩⟩
                                · rw [if_neg c18] at H
                                  exact absurd H (by simp)
                              · rw [if_neg c17] at H
                                exact absurd H (by simp)
                            · replace c16 := Bool.eq_false_iff.mpr c16
                              subst c16
                              have H1 : (if 0 ≤ x8_3 then (if x8_3 < (((rd_T61 l0_5 x6_2).f0).length : Int) then (if ((rd_T69 ((rd_T61 l0_5 x6_2).f0) x8_3).f0) = 5 then ((ferruleref15_made.f ((rd_T69 ((rd_T61 l0_5 x6_2).f0) x8_3).f5.f0) ((rd_T69 ((rd_T61 l0_5 x6_2).f0) x8_3).f5.f1) x4_1).bind fun t121 => (if t121 = true then (ferruleref15_Plain.l2 kj9 x3_1 x4_1 false x6_2 ((rd_T61 l0_5 x6_2).f0) (wrap64 (x8_3 + 1)) a0_0 l0_1 a0_2 a0_3 a0_4 l0_5) else (ferruleref15_Plain.l2 kj9 x3_1 x4_1 x5_3 x6_2 ((rd_T61 l0_5 x6_2).f0) (wrap64 (x8_3 + 1)) a0_0 l0_1 a0_2 a0_3 a0_4 l0_5))) else (ferruleref15_Plain.l2 kj9 x3_1 x4_1 x5_3 x6_2 ((rd_T61 l0_5 x6_2).f0) (wrap64 (x8_3 + 1)) a0_0 l0_1 a0_2 a0_3 a0_4 l0_5)) else (none)) else (none)) = some r := by rw [if_neg (show ¬ (false = true) by decide)] at H; exact H
                              clear H
                              have H := H1
                              clear H1
                              by_cases c30 : 0 ≤ x8_3
                              · rw [if_pos c30] at H
                                have c30b0 : decide (0 ≤ x8_3) = true := decide_eq_true c30
                                clear c30
                                by_cases c31 : x8_3 < (((rd_T61 l0_5 x6_2).f0).length : Int)
                                · rw [if_pos c31] at H
                                  have c31b0 : decide (x8_3 < (((rd_T61 l0_5 x6_2).f0).length : Int)) = true := decide_eq_true c31
                                  clear c31
                                  by_cases c32 : ((rd_T69 ((rd_T61 l0_5 x6_2).f0) x8_3).f0) = 5
                                  · rw [if_pos c32] at H
                                    have c32b0 : (((rd_T69 ((rd_T61 l0_5 x6_2).f0) x8_3).f0) == 5) = true := beq_iff_eq.mpr c32
                                    have c32b1 : (((rd_T69 ((rd_T61 l0_5 x6_2).f0) x8_3).f0) != 5) = false := bne_eq_false_iff_eq.mpr c32
                                    clear c32
                                    replace H := Option.bind_eq_some_iff.mp H
                                    obtain ⟨t121, A330, H⟩ := H
                                    replace H : (if t121 = true then (ferruleref15_Plain.l2 kj9 x3_1 x4_1 false x6_2 ((rd_T61 l0_5 x6_2).f0) (wrap64 (x8_3 + 1)) a0_0 l0_1 a0_2 a0_3 a0_4 l0_5) else (ferruleref15_Plain.l2 kj9 x3_1 x4_1 x5_3 x6_2 ((rd_T61 l0_5 x6_2).f0) (wrap64 (x8_3 + 1)) a0_0 l0_1 a0_2 a0_3 a0_4 l0_5)) = some r := H
                                    have A33 := Aside0.mk A330
                                    clear A330
                                    by_cases c34 : t121 = true
                                    · subst c34
                                      have H1 : (ferruleref15_Plain.l2 kj9 x3_1 x4_1 false x6_2 ((rd_T61 l0_5 x6_2).f0) (wrap64 (x8_3 + 1)) a0_0 l0_1 a0_2 a0_3 a0_4 l0_5) = some r := by rw [if_pos rfl] at H; exact H
                                      clear H
                                      have H := H1
                                      clear H1
                                      have H' := Aside0.mk H
                                      clear H
                                      have p119 : 0 ≤ (x8_3 : Int) := of_decide_eq_true (by first | (with_reducible assumption) | assumption)
                                      have q119 : x8_3 < (((rd_T61 l0_5 x6_2).f0).length : Int) := of_decide_eq_true (by first | (with_reducible assumption) | assumption)
                                      obtain ⟨ad119, A119_7, c119_7, A119_9, c119_9, A119_15, c119_15, A119_16, c119_16, A119_17, c119_17, e119, hx119_0, hx119_1, hx119_2, hx119_3, hx119_4, hx119_5, hx119_6, hx119_7, hx119_8, hx119_9, hx119_10, hx119_11, hx119_12, hx119_13, hx119_14, hx119_15, hx119_16, hx119_17, hl119_7, hi119_7, hl119_9, hi119_9, hl119_15, hi119_15, hl119_16, hi119_16, hl119_17, hi119_17⟩ := at_T69 HR108_0.out x8_3 p119 q119
                                      cases e119
                                      replace hx119_0 := (HB.out.cell (World.block_lt_of_cell? w _ hx119_0)).trans hx119_0
                                      replace hx119_1 := (HB.out.cell (World.block_lt_of_cell? w _ hx119_1)).trans hx119_1
                                      replace hx119_2 := (HB.out.cell (World.block_lt_of_cell? w _ hx119_2)).trans hx119_2
                                      replace hx119_3 := (HB.out.cell (World.block_lt_of_cell? w _ hx119_3)).trans hx119_3
                                      replace hx119_4 := (HB.out.cell (World.block_lt_of_cell? w _ hx119_4)).trans hx119_4
                                      replace hx119_5 := (HB.out.cell (World.block_lt_of_cell? w _ hx119_5)).trans hx119_5
                                      replace hx119_6 := (HB.out.cell (World.block_lt_of_cell? w _ hx119_6)).trans hx119_6
                                      replace hx119_7 := (HB.out.cell (World.block_lt_of_cell? w _ hx119_7)).trans hx119_7
                                      replace hx119_8 := (HB.out.cell (World.block_lt_of_cell? w _ hx119_8)).trans hx119_8
                                      replace hx119_9 := (HB.out.cell (World.block_lt_of_cell? w _ hx119_9)).trans hx119_9
                                      replace hx119_10 := (HB.out.cell (World.block_lt_of_cell? w _ hx119_10)).trans hx119_10
                                      replace hx119_11 := (HB.out.cell (World.block_lt_of_cell? w _ hx119_11)).trans hx119_11
                                      replace hx119_12 := (HB.out.cell (World.block_lt_of_cell? w _ hx119_12)).trans hx119_12
                                      replace hx119_13 := (HB.out.cell (World.block_lt_of_cell? w _ hx119_13)).trans hx119_13
                                      replace hx119_14 := (HB.out.cell (World.block_lt_of_cell? w _ hx119_14)).trans hx119_14
                                      replace hx119_15 := (HB.out.cell (World.block_lt_of_cell? w _ hx119_15)).trans hx119_15
                                      replace hx119_16 := (HB.out.cell (World.block_lt_of_cell? w _ hx119_16)).trans hx119_16
                                      replace hx119_17 := (HB.out.cell (World.block_lt_of_cell? w _ hx119_17)).trans hx119_17
                                      have HR119_7 := Aside0.mk hi119_7
                                      have HC119_7 := Aside0.mk hl119_7
                                      clear hi119_7 hl119_7
                                      have HR119_9 := Aside0.mk hi119_9
                                      have HC119_9 := Aside0.mk hl119_9
                                      clear hi119_9 hl119_9
                                      have HR119_15 := Aside0.mk hi119_15
                                      have HC119_15 := Aside0.mk hl119_15
                                      clear hi119_15 hl119_15
                                      have HR119_16 := Aside0.mk hi119_16
                                      have HC119_16 := Aside0.mk hl119_16
                                      clear hi119_16 hl119_16
                                      have HR119_17 := Aside0.mk hi119_17
                                      have HC119_17 := Aside0.mk hl119_17
                                      clear hi119_17 hl119_17
                                      replace p119 := eq_true p119
                                      replace q119 := eq_true q119
                                      have p120 : 0 ≤ (x8_3 : Int) := of_decide_eq_true (by first | (with_reducible assumption) | assumption)
                                      have q120 : x8_3 < (((rd_T61 l0_5 x6_2).f0).length : Int) := of_decide_eq_true (by first | (with_reducible assumption) | assumption)
                                      obtain ⟨ad120, A120_7, c120_7, A120_9, c120_9, A120_15, c120_15, A120_16, c120_16, A120_17, c120_17, e120, hx120_0, hx120_1, hx120_2, hx120_3, hx120_4, hx120_5, hx120_6, hx120_7, hx120_8, hx120_9, hx120_10, hx120_11, hx120_12, hx120_13, hx120_14, hx120_15, hx120_16, hx120_17, hl120_7, hi120_7, hl120_9, hi120_9, hl120_15, hi120_15, hl120_16, hi120_16, hl120_17, hi120_17⟩ := at_T69 HR108_0.out x8_3 p120 q120
                                      obtain rfl : ad119 = ad120 := (by injection e120)
                                      replace hx120_0 := (HB.out.cell (World.block_lt_of_cell? w _ hx120_0)).trans hx120_0
                                      replace hx120_1 := (HB.out.cell (World.block_lt_of_cell? w _ hx120_1)).trans hx120_1
                                      replace hx120_2 := (HB.out.cell (World.block_lt_of_cell? w _ hx120_2)).trans hx120_2
                                      replace hx120_3 := (HB.out.cell (World.block_lt_of_cell? w _ hx120_3)).trans hx120_3
                                      replace hx120_4 := (HB.out.cell (World.block_lt_of_cell? w _ hx120_4)).trans hx120_4
                                      replace hx120_5 := (HB.out.cell (World.block_lt_of_cell? w _ hx120_5)).trans hx120_5
                                      replace hx120_6 := (HB.out.cell (World.block_lt_of_cell? w _ hx120_6)).trans hx120_6
                                      replace hx120_7 := (HB.out.cell (World.block_lt_of_cell? w _ hx120_7)).trans hx120_7
                                      replace hx120_8 := (HB.out.cell (World.block_lt_of_cell? w _ hx120_8)).trans hx120_8
                                      replace hx120_9 := (HB.out.cell (World.block_lt_of_cell? w _ hx120_9)).trans hx120_9
                                      replace hx120_10 := (HB.out.cell (World.block_lt_of_cell? w _ hx120_10)).trans hx120_10
                                      replace hx120_11 := (HB.out.cell (World.block_lt_of_cell? w _ hx120_11)).trans hx120_11
                                      replace hx120_12 := (HB.out.cell (World.block_lt_of_cell? w _ hx120_12)).trans hx120_12
                                      replace hx120_13 := (HB.out.cell (World.block_lt_of_cell? w _ hx120_13)).trans hx120_13
                                      replace hx120_14 := (HB.out.cell (World.block_lt_of_cell? w _ hx120_14)).trans hx120_14
                                      replace hx120_15 := (HB.out.cell (World.block_lt_of_cell? w _ hx120_15)).trans hx120_15
                                      replace hx120_16 := (HB.out.cell (World.block_lt_of_cell? w _ hx120_16)).trans hx120_16
                                      replace hx120_17 := (HB.out.cell (World.block_lt_of_cell? w _ hx120_17)).trans hx120_17
                                      have HR120_7 := Aside0.mk hi120_7
                                      have HC120_7 := Aside0.mk hl120_7
                                      clear hi120_7 hl120_7
                                      have HR120_9 := Aside0.mk hi120_9
                                      have HC120_9 := Aside0.mk hl120_9
                                      clear hi120_9 hl120_9
                                      have HR120_15 := Aside0.mk hi120_15
                                      have HC120_15 := Aside0.mk hl120_15
                                      clear hi120_15 hl120_15
                                      have HR120_16 := Aside0.mk hi120_16
                                      have HC120_16 := Aside0.mk hl120_16
                                      clear hi120_16 hl120_16
                                      have HR120_17 := Aside0.mk hi120_17
                                      have HC120_17 := Aside0.mk hl120_17
                                      clear hi120_17 hl120_17
                                      replace p120 := eq_true p120
                                      replace q120 := eq_true q120
                                      have ea_ := Option.some.inj (hx119_7.symm.trans hx120_7)
                                      injection ea_ with ea_ en_ ec_
                                      subst ea_
                                      subst ec_
                                      clear en_
                                      have ea_ := Option.some.inj (hx119_9.symm.trans hx120_9)
                                      injection ea_ with ea_ en_ ec_
                                      subst ea_
                                      subst ec_
                                      clear en_
                                      have ea_ := Option.some.inj (hx119_15.symm.trans hx120_15)
                                      injection ea_ with ea_ en_ ec_
                                      subst ea_
                                      subst ec_
                                      clear en_
                                      have ea_ := Option.some.inj (hx119_16.symm.trans hx120_16)
                                      injection ea_ with ea_ en_ ec_
                                      subst ea_
                                      subst ec_
                                      clear en_
                                      have ea_ := Option.some.inj (hx119_17.symm.trans hx120_17)
                                      injection ea_ with ea_ en_ ec_
                                      subst ea_
                                      subst ec_
                                      clear en_
                                      go_wp2_with (first | (go_at_call 22; (with_reducible refine (ferruleref15_made.calls ((rd_T69 ((rd_T61 l0_5 x6_2).f0) x8_3).f5.f0) _ _ ((rd_T69 ((rd_T61 l0_5 x6_2).f0) x8_3).f5.f1) x4_1 true _ ?side1 ?side2 A33.out).mono ?_); (case side1 => repeat (first | exact (Kd.C_below HR120_9.out HB.out) | (with_reducible refine Kd.C_alloc ?_ _) | (with_reducible refine Kd.C_drewN ?_ _) | (with_reducible refine Kd.C_drew ?_))); (case side2 => exact HC120_9.out); rintro e w35 ⟨rfl, hb⟩; have n0_ := Aside0.mk (Kd.R_below (by (with_reducible repeat (first | apply Kd.R_alloc | apply Kd.R_drewN | apply Kd.R_drew)); exact HO_3.out) hb); have n1_ := Aside0.mk (blk_below (g := gb103) (o := .cells #[.string a0_0, .slice (some ad104) l0_1.length c0_1, .int .i64 a0_2, .int .i64 a0_3, .bool a0_4, .slice (some ad108) l0_5.length c0_5] 40 (0, 0)) (by (with_reducible repeat (first | refine blk_drewN ?_ _ | refine blk_drew ?_ | refine blk_alloc ?_ _)); exact BK103.out) hb); have n2_ := Aside0.mk (below_step (by repeat (first | (with_reducible first | exact HB.out | apply below_alloc | apply pw_below_drewN | apply below_drew1 | refine below_set ?_ GE103.out) | exact HB.out)) hb); clear HO_3; clear BK103; clear HB; have HO_3 := n0_; have BK103 := n1_; have HB := n2_; clear n0_ n1_ n2_; (try clear hb); (try clear hb2); (try clear hk); (try clear hi)))
                                      go_roundg kj9
                                      case measure => have := HK1.out; have := HK2.out; have := HK3.out; have := HJ9.out; omega
                                      case rel => exact ⟨(false), (wrap64 (x8_3 + 1)), (by first | rfl | (simp; done) | (simp [*]; done)), (by first | rfl | (simp; done) | (simp [*]; done)), H', ⟨by have := HK1.out; have := HK2.out; have := HK3.out; have := HJ9.out; omega⟩, ⟨by (with_reducible repeat (first | apply Kd.R_alloc | apply Kd.R_drewN | apply Kd.R_drew)); exact HO_3.out⟩, ⟨by (with_reducible repeat (first | refine blk_drewN ?_ _ | refine blk_drew ?_ | refine blk_alloc ?_ _)); exact BK103.out⟩, ⟨by repeat (first | (with_reducible first | exact HB.out | apply below_alloc | apply pw_below_drewN | apply below_drew1 | refine below_set ?_ GE103.out) | exact HB.out)⟩⟩
                                    · replace c34 := Bool.eq_false_iff.mpr c34
                                      subst c34
                                      have H1 : (ferruleref15_Plain.l2 kj9 x3_1 x4_1 x5_3 x6_2 ((rd_T61 l0_5 x6_2).f0) (wrap64 (x8_3 + 1)) a0_0 l0_1 a0_2 a0_3 a0_4 l0_5) = some r := by rw [if_neg (show ¬ (false = true) by decide)] at H; exact H
                                      clear H
                                      have H := H1
                                      clear H1
                                      have H' := Aside0.mk H
                                      clear H
                                      have p119 : 0 ≤ (x8_3 : Int) := of_decide_eq_true (by first | (with_reducible assumption) | assumption)
                                      have q119 : x8_3 < (((rd_T61 l0_5 x6_2).f0).length : Int) := of_decide_eq_true (by first | (with_reducible assumption) | assumption)
                                      obtain ⟨ad119, A119_7, c119_7, A119_9, c119_9, A119_15, c119_15, A119_16, c119_16, A119_17, c119_17, e119, hx119_0, hx119_1, hx119_2, hx119_3, hx119_4, hx119_5, hx119_6, hx119_7, hx119_8, hx119_9, hx119_10, hx119_11, hx119_12, hx119_13, hx119_14, hx119_15, hx119_16, hx119_17, hl119_7, hi119_7, hl119_9, hi119_9, hl119_15, hi119_15, hl119_16, hi119_16, hl119_17, hi119_17⟩ := at_T69 HR108_0.out x8_3 p119 q119
                                      cases e119
                                      replace hx119_0 := (HB.out.cell (World.block_lt_of_cell? w _ hx119_0)).trans hx119_0
                                      replace hx119_1 := (HB.out.cell (World.block_lt_of_cell? w _ hx119_1)).trans hx119_1
                                      replace hx119_2 := (HB.out.cell (World.block_lt_of_cell? w _ hx119_2)).trans hx119_2
                                      replace hx119_3 := (HB.out.cell (World.block_lt_of_cell? w _ hx119_3)).trans hx119_3
                                      replace hx119_4 := (HB.out.cell (World.block_lt_of_cell? w _ hx119_4)).trans hx119_4
                                      replace hx119_5 := (HB.out.cell (World.block_lt_of_cell? w _ hx119_5)).trans hx119_5
                                      replace hx119_6 := (HB.out.cell (World.block_lt_of_cell? w _ hx119_6)).trans hx119_6
                                      replace hx119_7 := (HB.out.cell (World.block_lt_of_cell? w _ hx119_7)).trans hx119_7
                                      replace hx119_8 := (HB.out.cell (World.block_lt_of_cell? w _ hx119_8)).trans hx119_8
                                      replace hx119_9 := (HB.out.cell (World.block_lt_of_cell? w _ hx119_9)).trans hx119_9
                                      replace hx119_10 := (HB.out.cell (World.block_lt_of_cell? w _ hx119_10)).trans hx119_10
                                      replace hx119_11 := (HB.out.cell (World.block_lt_of_cell? w _ hx119_11)).trans hx119_11
                                      replace hx119_12 := (HB.out.cell (World.block_lt_of_cell? w _ hx119_12)).trans hx119_12
                                      replace hx119_13 := (HB.out.cell (World.block_lt_of_cell? w _ hx119_13)).trans hx119_13
                                      replace hx119_14 := (HB.out.cell (World.block_lt_of_cell? w _ hx119_14)).trans hx119_14
                                      replace hx119_15 := (HB.out.cell (World.block_lt_of_cell? w _ hx119_15)).trans hx119_15
                                      replace hx119_16 := (HB.out.cell (World.block_lt_of_cell? w _ hx119_16)).trans hx119_16
                                      replace hx119_17 := (HB.out.cell (World.block_lt_of_cell? w _ hx119_17)).trans hx119_17
                                      have HR119_7 := Aside0.mk hi119_7
                                      have HC119_7 := Aside0.mk hl119_7
                                      clear hi119_7 hl119_7
                                      have HR119_9 := Aside0.mk hi119_9
                                      have HC119_9 := Aside0.mk hl119_9
                                      clear hi119_9 hl119_9
                                      have HR119_15 := Aside0.mk hi119_15
                                      have HC119_15 := Aside0.mk hl119_15
                                      clear hi119_15 hl119_15
                                      have HR119_16 := Aside0.mk hi119_16
                                      have HC119_16 := Aside0.mk hl119_16
                                      clear hi119_16 hl119_16
                                      have HR119_17 := Aside0.mk hi119_17
                                      have HC119_17 := Aside0.mk hl119_17
                                      clear hi119_17 hl119_17
                                      replace p119 := eq_true p119
                                      replace q119 := eq_true q119
                                      have p120 : 0 ≤ (x8_3 : Int) := of_decide_eq_true (by first | (with_reducible assumption) | assumption)
                                      have q120 : x8_3 < (((rd_T61 l0_5 x6_2).f0).length : Int) := of_decide_eq_true (by first | (with_reducible assumption) | assumption)
                                      obtain ⟨ad120, A120_7, c120_7, A120_9, c120_9, A120_15, c120_15, A120_16, c120_16, A120_17, c120_17, e120, hx120_0, hx120_1, hx120_2, hx120_3, hx120_4, hx120_5, hx120_6, hx120_7, hx120_8, hx120_9, hx120_10, hx120_11, hx120_12, hx120_13, hx120_14, hx120_15, hx120_16, hx120_17, hl120_7, hi120_7, hl120_9, hi120_9, hl120_15, hi120_15, hl120_16, hi120_16, hl120_17, hi120_17⟩ := at_T69 HR108_0.out x8_3 p120 q120
                                      obtain rfl : ad119 = ad120 := (by injection e120)
                                      replace hx120_0 := (HB.out.cell (World.block_lt_of_cell? w _ hx120_0)).trans hx120_0
                                      replace hx120_1 := (HB.out.cell (World.block_lt_of_cell? w _ hx120_1)).trans hx120_1
                                      replace hx120_2 := (HB.out.cell (World.block_lt_of_cell? w _ hx120_2)).trans hx120_2
                                      replace hx120_3 := (HB.out.cell (World.block_lt_of_cell? w _ hx120_3)).trans hx120_3
                                      replace hx120_4 := (HB.out.cell (World.block_lt_of_cell? w _ hx120_4)).trans hx120_4
                                      replace hx120_5 := (HB.out.cell (World.block_lt_of_cell? w _ hx120_5)).trans hx120_5
                                      replace hx120_6 := (HB.out.cell (World.block_lt_of_cell? w _ hx120_6)).trans hx120_6
                                      replace hx120_7 := (HB.out.cell (World.block_lt_of_cell? w _ hx120_7)).trans hx120_7
                                      replace hx120_8 := (HB.out.cell (World.block_lt_of_cell? w _ hx120_8)).trans hx120_8
                                      replace hx120_9 := (HB.out.cell (World.block_lt_of_cell? w _ hx120_9)).trans hx120_9
                                      replace hx120_10 := (HB.out.cell (World.block_lt_of_cell? w _ hx120_10)).trans hx120_10
                                      replace hx120_11 := (HB.out.cell (World.block_lt_of_cell? w _ hx120_11)).trans hx120_11
                                      replace hx120_12 := (HB.out.cell (World.block_lt_of_cell? w _ hx120_12)).trans hx120_12
                                      replace hx120_13 := (HB.out.cell (World.block_lt_of_cell? w _ hx120_13)).trans hx120_13
                                      replace hx120_14 := (HB.out.cell (World.block_lt_of_cell? w _ hx120_14)).trans hx120_14
                                      replace hx120_15 := (HB.out.cell (World.block_lt_of_cell? w _ hx120_15)).trans hx120_15
                                      replace hx120_16 := (HB.out.cell (World.block_lt_of_cell? w _ hx120_16)).trans hx120_16
                                      replace hx120_17 := (HB.out.cell (World.block_lt_of_cell? w _ hx120_17)).trans hx120_17
                                      have HR120_7 := Aside0.mk hi120_7
                                      have HC120_7 := Aside0.mk hl120_7
                                      clear hi120_7 hl120_7
                                      have HR120_9 := Aside0.mk hi120_9
                                      have HC120_9 := Aside0.mk hl120_9
                                      clear hi120_9 hl120_9
                                      have HR120_15 := Aside0.mk hi120_15
                                      have HC120_15 := Aside0.mk hl120_15
                                      clear hi120_15 hl120_15
                                      have HR120_16 := Aside0.mk hi120_16
                                      have HC120_16 := Aside0.mk hl120_16
                                      clear hi120_16 hl120_16
                                      have HR120_17 := Aside0.mk hi120_17
                                      have HC120_17 := Aside0.mk hl120_17
                                      clear hi120_17 hl120_17
                                      replace p120 := eq_true p120
                                      replace q120 := eq_true q120
                                      have ea_ := Option.some.inj (hx119_7.symm.trans hx120_7)
                                      injection ea_ with ea_ en_ ec_
                                      subst ea_
                                      subst ec_
                                      clear en_
                                      have ea_ := Option.some.inj (hx119_9.symm.trans hx120_9)
                                      injection ea_ with ea_ en_ ec_
                                      subst ea_
                                      subst ec_
                                      clear en_
                                      have ea_ := Option.some.inj (hx119_15.symm.trans hx120_15)
                                      injection ea_ with ea_ en_ ec_
                                      subst ea_
                                      subst ec_
                                      clear en_
                                      have ea_ := Option.some.inj (hx119_16.symm.trans hx120_16)
                                      injection ea_ with ea_ en_ ec_
                                      subst ea_
                                      subst ec_
                                      clear en_
                                      have ea_ := Option.some.inj (hx119_17.symm.trans hx120_17)
                                      injection ea_ with ea_ en_ ec_
                                      subst ea_
                                      subst ec_
                                      clear en_
                                      go_wp2_with (first | (go_at_call 22; (with_reducible refine (ferruleref15_made.calls ((rd_T69 ((rd_T61 l0_5 x6_2).f0) x8_3).f5.f0) _ _ ((rd_T69 ((rd_T61 l0_5 x6_2).f0) x8_3).f5.f1) x4_1 false _ ?side1 ?side2 A33.out).mono ?_); (case side1 => repeat (first | exact (Kd.C_below HR120_9.out HB.out) | (with_reducible refine Kd.C_alloc ?_ _) | (with_reducible refine Kd.C_drewN ?_ _) | (with_reducible refine Kd.C_drew ?_))); (case side2 => exact HC120_9.out); rintro e w36 ⟨rfl, hb⟩; have n0_ := Aside0.mk (Kd.R_below (by (with_reducible repeat (first | apply Kd.R_alloc | apply Kd.R_drewN | apply Kd.R_drew)); exact HO_3.out) hb); have n1_ := Aside0.mk (blk_below (g := gb103) (o := .cells #[.string a0_0, .slice (some ad104) l0_1.length c0_1, .int .i64 a0_2, .int .i64 a0_3, .bool a0_4, .slice (some ad108) l0_5.length c0_5] 40 (0, 0)) (by (with_reducible repeat (first | refine blk_drewN ?_ _ | refine blk_drew ?_ | refine blk_alloc ?_ _)); exact BK103.out) hb); have n2_ := Aside0.mk (below_step (by repeat (first | (with_reducible first | exact HB.out | apply below_alloc | apply pw_below_drewN | apply below_drew1 | refine below_set ?_ GE103.out) | exact HB.out)) hb); clear HO_3; clear BK103; clear HB; have HO_3 := n0_; have BK103 := n1_; have HB := n2_; clear n0_ n1_ n2_; (try clear hb); (try clear hb2); (try clear hk); (try clear hi)))
                                      go_roundg kj9
                                      case measure => have := HK1.out; have := HK2.out; have := HK3.out; have := HJ9.out; omega
                                      case rel => exact ⟨(x5_3), (wrap64 (x8_3 + 1)), (by first | rfl | (simp; done) | (simp [*]; done)), (by first | rfl | (simp; done) | (simp [*]; done)), H', ⟨by have := HK1.out; have := HK2.out; have := HK3.out; have := HJ9.out; omega⟩, ⟨by (with_reducible repeat (first | apply Kd.R_alloc | apply Kd.R_drewN | apply Kd.R_drew)); exact HO_3.out⟩, ⟨by (with_reducible repeat (first | refine blk_drewN ?_ _ | refine blk_drew ?_ | refine blk_alloc ?_ _)); exact BK103.out⟩, ⟨by repeat (first | (with_reducible first | exact HB.out | apply below_alloc | apply pw_below_drewN | apply below_drew1 | refine below_set ?_ GE103.out) | exact HB.out)⟩⟩
                                  · rw [if_neg c32] at H
                                    have c32b0 : (((rd_T69 ((rd_T61 l0_5 x6_2).f0) x8_3).f0) == 5) = false := beq_eq_false_iff_ne.mpr c32
                                    have c32b1 : (((rd_T69 ((rd_T61 l0_5 x6_2).f0) x8_3).f0) != 5) = true := bne_iff_ne.mpr c32
                                    have H' := Aside0.mk H
                                    clear H
                                    have p119 : 0 ≤ (x8_3 : Int) := of_decide_eq_true (by first | (with_reducible assumption) | assumption)
                                    have q119 : x8_3 < (((rd_T61 l0_5 x6_2).f0).length : Int) := of_decide_eq_true (by first | (with_reducible assumption) | assumption)
                                    obtain ⟨ad119, A119_7, c119_7, A119_9, c119_9, A119_15, c119_15, A119_16, c119_16, A119_17, c119_17, e119, hx119_0, hx119_1, hx119_2, hx119_3, hx119_4, hx119_5, hx119_6, hx119_7, hx119_8, hx119_9, hx119_10, hx119_11, hx119_12, hx119_13, hx119_14, hx119_15, hx119_16, hx119_17, hl119_7, hi119_7, hl119_9, hi119_9, hl119_15, hi119_15, hl119_16, hi119_16, hl119_17, hi119_17⟩ := at_T69 HR108_0.out x8_3 p119 q119
                                    cases e119
                                    replace hx119_0 := (HB.out.cell (World.block_lt_of_cell? w _ hx119_0)).trans hx119_0
                                    replace hx119_1 := (HB.out.cell (World.block_lt_of_cell? w _ hx119_1)).trans hx119_1
                                    replace hx119_2 := (HB.out.cell (World.block_lt_of_cell? w _ hx119_2)).trans hx119_2
                                    replace hx119_3 := (HB.out.cell (World.block_lt_of_cell? w _ hx119_3)).trans hx119_3
                                    replace hx119_4 := (HB.out.cell (World.block_lt_of_cell? w _ hx119_4)).trans hx119_4
                                    replace hx119_5 := (HB.out.cell (World.block_lt_of_cell? w _ hx119_5)).trans hx119_5
                                    replace hx119_6 := (HB.out.cell (World.block_lt_of_cell? w _ hx119_6)).trans hx119_6
                                    replace hx119_7 := (HB.out.cell (World.block_lt_of_cell? w _ hx119_7)).trans hx119_7
                                    replace hx119_8 := (HB.out.cell (World.block_lt_of_cell? w _ hx119_8)).trans hx119_8
                                    replace hx119_9 := (HB.out.cell (World.block_lt_of_cell? w _ hx119_9)).trans hx119_9
                                    replace hx119_10 := (HB.out.cell (World.block_lt_of_cell? w _ hx119_10)).trans hx119_10
                                    replace hx119_11 := (HB.out.cell (World.block_lt_of_cell? w _ hx119_11)).trans hx119_11
                                    replace hx119_12 := (HB.out.cell (World.block_lt_of_cell? w _ hx119_12)).trans hx119_12
                                    replace hx119_13 := (HB.out.cell (World.block_lt_of_cell? w _ hx119_13)).trans hx119_13
                                    replace hx119_14 := (HB.out.cell (World.block_lt_of_cell? w _ hx119_14)).trans hx119_14
                                    replace hx119_15 := (HB.out.cell (World.block_lt_of_cell? w _ hx119_15)).trans hx119_15
                                    replace hx119_16 := (HB.out.cell (World.block_lt_of_cell? w _ hx119_16)).trans hx119_16
                                    replace hx119_17 := (HB.out.cell (World.block_lt_of_cell? w _ hx119_17)).trans hx119_17
                                    have HR119_7 := Aside0.mk hi119_7
                                    have HC119_7 := Aside0.mk hl119_7
                                    clear hi119_7 hl119_7
                                    have HR119_9 := Aside0.mk hi119_9
                                    have HC119_9 := Aside0.mk hl119_9
                                    clear hi119_9 hl119_9
                                    have HR119_15 := Aside0.mk hi119_15
                                    have HC119_15 := Aside0.mk hl119_15
                                    clear hi119_15 hl119_15
                                    have HR119_16 := Aside0.mk hi119_16
                                    have HC119_16 := Aside0.mk hl119_16
                                    clear hi119_16 hl119_16
                                    have HR119_17 := Aside0.mk hi119_17
                                    have HC119_17 := Aside0.mk hl119_17
                                    clear hi119_17 hl119_17
                                    replace p119 := eq_true p119
                                    replace q119 := eq_true q119
                                    go_wp2
                                    go_roundg kj9
                                    case measure => have := HK1.out; have := HK2.out; have := HK3.out; have := HJ9.out; omega
                                    case rel => exact ⟨(x5_3), (wrap64 (x8_3 + 1)), (by first | rfl | (simp; done) | (simp [*]; done)), (by first | rfl | (simp; done) | (simp [*]; done)), H', ⟨by have := HK1.out; have := HK2.out; have := HK3.out; have := HJ9.out; omega⟩, ⟨by (with_reducible repeat (first | apply Kd.R_alloc | apply Kd.R_drewN | apply Kd.R_drew)); exact HO_3.out⟩, ⟨by (with_reducible repeat (first | refine blk_drewN ?_ _ | refine blk_drew ?_ | refine blk_alloc ?_ _)); exact BK103.out⟩, ⟨by repeat (first | (with_reducible first | exact HB.out | apply below_alloc | apply pw_below_drewN | apply below_drew1 | refine below_set ?_ GE103.out) | exact HB.out)⟩⟩
                                · rw [if_neg c31] at H
                                  exact absurd H (by simp)
                              · rw [if_neg c30] at H
                                exact absurd H (by simp)
                      · rw [if_neg c9] at H
                        have c9b0 : decide (x8_3 < (((rd_T61 l0_5 x6_2).f0).length : Int)) = false := decide_eq_false c9
                        clear c9
                        have H' := Aside0.mk H
                        clear H
                        go_wp2
                        go_roundg k3
                        case measure => have := HK1.out; have := HK2.out; have := HK3.out; omega
                        case rel => exact ⟨(x5_3), (wrap64 (x6_2 + 1)), (by first | rfl | (simp; done) | (simp [*]; done)), (by first | rfl | (simp; done) | (simp [*]; done)), H', ⟨by have := HK1.out; have := HK2.out; have := HK3.out; omega⟩, ⟨by (with_reducible repeat (first | apply Kd.R_alloc | apply Kd.R_drewN | apply Kd.R_drew)); exact HO_3.out⟩, ⟨by (with_reducible repeat (first | refine blk_drewN ?_ _ | refine blk_drew ?_ | refine blk_alloc ?_ _)); exact BK103.out⟩, ⟨by repeat (first | (with_reducible first | exact HB.out | apply below_alloc | apply pw_below_drewN | apply below_drew1 | refine below_set ?_ GE103.out) | exact HB.out)⟩⟩
                · rw [if_neg c7] at H
                  exact absurd H (by simp)
              · rw [if_neg c6] at H
                have c6b0 : decide (x6_2 < (l0_5.length : Int)) = false := decide_eq_false c6
                clear c6
                by_cases c37 : x3_1.length < 140737488355328
                · rw [if_pos c37] at H
                  have LMc37 := Aside0.mk c37
                  clear c37
                  obtain ⟨y105, hy105⟩ : ∃ y_ : List Bool, y_ = (x3_1 ++ [x5_2]) := ⟨_, rfl⟩
                  replace H : (ferruleref15_Plain.l0 k2 y105 (wrap64 (x4_1 + 1)) a0_0 l0_1 a0_2 a0_3 a0_4 l0_5) = some r := by first | (rw [hy105]; with_reducible exact H) | (have H2_ := (Option.bind_some _ _).symm.trans H; rw [hy105]; with_reducible exact H2_) | (have H2_ := (Option.bind_some _ _).symm.trans H; with_reducible exact H2_) | with_reducible exact H | (rw [hy105]; exact H) | exact H
                  have Ny105 := Aside0.mk hy105
                  clear hy105
                  have H' := Aside0.mk H
                  clear H
                  have hcz38_0 : wr.cell? ⟨gb103, 0, none⟩ = some (.string a0_0) := (blk_cell BK103.out 0).trans rfl
                  have hcz38_1 : wr.cell? ⟨gb103, 1, none⟩ = some (.slice (some ad104) l0_1.length c0_1) := (blk_cell BK103.out 1).trans rfl
                  have hcz38_2 : wr.cell? ⟨gb103, 2, none⟩ = some (.int .i64 a0_2) := (blk_cell BK103.out 2).trans rfl
                  have hcz38_3 : wr.cell? ⟨gb103, 3, none⟩ = some (.int .i64 a0_3) := (blk_cell BK103.out 3).trans rfl
                  have hcz38_4 : wr.cell? ⟨gb103, 4, none⟩ = some (.bool a0_4) := (blk_cell BK103.out 4).trans rfl
                  have hcz38_5 : wr.cell? ⟨gb103, 5, none⟩ = some (.slice A0_5 l0_5.length c0_5) := (blk_cell BK103.out 5).trans rfl
                  have hfz38_0 := blk_frozen BK103.out 0
                  have hfz38_1 := blk_frozen BK103.out 1
                  have hfz38_2 := blk_frozen BK103.out 2
                  have hfz38_3 := blk_frozen BK103.out 3
                  have hfz38_4 := blk_frozen BK103.out 4
                  have hfz38_5 := blk_frozen BK103.out 5
                  go_wp2_with (first | ((with_reducible refine gate_builtin (b := .append) (xs := #[.tmp 107, .tmp 109]) rfl ?_); at_builtin; refine Kd.R_append Kd.bool (w0 := w) w.heap.size rfl (.tmp 107) (.tmp 109) 35 4 (.bool false) 1 rfl Try.underlying35 info4 rfl (by decide) (by omega) u3 x3_1 x5_2 [.bool x5_2] (fun _ => True) (fun _ => False) rfl rfl ?aP (fun _ hk => hk.elim) ?aF ?aO ?aB ?aS ?aL ?_; (case aP => exact rfl); (case aB => exact (by repeat (first | (with_reducible first | exact HB.out | apply below_alloc | apply pw_below_drewN | apply below_drew1 | refine below_set ?_ GE103.out) | exact HB.out))); (case aF => exact (fun _ _ => trivial)); (case aO => exact (by (with_reducible repeat (first | apply Kd.R_alloc | apply Kd.R_drewN | apply Kd.R_drew)); exact HO_3.out)); (case aS => exact (below_size (by repeat (first | (with_reducible first | exact HB.out | apply below_alloc | apply pw_below_drewN | apply below_drew1 | refine below_set ?_ GE103.out) | exact HB.out)))); (case aL => have := LMc37.out; omega); intro v106 w39 ho hb hg hat; rw [← Ny105.out] at ho; have n0_ := Aside0.mk (blk_grown (g := gb103) (o := .cells #[.string a0_0, .slice (some ad104) l0_1.length c0_1, .int .i64 a0_2, .int .i64 a0_3, .bool a0_4, .slice A0_5 l0_5.length c0_5] 40 (0, 0)) (by (with_reducible repeat (first | refine blk_drewN ?_ _ | refine blk_drew ?_ | refine blk_alloc ?_ _)); exact BK103.out) hg (Kd.R_ne HO_3.out BK103.out (by decide))); have n1_ := Aside0.mk (hb); have n2_ := Aside0.mk (ho); clear BK103; clear HB; clear HO_3; have BK103 := n0_; have HB := n1_; have HO107 := n2_; clear n0_ n1_ n2_; clear ho hb hg hat))
                  go_roundg k2
                  case measure => have := HK1.out; have := HK2.out; omega
                  case rel => exact ⟨(y105), (wrap64 (x4_1 + 1)), (by first | rfl | (simp; done) | (simp [*]; done)), H', ⟨by have := HK1.out; have := HK2.out; omega⟩, ⟨by (with_reducible repeat (first | apply Kd.R_alloc | apply Kd.R_drewN | apply Kd.R_drew)); exact HO107.out⟩, ⟨by (with_reducible repeat (first | refine blk_drewN ?_ _ | refine blk_drew ?_ | refine blk_alloc ?_ _)); exact BK103.out⟩, ⟨by repeat (first | (with_reducible first | exact HB.out | apply below_alloc | apply pw_below_drewN | apply below_drew1 | refine below_set ?_ GE103.out) | exact HB.out)⟩⟩
                · rw [if_neg c37] at H
                  exact absurd H (by simp)
        · rw [if_neg c4] at H
          exact absurd H (by simp)
      · rw [if_neg c3] at H
        have c3b0 : decide (x4_1 < (l0_1.length : Int)) = false := decide_eq_false c3
        clear c3
        obtain rfl := Option.some.inj H
        have hcz40_0 : wr.cell? ⟨gb103, 0, none⟩ = some (.string a0_0) := (blk_cell BK103.out 0).trans rfl
        have hcz40_1 : wr.cell? ⟨gb103, 1, none⟩ = some (.slice A0_1 l0_1.length c0_1) := (blk_cell BK103.out 1).trans rfl
        have hcz40_2 : wr.cell? ⟨gb103, 2, none⟩ = some (.int .i64 a0_2) := (blk_cell BK103.out 2).trans rfl
        have hcz40_3 : wr.cell? ⟨gb103, 3, none⟩ = some (.int .i64 a0_3) := (blk_cell BK103.out 3).trans rfl
        have hcz40_4 : wr.cell? ⟨gb103, 4, none⟩ = some (.bool a0_4) := (blk_cell BK103.out 4).trans rfl
        have hcz40_5 : wr.cell? ⟨gb103, 5, none⟩ = some (.slice A0_5 l0_5.length c0_5) := (blk_cell BK103.out 5).trans rfl
        have hfz40_0 := blk_frozen BK103.out 0
        have hfz40_1 := blk_frozen BK103.out 1
        have hfz40_2 := blk_frozen BK103.out 2
        have hfz40_3 := blk_frozen BK103.out 3
        have hfz40_4 := blk_frozen BK103.out 4
        have hfz40_5 := blk_frozen BK103.out 5
        go_wp2
        go_ret
        exact ⟨_, by first | rfl | (simp [errW_none, errW_some] <;> rfl) | (simp [*, errW_none, errW_some] <;> rfl), by (with_reducible repeat (first | apply Kd.R_alloc | apply Kd.R_drewN | apply Kd.R_drew)); exact HO_3.out, by repeat (first | (with_reducible first | exact HB.out | apply below_alloc | apply pw_below_drewN | apply below_drew1 | refine below_set ?_ GE103.out) | exact HB.out)⟩

end Go.Proofs.Ytocjfdpknfnamaa.QFoldPlain
