/- Steps toward the law Fuel, merged from several texts (some of them began as the kit's print). No condition. -/
import Derived.Test.YtpphpcmbpbppoaaZFuel10
section
namespace Go.Proofs.Ytpphpcmbpbppoaa.PMirFuel
open Go.RowKit Go.Proofs.YtpphpcmbpbppoaaW.PrintWords Go.Proofs.YtpphpcmbpbppoaaW.PrintLast Go.Proofs.YtpphpcmbpbppoaaW.PrintMore
attribute [local go_sem] max2_int min2_int max_two min_two max_three min_three max_four min_four   
set_option linter.unusedVariables false
set_option linter.unusedSimpArgs false
def mir_width.l0 : Nat → Int → List Int → Int → Int → Option (Int)
 | 0, _, _, _, _ => none
 | k + 1, x3, x10, x11, x12 => if x12 < x11 then (if 0 ≤ x12 then (if x12 < (x10.length : Int) then (mir_width.l0 k (wrap64 (x3 + (rd x10 x12))) x10 x11 (wrap64 (x12 + 1))) else (none)) else (none)) else (some x3)
def mir_width.f (k : Nat) (a0_0 : ByteArray) (l0_1 : List Int) (a0_2 : Int) (a0_3 : Int) (a0_4 : Bool) (l0_5 : List (S45)) : Option (Int) := if 0 ≤ a0_2 then (if a0_2 ≤ (l0_1.length : Int) then (mir_width.l0 k 0 (l0_1.take (a0_2 : Int).toNat) ((l0_1.take (a0_2 : Int).toNat).length : Int) 0) else (none)) else (none)
theorem mir_width.mono_l : ∀ k, (∀ y0 y1 y2 y3, LeO (mir_width.l0 k y0 y1 y2 y3) (mir_width.l0 (k + 1) y0 y1 y2 y3))
 | 0 => fun _ _ _ _ r h => by simp [mir_width.l0] at h
 | k + 1 => by
  have ih0 := mir_width.mono_l k
  ·intro y0 y1 y2 y3
   unfold mir_width.l0
   repeat' first
   | (with_reducible exact ih0 _ _ _ _)
   | (with_reducible exact LeO.refl _)
   | (with_reducible exact LeO.none _)
   | (with_reducible refine LeO.ite ?_ ?_)
   | (with_reducible refine LeO.bind ?_ (fun _ => ?_))
   | exact ih0 _ _ _ _
   | exact LeO.none _
   | refine LeO.ite ?_ ?_
   | refine LeO.bind ?_ (fun _ => ?_)
theorem mir_width.mono : ∀ a0 a1 a2 a3 a4 a5 k, LeO (mir_width.f k a0 a1 a2 a3 a4 a5) (mir_width.f (k + 1) a0 a1 a2 a3 a4 a5) := by
 intro a0 a1 a2 a3 a4 a5 k
 have ih0 := mir_width.mono_l k
 unfold mir_width.f
 repeat' first
   | (with_reducible exact ih0 _ _ _ _)
   | (with_reducible exact LeO.refl _)
   | (with_reducible exact LeO.none _)
   | (with_reducible refine LeO.ite ?_ ?_)
   | (with_reducible refine LeO.bind ?_ (fun _ => ?_))
   | exact ih0 _ _ _ _
   | exact LeO.none _
   | refine LeO.ite ?_ ?_
   | refine LeO.bind ?_ (fun _ => ?_)
set_option maxHeartbeats 8000000 in
set_option maxRecDepth 100000 in
theorem mir_width.calls (k : Nat) (a0_0 : ByteArray) (A0_1 : Option Addr) (c0_1 : Nat) (l0_1 : List Int) (a0_2 : Int) (a0_3 : Int) (a0_4 : Bool) (A0_5 : Option Addr) (c0_5 : Nat) (l0_5 : List (S45)) (r : Int) (w : World) (hr0_1 : Kd.C (Kd.int .i64) w A0_1 l0_1.length l0_1) (hc0_1 : l0_1.length ≤ c0_1) (hr0_5 : Kd.C k45 w A0_5 l0_5.length l0_5) (hc0_5 : l0_5.length ≤ c0_5) (h : mir_width.f k a0_0 l0_1 a0_2 a0_3 a0_4 l0_5 = some r) :
  Calls Try.prog 56 #[.agg #[.string a0_0, .slice A0_1 l0_1.length c0_1, .int .i64 a0_2, .int .i64 a0_3, .bool a0_4, .slice A0_5 l0_5.length c0_5]] w fun e w' => e = .returned (.int .i64 r) ∧ Below w.heap.size w w' := by
 have hu48 := Try.underlying48
 have HR0_1 := Aside0.mk hr0_1
 have HC0_1 := Aside0.mk hc0_1
 clear hr0_1 hc0_1
 have HR0_5 := Aside0.mk hr0_5
 have HC0_5 := Aside0.mk hc0_5
 clear hr0_5 hc0_5
 have HB := Aside0.mk (Below.refl w.heap.size w)
 have H : (if 0 ≤ a0_2 then (if a0_2 ≤ (l0_1.length : Int) then (mir_width.l0 k 0 (l0_1.take (a0_2 : Int).toNat) ((l0_1.take (a0_2 : Int).toNat).length : Int) 0) else (none)) else (none)) = some r := h
 clear h
 by_cases c2 : 0 ≤ a0_2
 ·rw [if_pos c2] at H
  have c2b0 := eq_true c2
  have c2b1 : decide (0 ≤ a0_2) = true := decide_eq_true c2
  clear c2
  by_cases c3 : a0_2 ≤ (l0_1.length : Int)
  ·rw [if_pos c3] at H
   have c3b0 := eq_true c3
   have c3b1 : decide (a0_2 ≤ (l0_1.length : Int)) = true := decide_eq_true c3
   clear c3
   have H' := Aside0.mk H
   clear H
   go_enter Try.func56, Try.ntmps56
   go_wp2_with (first | ((with_reducible refine gate_dst (N := 1) rfl ?_); refine box_event ?hg (N := 1) ?hd (cs := #[.string a0_0, .slice A0_1 l0_1.length c0_1, .int .i64 a0_2, .int .i64 a0_3, .bool a0_4, .slice A0_5 l0_5.length c0_5]) (t := 48) ?hr ?_; (case hd => rfl); (case hg => rfl); (case hr => first | (go_simp; done) | (go_simp; rfl)); intro gb102 hg w4 hbox hb; have n0_ := Aside0.mk (below_step (by repeat (first | (with_reducible first | exact HB.out | apply below_alloc | apply pw_below_drewN | apply below_drew1) | exact HB.out)) hb); have n1_ := Aside0.mk (hbox); have n2_ := Aside0.mk ((by rw [hg]; exact (below_size (by repeat (first | (with_reducible first | exact HB.out | apply below_alloc | apply pw_below_drewN | apply below_drew1) | exact HB.out))) : w.heap.size ≤ gb102)); have n3_ := Aside0.mk ((by rw [hg]; exact (below_size (by repeat (first | (with_reducible first | exact HB.out | apply below_alloc | apply pw_below_drewN | apply below_drew1) | exact HB.out))) : w.heap.size ≤ gb102)); clear HB; have HB := n0_; have BK102 := n1_; have GW102 := n2_; have GE102 := n3_; clear n0_ n1_ n2_ n3_; clear hb hbox hg; have hcz5_0 : w4.cell? ⟨gb102, 0, none⟩ = some (.string a0_0) := (blk_cell BK102.out 0).trans rfl; have hcz5_1 : w4.cell? ⟨gb102, 1, none⟩ = some (.slice A0_1 l0_1.length c0_1) := (blk_cell BK102.out 1).trans rfl; have hcz5_2 : w4.cell? ⟨gb102, 2, none⟩ = some (.int .i64 a0_2) := (blk_cell BK102.out 2).trans rfl; have hcz5_3 : w4.cell? ⟨gb102, 3, none⟩ = some (.int .i64 a0_3) := (blk_cell BK102.out 3).trans rfl; have hcz5_4 : w4.cell? ⟨gb102, 4, none⟩ = some (.bool a0_4) := (blk_cell BK102.out 4).trans rfl; have hcz5_5 : w4.cell? ⟨gb102, 5, none⟩ = some (.slice A0_5 l0_5.length c0_5) := (blk_cell BK102.out 5).trans rfl; have hfz5_0 := blk_frozen BK102.out 0; have hfz5_1 := blk_frozen BK102.out 1; have hfz5_2 := blk_frozen BK102.out 2; have hfz5_3 := blk_frozen BK102.out 3; have hfz5_4 := blk_frozen BK102.out 4; have hfz5_5 := blk_frozen BK102.out 5; obtain ⟨i06, hi06, _, hsz6, _⟩ := info_parts info3; obtain ⟨hcut6, hA6, hC6⟩ := print_take_of (P := Try.prog) (Value.int .i64) 0 23 3 .i64 Try.underlying23 hi06 hsz6 A0_1 c0_1 l0_1 a0_2 (of_decide_eq_true (by first | (with_reducible assumption) | assumption)) (of_decide_eq_true (by first | (with_reducible assumption) | assumption)) HC0_1.out; have HR103 := Aside0.mk (Kd.C_of_reads (h1 := fun _ => rfl) (hA6 _ (Kd.reads_of_C HR0_1.out))); have HC103 := Aside0.mk hC6; clear hA6 hC6 hi06 hsz6))
   have HCC := Aside0.mk (show 0 ≤ a0_2 ∧ a0_2 ≤ (l0_1.length : Int) from ⟨by simpa using c2b1, by simpa using c3b1⟩)
   go_loopg [3, 12] k (fun kq v3 v12 w' => ∃ (x3_1 : Int) (x12_1 : Int), v3 = .int .i64 x3_1 ∧ v12 = .int .i64 x12_1 ∧ Aside0 (mir_width.l0 kq x3_1 (l0_1.take (a0_2 : Int).toNat) ((l0_1.take (a0_2 : Int).toNat).length : Int) x12_1 = some r) ∧ Aside0 (kq ≤ k) ∧ Aside0 (w'.heap[gb102]? = some (.cells #[.string a0_0, (.slice A0_1 l0_1.length c0_1), .int .i64 a0_2, .int .i64 a0_3, .bool a0_4, (.slice A0_5 l0_5.length c0_5)] 48 (0, 0))) ∧ Aside0 (Below w.heap.size w w'))
   case atStart => exact ⟨(0), (0), (by first | rfl | (simp; done) | (simp [*]; done)), (by first | rfl | (simp; done) | (simp [*]; done)), H', ⟨Nat.le_refl _⟩, ⟨by (with_reducible repeat (first | refine blk_drewN ?_ _ | refine blk_drew ?_ | refine blk_alloc ?_ _)); exact BK102.out⟩, ⟨by repeat (first | (with_reducible first | exact HB.out | apply below_alloc | apply pw_below_drewN | apply below_drew1 | refine below_set ?_ GE102.out) | exact HB.out)⟩⟩
   case round =>
    clear H'
    try clear c2
    try clear c2b0
    try clear c2b1
    try clear p2
    try clear c3
    try clear c3b0
    try clear c3b1
    try clear c5
    try clear hcz5_0
    try clear hcz5_1
    try clear hcz5_2
    try clear hcz5_3
    try clear hcz5_4
    try clear hcz5_5
    try clear hfz5_0
    try clear hfz5_1
    try clear hfz5_2
    try clear hfz5_3
    try clear hfz5_4
    try clear hfz5_5
    obtain ⟨x3_1, x12_1, rfl, rfl, HA, HK1, BK102, HB⟩ := hrel
    cases gk with
    | zero => exact absurd HA.out (by simp [mir_width.l0])
    | succ k1 =>
     have H := HA.out
     clear HA
     simp only [mir_width.l0] at H
     by_cases c7 : x12_1 < ((l0_1.take (a0_2 : Int).toNat).length : Int)
     ·rw [if_pos c7] at H
      have c7b0 : decide (x12_1 < ((l0_1.take (a0_2 : Int).toNat).length : Int)) = true := decide_eq_true c7
      have c7m : x12_1 < max a0_2 0 := by have h1 := HCC.out; have h2 : ((l0_1.take (a0_2 : Int).toNat).length : Int) = a0_2 := by simp; omega
                                          omega
      have c7b9 : decide (x12_1 < max a0_2 0) = true := decide_eq_true c7m
      have c7n : x12_1 < (a0_2.toNat : Int) := by omega
      clear c7
      by_cases c8 : 0 ≤ x12_1
      ·rw [if_pos c8] at H
       have c8b0 : decide (0 ≤ x12_1) = true := decide_eq_true c8
       clear c8
       by_cases c9 : x12_1 < ((l0_1.take (a0_2 : Int).toNat).length : Int)
       ·rw [if_pos c9] at H
        have c9b0 : decide (x12_1 < ((l0_1.take (a0_2 : Int).toNat).length : Int)) = true := decide_eq_true c9
        clear c9
        have H' := Aside0.mk H
        clear H
        have p104 : 0 ≤ (x12_1 : Int) := of_decide_eq_true (by first | (with_reducible assumption) | assumption)
        have q104 : x12_1 < ((l0_1.take (a0_2 : Int).toNat).length : Int) := of_decide_eq_true (by first | (with_reducible assumption) | assumption)
        obtain ⟨ad104, e104, hx104_0⟩ := Kd.at_int HR103.out x12_1 p104 q104
        cases e104
        replace hx104_0 := (HB.out.cell (World.block_lt_of_cell? w _ hx104_0)).trans hx104_0
        replace p104 := eq_true p104
        replace q104 := eq_true q104
        go_wp2
        go_roundg k1
        case measure => have := HK1.out; omega
        case rel => exact ⟨(wrap64 (x3_1 + (rd (l0_1.take (a0_2 : Int).toNat) x12_1))), (wrap64 (x12_1 + 1)), (by first | rfl | (simp; done) | (simp [*]; done)), (by first | rfl | (simp; done) | (simp [*]; done)), H', ⟨by have := HK1.out; omega⟩, ⟨by (with_reducible repeat (first | refine blk_drewN ?_ _ | refine blk_drew ?_ | refine blk_alloc ?_ _)); exact BK102.out⟩, ⟨by repeat (first | (with_reducible first | exact HB.out | apply below_alloc | apply pw_below_drewN | apply below_drew1 | refine below_set ?_ GE102.out) | exact HB.out)⟩⟩
       ·rw [if_neg c9] at H
        exact absurd H (by simp)
      ·rw [if_neg c8] at H
       exact absurd H (by simp)
     ·rw [if_neg c7] at H
      have c7b0 : decide (x12_1 < ((l0_1.take (a0_2 : Int).toNat).length : Int)) = false := decide_eq_false c7
      have c7m : ¬ x12_1 < max a0_2 0 := by have h1 := HCC.out; have h2 : ((l0_1.take (a0_2 : Int).toNat).length : Int) = a0_2 := by simp; omega
                                            omega
      have c7b9 : decide (x12_1 < max a0_2 0) = false := decide_eq_false c7m
      clear c7
      obtain rfl := Option.some.inj H
      go_wp2
      go_ret
      exact ⟨by first | rfl | (simp [errW_none, errW_some] <;> rfl) | (simp [*, errW_none, errW_some] <;> rfl), by repeat (first | (with_reducible first | exact HB.out | apply below_alloc | apply pw_below_drewN | apply below_drew1 | refine below_set ?_ GE102.out) | exact HB.out)⟩
  ·rw [if_neg c3] at H
   exact absurd H (by simp)
 ·rw [if_neg c2] at H
  exact absurd H (by simp)
def mir_former_frame.l0 : Nat → List Int → Int → Int → List (S48) → ByteArray → List Int → Int → Int → Bool → List (S45) → Option (Bool)
 | 0, _, _, _, _, _, _, _, _, _, _ => none
 | k + 1, x7, x8, x9, x106000, x106001, x106002, x106003, x106004, x106005, x106006 => if x9 < x8 then (if 0 ≤ x9 then (if x9 < (x7.length : Int) then (if (rd x7 x9) < 0 then (some false) else (if (rd x7 x9) > 512 then (some false) else (mir_former_frame.l0 k x7 x8 (wrap64 (x9 + 1)) x106000 x106001 x106002 x106003 x106004 x106005 x106006))) else (none)) else (none)) else (if (x106006.length : Int) > 0 then (if x106003 ≥ 0 then (if x106003 ≤ (x106002.length : Int) then (if x106004 ≥ 0 then (if x106004 ≤ 8 then ((mir_width.f k x106001 x106002 x106003 x106004 x106005 x106006).bind fun t107 => (some (decide (t107 ≤ 8)))) else (some false)) else (some false)) else (some false)) else (some false)) else (some false))
def mir_former_frame.f (k : Nat) (l0_0 : List (S48)) (a0_1 : ByteArray) (l0_2 : List Int) (a0_3 : Int) (a0_4 : Int) (a0_5 : Bool) (l0_6 : List (S45)) : Option (Bool) := mir_former_frame.l0 k l0_2 (l0_2.length : Int) 0 l0_0 a0_1 l0_2 a0_3 a0_4 a0_5 l0_6
theorem mir_former_frame.mono_l : ∀ k, (∀ y0 y1 y2 y3 y4 y5 y6 y7 y8 y9, LeO (mir_former_frame.l0 k y0 y1 y2 y3 y4 y5 y6 y7 y8 y9) (mir_former_frame.l0 (k + 1) y0 y1 y2 y3 y4 y5 y6 y7 y8 y9))
 | 0 => fun _ _ _ _ _ _ _ _ _ _ r h => by simp [mir_former_frame.l0] at h
 | k + 1 => by
  have ih0 := mir_former_frame.mono_l k
  ·intro y0 y1 y2 y3 y4 y5 y6 y7 y8 y9
   unfold mir_former_frame.l0
   repeat' first
   | (with_reducible exact ih0 _ _ _ _ _ _ _ _ _ _)
   | (with_reducible exact mir_width.mono _ _ _ _ _ _ _)
   | (with_reducible exact LeO.refl _)
   | (with_reducible exact LeO.none _)
   | (with_reducible refine LeO.ite ?_ ?_)
   | (with_reducible refine LeO.bind ?_ (fun _ => ?_))
   | exact ih0 _ _ _ _ _ _ _ _ _ _
   | exact mir_width.mono _ _ _ _ _ _ _
   | exact LeO.none _
   | refine LeO.ite ?_ ?_
   | refine LeO.bind ?_ (fun _ => ?_)
theorem mir_former_frame.mono : ∀ a0 a1 a2 a3 a4 a5 a6 k, LeO (mir_former_frame.f k a0 a1 a2 a3 a4 a5 a6) (mir_former_frame.f (k + 1) a0 a1 a2 a3 a4 a5 a6) := by
 intro a0 a1 a2 a3 a4 a5 a6 k
 have ih0 := mir_former_frame.mono_l k
 unfold mir_former_frame.f
 repeat' first
   | (with_reducible exact ih0 _ _ _ _ _ _ _ _ _ _)
   | (with_reducible exact mir_width.mono _ _ _ _ _ _ _)
   | (with_reducible exact LeO.refl _)
   | (with_reducible exact LeO.none _)
   | (with_reducible refine LeO.ite ?_ ?_)
   | (with_reducible refine LeO.bind ?_ (fun _ => ?_))
   | exact ih0 _ _ _ _ _ _ _ _ _ _
   | exact mir_width.mono _ _ _ _ _ _ _
   | exact LeO.none _
   | refine LeO.ite ?_ ?_
   | refine LeO.bind ?_ (fun _ => ?_)
set_option maxHeartbeats 8000000 in
set_option maxRecDepth 100000 in
theorem mir_former_frame.calls (k : Nat) (A0_0 : Option Addr) (c0_0 : Nat) (l0_0 : List (S48)) (a0_1 : ByteArray) (A0_2 : Option Addr) (c0_2 : Nat) (l0_2 : List Int) (a0_3 : Int) (a0_4 : Int) (a0_5 : Bool) (A0_6 : Option Addr) (c0_6 : Nat) (l0_6 : List (S45)) (r : Bool) (w : World) (hr0_0 : Kd.C k48 w A0_0 l0_0.length l0_0) (hc0_0 : l0_0.length ≤ c0_0) (hr0_2 : Kd.C (Kd.int .i64) w A0_2 l0_2.length l0_2) (hc0_2 : l0_2.length ≤ c0_2) (hr0_6 : Kd.C k45 w A0_6 l0_6.length l0_6) (hc0_6 : l0_6.length ≤ c0_6) (h : mir_former_frame.f k l0_0 a0_1 l0_2 a0_3 a0_4 a0_5 l0_6 = some r) :
  Calls Try.prog 30 #[.agg #[.slice A0_0 l0_0.length c0_0, .string a0_1, .slice A0_2 l0_2.length c0_2, .int .i64 a0_3, .int .i64 a0_4, .bool a0_5, .slice A0_6 l0_6.length c0_6]] w fun e w' => e = .returned (.bool r) ∧ Below w.heap.size w w' := by
 have hu101 := Try.underlying101
 have hu48 := Try.underlying48
 have HR0_0 := Aside0.mk hr0_0
 have HC0_0 := Aside0.mk hc0_0
 clear hr0_0 hc0_0
 have HR0_2 := Aside0.mk hr0_2
 have HC0_2 := Aside0.mk hc0_2
 clear hr0_2 hc0_2
 have HR0_6 := Aside0.mk hr0_6
 have HC0_6 := Aside0.mk hc0_6
 clear hr0_6 hc0_6
 have HB := Aside0.mk (Below.refl w.heap.size w)
 have H : (mir_former_frame.l0 k l0_2 (l0_2.length : Int) 0 l0_0 a0_1 l0_2 a0_3 a0_4 a0_5 l0_6) = some r := h
 clear h
 have H' := Aside0.mk H
 clear H
 go_enter Try.func30, Try.ntmps30
 go_wp2_with (first | ((with_reducible refine gate_dst (N := 1) rfl ?_); (try (refine gate_guard (by rfl) ?_; dsimp only)); refine box_event ?hg (N := 1) ?hd (cs := #[.slice A0_0 l0_0.length c0_0, .string a0_1, .slice A0_2 l0_2.length c0_2, .int .i64 a0_3, .int .i64 a0_4, .bool a0_5, .slice A0_6 l0_6.length c0_6]) (t := 101) ?hr ?_; (case hd => rfl); (case hg => rfl); (case hr => first | (go_simp; done) | (go_simp; rfl)); intro gb105 hg w2 hbox hb; have n0_ := Aside0.mk (below_step (by repeat (first | (with_reducible first | exact HB.out | apply below_alloc | apply pw_below_drewN | apply below_drew1) | exact HB.out)) hb); have n1_ := Aside0.mk (hbox); have n2_ := Aside0.mk ((by rw [hg]; exact (below_size (by repeat (first | (with_reducible first | exact HB.out | apply below_alloc | apply pw_below_drewN | apply below_drew1) | exact HB.out))) : w.heap.size ≤ gb105)); have n3_ := Aside0.mk ((by rw [hg]; exact (below_size (by repeat (first | (with_reducible first | exact HB.out | apply below_alloc | apply pw_below_drewN | apply below_drew1) | exact HB.out))) : w.heap.size ≤ gb105)); clear HB; have HB := n0_; have BK105 := n1_; have GW105 := n2_; have GE105 := n3_; clear n0_ n1_ n2_ n3_; clear hb hbox hg; have hcz3_0 : w2.cell? ⟨gb105, 0, none⟩ = some (.slice A0_0 l0_0.length c0_0) := (blk_cell BK105.out 0).trans rfl; have hcz3_1 : w2.cell? ⟨gb105, 1, none⟩ = some (.string a0_1) := (blk_cell BK105.out 1).trans rfl; have hcz3_2 : w2.cell? ⟨gb105, 2, none⟩ = some (.slice A0_2 l0_2.length c0_2) := (blk_cell BK105.out 2).trans rfl; have hcz3_3 : w2.cell? ⟨gb105, 3, none⟩ = some (.int .i64 a0_3) := (blk_cell BK105.out 3).trans rfl; have hcz3_4 : w2.cell? ⟨gb105, 4, none⟩ = some (.int .i64 a0_4) := (blk_cell BK105.out 4).trans rfl; have hcz3_5 : w2.cell? ⟨gb105, 5, none⟩ = some (.bool a0_5) := (blk_cell BK105.out 5).trans rfl; have hcz3_6 : w2.cell? ⟨gb105, 6, none⟩ = some (.slice A0_6 l0_6.length c0_6) := (blk_cell BK105.out 6).trans rfl; have hfz3_0 := blk_frozen BK105.out 0; have hfz3_1 := blk_frozen BK105.out 1; have hfz3_2 := blk_frozen BK105.out 2; have hfz3_3 := blk_frozen BK105.out 3; have hfz3_4 := blk_frozen BK105.out 4; have hfz3_5 := blk_frozen BK105.out 5; have hfz3_6 := blk_frozen BK105.out 6))
 go_loopg [9] k (fun kq v9 w' => ∃ (x9_1 : Int), v9 = .int .i64 x9_1 ∧ Aside0 (mir_former_frame.l0 kq l0_2 (l0_2.length : Int) x9_1 l0_0 a0_1 l0_2 a0_3 a0_4 a0_5 l0_6 = some r) ∧ Aside0 (kq ≤ k) ∧ Aside0 (w'.heap[gb105]? = some (.cells #[(.slice A0_0 l0_0.length c0_0), .string a0_1, (.slice A0_2 l0_2.length c0_2), .int .i64 a0_3, .int .i64 a0_4, .bool a0_5, (.slice A0_6 l0_6.length c0_6)] 101 (0, 0))) ∧ Aside0 (Below w.heap.size w w'))
 case atStart => exact ⟨(0), (by first | rfl | (simp; done) | (simp [*]; done)), H', ⟨Nat.le_refl _⟩, ⟨by (with_reducible repeat (first | refine blk_drewN ?_ _ | refine blk_drew ?_ | refine blk_alloc ?_ _)); exact BK105.out⟩, ⟨by repeat (first | (with_reducible first | exact HB.out | apply below_alloc | apply pw_below_drewN | apply below_drew1 | refine below_set ?_ GE105.out) | exact HB.out)⟩⟩
 case round =>
  clear H'
  try clear p2
  try clear c3
  try clear hcz3_0
  try clear hcz3_1
  try clear hcz3_2
  try clear hcz3_3
  try clear hcz3_4
  try clear hcz3_5
  try clear hcz3_6
  try clear hfz3_0
  try clear hfz3_1
  try clear hfz3_2
  try clear hfz3_3
  try clear hfz3_4
  try clear hfz3_5
  try clear hfz3_6
  obtain ⟨x9_1, rfl, HA, HK1, BK105, HB⟩ := hrel
  cases gk with
  | zero => exact absurd HA.out (by simp [mir_former_frame.l0])
  | succ k1 =>
   have H := HA.out
   clear HA
   simp only [mir_former_frame.l0] at H
   by_cases c4 : x9_1 < (l0_2.length : Int)
   ·rw [if_pos c4] at H
    have c4b0 : decide (x9_1 < (l0_2.length : Int)) = true := decide_eq_true c4
    clear c4
    by_cases c5 : 0 ≤ x9_1
    ·rw [if_pos c5] at H
     have c5b0 : decide (0 ≤ x9_1) = true := decide_eq_true c5
     clear c5
     by_cases c6 : x9_1 < (l0_2.length : Int)
     ·rw [if_pos c6] at H
      have c6b0 : decide (x9_1 < (l0_2.length : Int)) = true := decide_eq_true c6
      clear c6
      by_cases c7 : (rd l0_2 x9_1) < 0
      ·rw [if_pos c7] at H
       have c7b0 : decide ((rd l0_2 x9_1) < 0) = true := decide_eq_true c7
       clear c7
       obtain rfl := Option.some.inj H
       have p106 : 0 ≤ (x9_1 : Int) := of_decide_eq_true (by first | (with_reducible assumption) | assumption)
       have q106 : x9_1 < (l0_2.length : Int) := of_decide_eq_true (by first | (with_reducible assumption) | assumption)
       obtain ⟨ad106, e106, hx106_0⟩ := Kd.at_int HR0_2.out x9_1 p106 q106
       cases e106
       replace hx106_0 := (HB.out.cell (World.block_lt_of_cell? w _ hx106_0)).trans hx106_0
       replace p106 := eq_true p106
       replace q106 := eq_true q106
       go_wp2
       go_ret
       exact ⟨by first | rfl | (simp [errW_none, errW_some] <;> rfl) | (simp [*, errW_none, errW_some] <;> rfl), by repeat (first | (with_reducible first | exact HB.out | apply below_alloc | apply pw_below_drewN | apply below_drew1 | refine below_set ?_ GE105.out) | exact HB.out)⟩
      ·rw [if_neg c7] at H
       have c7b0 : decide ((rd l0_2 x9_1) < 0) = false := decide_eq_false c7
       clear c7
       by_cases c8 : (rd l0_2 x9_1) > 512
       ·rw [if_pos c8] at H
        have c8b0 : decide (512 < (rd l0_2 x9_1)) = true := decide_eq_true c8
        clear c8
        obtain rfl := Option.some.inj H
        have p106 : 0 ≤ (x9_1 : Int) := of_decide_eq_true (by first | (with_reducible assumption) | assumption)
        have q106 : x9_1 < (l0_2.length : Int) := of_decide_eq_true (by first | (with_reducible assumption) | assumption)
        obtain ⟨ad106, e106, hx106_0⟩ := Kd.at_int HR0_2.out x9_1 p106 q106
        cases e106
        replace hx106_0 := (HB.out.cell (World.block_lt_of_cell? w _ hx106_0)).trans hx106_0
        replace p106 := eq_true p106
        replace q106 := eq_true q106
        go_wp2
        go_ret
        exact ⟨by first | rfl | (simp [errW_none, errW_some] <;> rfl) | (simp [*, errW_none, errW_some] <;> rfl), by repeat (first | (with_reducible first | exact HB.out | apply below_alloc | apply pw_below_drewN | apply below_drew1 | refine below_set ?_ GE105.out) | exact HB.out)⟩
       ·rw [if_neg c8] at H
        have c8b0 : decide (512 < (rd l0_2 x9_1)) = false := decide_eq_false c8
        clear c8
        have H' := Aside0.mk H
        clear H
        have p106 : 0 ≤ (x9_1 : Int) := of_decide_eq_true (by first | (with_reducible assumption) | assumption)
        have q106 : x9_1 < (l0_2.length : Int) := of_decide_eq_true (by first | (with_reducible assumption) | assumption)
        obtain ⟨ad106, e106, hx106_0⟩ := Kd.at_int HR0_2.out x9_1 p106 q106
        cases e106
        replace hx106_0 := (HB.out.cell (World.block_lt_of_cell? w _ hx106_0)).trans hx106_0
        replace p106 := eq_true p106
        replace q106 := eq_true q106
        go_wp2
        go_roundg k1
        case measure => have := HK1.out; omega
        case rel => exact ⟨(wrap64 (x9_1 + 1)), (by first | rfl | (simp; done) | (simp [*]; done)), H', ⟨by have := HK1.out; omega⟩, ⟨by (with_reducible repeat (first | refine blk_drewN ?_ _ | refine blk_drew ?_ | refine blk_alloc ?_ _)); exact BK105.out⟩, ⟨by repeat (first | (with_reducible first | exact HB.out | apply below_alloc | apply pw_below_drewN | apply below_drew1 | refine below_set ?_ GE105.out) | exact HB.out)⟩⟩
     ·rw [if_neg c6] at H
      exact absurd H (by simp)
    ·rw [if_neg c5] at H
     exact absurd H (by simp)
   ·rw [if_neg c4] at H
    have c4b0 : decide (x9_1 < (l0_2.length : Int)) = false := decide_eq_false c4
    clear c4
    by_cases c9 : (l0_6.length : Int) > 0
    ·rw [if_pos c9] at H
     have c9b0 : decide (0 < (l0_6.length : Int)) = true := decide_eq_true c9
     have c9b1 : decide (0 < l0_6.length) = true := decide_eq_true (by omega)
     clear c9
     by_cases c10 : a0_3 ≥ 0
     ·rw [if_pos c10] at H
      have c10b0 : decide (0 ≤ a0_3) = true := decide_eq_true c10
      clear c10
      by_cases c11 : a0_3 ≤ (l0_2.length : Int)
      ·rw [if_pos c11] at H
       have c11b0 : decide (a0_3 ≤ (l0_2.length : Int)) = true := decide_eq_true c11
       clear c11
       by_cases c12 : a0_4 ≥ 0
       ·rw [if_pos c12] at H
        have c12b0 : decide (0 ≤ a0_4) = true := decide_eq_true c12
        clear c12
        by_cases c13 : a0_4 ≤ 8
        ·rw [if_pos c13] at H
         have c13b0 : decide (a0_4 ≤ 8) = true := decide_eq_true c13
         clear c13
         replace H := Option.bind_eq_some_iff.mp H
         obtain ⟨t107, A140, H⟩ := H
         replace H : (some (decide (t107 ≤ 8))) = some r := H
         have A14 := Aside0.mk A140
         clear A140
         obtain rfl := Option.some.inj H
         have hcz15_0 : wr.cell? ⟨gb105, 0, none⟩ = some (.slice A0_0 l0_0.length c0_0) := (blk_cell BK105.out 0).trans rfl
         have hcz15_1 : wr.cell? ⟨gb105, 1, none⟩ = some (.string a0_1) := (blk_cell BK105.out 1).trans rfl
         have hcz15_2 : wr.cell? ⟨gb105, 2, none⟩ = some (.slice A0_2 l0_2.length c0_2) := (blk_cell BK105.out 2).trans rfl
         have hcz15_3 : wr.cell? ⟨gb105, 3, none⟩ = some (.int .i64 a0_3) := (blk_cell BK105.out 3).trans rfl
         have hcz15_4 : wr.cell? ⟨gb105, 4, none⟩ = some (.int .i64 a0_4) := (blk_cell BK105.out 4).trans rfl
         have hcz15_5 : wr.cell? ⟨gb105, 5, none⟩ = some (.bool a0_5) := (blk_cell BK105.out 5).trans rfl
         have hcz15_6 : wr.cell? ⟨gb105, 6, none⟩ = some (.slice A0_6 l0_6.length c0_6) := (blk_cell BK105.out 6).trans rfl
         have hfz15_0 := blk_frozen BK105.out 0
         have hfz15_1 := blk_frozen BK105.out 1
         have hfz15_2 := blk_frozen BK105.out 2
         have hfz15_3 := blk_frozen BK105.out 3
         have hfz15_4 := blk_frozen BK105.out 4
         have hfz15_5 := blk_frozen BK105.out 5
         have hfz15_6 := blk_frozen BK105.out 6
         go_wp2_with (first | (go_at_call 56; (with_reducible refine (mir_width.calls k1 a0_1 _ _ l0_2 a0_3 a0_4 a0_5 _ _ l0_6 t107 _ ?side1 ?side2 ?side3 ?side4 A14.out).mono ?_); (case side1 => repeat (first | exact (Kd.C_below HR0_2.out HB.out) | (with_reducible refine Kd.C_alloc ?_ _) | (with_reducible refine Kd.C_drewN ?_ _) | (with_reducible refine Kd.C_drew ?_))); (case side2 => exact HC0_2.out); (case side3 => repeat (first | exact (Kd.C_below HR0_6.out HB.out) | (with_reducible refine Kd.C_alloc ?_ _) | (with_reducible refine Kd.C_drewN ?_ _) | (with_reducible refine Kd.C_drew ?_))); (case side4 => exact HC0_6.out); rintro e w16 ⟨rfl, hb⟩; have n0_ := Aside0.mk (blk_below (g := gb105) (o := .cells #[.slice A0_0 l0_0.length c0_0, .string a0_1, .slice A0_2 l0_2.length c0_2, .int .i64 a0_3, .int .i64 a0_4, .bool a0_5, .slice A0_6 l0_6.length c0_6] 101 (0, 0)) (by (with_reducible repeat (first | refine blk_drewN ?_ _ | refine blk_drew ?_ | refine blk_alloc ?_ _)); exact BK105.out) hb); have n1_ := Aside0.mk (below_step (by repeat (first | (with_reducible first | exact HB.out | apply below_alloc | apply pw_below_drewN | apply below_drew1 | refine below_set ?_ GE105.out) | exact HB.out)) hb); clear BK105; clear HB; have BK105 := n0_; have HB := n1_; clear n0_ n1_; (try clear hb); (try clear hb2); (try clear hk); (try clear hi)))
         go_ret
         exact ⟨by first | rfl | (simp [errW_none, errW_some] <;> rfl) | (simp [*, errW_none, errW_some] <;> rfl), by repeat (first | (with_reducible first | exact HB.out | apply below_alloc | apply pw_below_drewN | apply below_drew1 | refine below_set ?_ GE105.out) | exact HB.out)⟩
        ·rw [if_neg c13] at H
         have c13b0 : decide (a0_4 ≤ 8) = false := decide_eq_false c13
         clear c13
         obtain rfl := Option.some.inj H
         have hcz17_0 : wr.cell? ⟨gb105, 0, none⟩ = some (.slice A0_0 l0_0.length c0_0) := (blk_cell BK105.out 0).trans rfl
         have hcz17_1 : wr.cell? ⟨gb105, 1, none⟩ = some (.string a0_1) := (blk_cell BK105.out 1).trans rfl
         have hcz17_2 : wr.cell? ⟨gb105, 2, none⟩ = some (.slice A0_2 l0_2.length c0_2) := (blk_cell BK105.out 2).trans rfl
         have hcz17_3 : wr.cell? ⟨gb105, 3, none⟩ = some (.int .i64 a0_3) := (blk_cell BK105.out 3).trans rfl
         have hcz17_4 : wr.cell? ⟨gb105, 4, none⟩ = some (.int .i64 a0_4) := (blk_cell BK105.out 4).trans rfl
         have hcz17_5 : wr.cell? ⟨gb105, 5, none⟩ = some (.bool a0_5) := (blk_cell BK105.out 5).trans rfl
         have hcz17_6 : wr.cell? ⟨gb105, 6, none⟩ = some (.slice A0_6 l0_6.length c0_6) := (blk_cell BK105.out 6).trans rfl
         have hfz17_0 := blk_frozen BK105.out 0
         have hfz17_1 := blk_frozen BK105.out 1
         have hfz17_2 := blk_frozen BK105.out 2
         have hfz17_3 := blk_frozen BK105.out 3
         have hfz17_4 := blk_frozen BK105.out 4
         have hfz17_5 := blk_frozen BK105.out 5
         have hfz17_6 := blk_frozen BK105.out 6
         go_wp2
         go_ret
         exact ⟨by first | rfl | (simp [errW_none, errW_some] <;> rfl) | (simp [*, errW_none, errW_some] <;> rfl), by repeat (first | (with_reducible first | exact HB.out | apply below_alloc | apply pw_below_drewN | apply below_drew1 | refine below_set ?_ GE105.out) | exact HB.out)⟩
       ·rw [if_neg c12] at H
        have c12b0 : decide (0 ≤ a0_4) = false := decide_eq_false c12
        clear c12
        obtain rfl := Option.some.inj H
        have hcz18_0 : wr.cell? ⟨gb105, 0, none⟩ = some (.slice A0_0 l0_0.length c0_0) := (blk_cell BK105.out 0).trans rfl
        have hcz18_1 : wr.cell? ⟨gb105, 1, none⟩ = some (.string a0_1) := (blk_cell BK105.out 1).trans rfl
        have hcz18_2 : wr.cell? ⟨gb105, 2, none⟩ = some (.slice A0_2 l0_2.length c0_2) := (blk_cell BK105.out 2).trans rfl
        have hcz18_3 : wr.cell? ⟨gb105, 3, none⟩ = some (.int .i64 a0_3) := (blk_cell BK105.out 3).trans rfl
        have hcz18_4 : wr.cell? ⟨gb105, 4, none⟩ = some (.int .i64 a0_4) := (blk_cell BK105.out 4).trans rfl
        have hcz18_5 : wr.cell? ⟨gb105, 5, none⟩ = some (.bool a0_5) := (blk_cell BK105.out 5).trans rfl
        have hcz18_6 : wr.cell? ⟨gb105, 6, none⟩ = some (.slice A0_6 l0_6.length c0_6) := (blk_cell BK105.out 6).trans rfl
        have hfz18_0 := blk_frozen BK105.out 0
        have hfz18_1 := blk_frozen BK105.out 1
        have hfz18_2 := blk_frozen BK105.out 2
        have hfz18_3 := blk_frozen BK105.out 3
        have hfz18_4 := blk_frozen BK105.out 4
        have hfz18_5 := blk_frozen BK105.out 5
        have hfz18_6 := blk_frozen BK105.out 6
        go_wp2
        go_ret
        exact ⟨by first | rfl | (simp [errW_none, errW_some] <;> rfl) | (simp [*, errW_none, errW_some] <;> rfl), by repeat (first | (with_reducible first | exact HB.out | apply below_alloc | apply pw_below_drewN | apply below_drew1 | refine below_set ?_ GE105.out) | exact HB.out)⟩
      ·rw [if_neg c11] at H
       have c11b0 : decide (a0_3 ≤ (l0_2.length : Int)) = false := decide_eq_false c11
       clear c11
       obtain rfl := Option.some.inj H
       have hcz19_0 : wr.cell? ⟨gb105, 0, none⟩ = some (.slice A0_0 l0_0.length c0_0) := (blk_cell BK105.out 0).trans rfl
       have hcz19_1 : wr.cell? ⟨gb105, 1, none⟩ = some (.string a0_1) := (blk_cell BK105.out 1).trans rfl
       have hcz19_2 : wr.cell? ⟨gb105, 2, none⟩ = some (.slice A0_2 l0_2.length c0_2) := (blk_cell BK105.out 2).trans rfl
       have hcz19_3 : wr.cell? ⟨gb105, 3, none⟩ = some (.int .i64 a0_3) := (blk_cell BK105.out 3).trans rfl
       have hcz19_4 : wr.cell? ⟨gb105, 4, none⟩ = some (.int .i64 a0_4) := (blk_cell BK105.out 4).trans rfl
       have hcz19_5 : wr.cell? ⟨gb105, 5, none⟩ = some (.bool a0_5) := (blk_cell BK105.out 5).trans rfl
       have hcz19_6 : wr.cell? ⟨gb105, 6, none⟩ = some (.slice A0_6 l0_6.length c0_6) := (blk_cell BK105.out 6).trans rfl
       have hfz19_0 := blk_frozen BK105.out 0
       have hfz19_1 := blk_frozen BK105.out 1
       have hfz19_2 := blk_frozen BK105.out 2
       have hfz19_3 := blk_frozen BK105.out 3
       have hfz19_4 := blk_frozen BK105.out 4
       have hfz19_5 := blk_frozen BK105.out 5
       have hfz19_6 := blk_frozen BK105.out 6
       go_wp2
       go_ret
       exact ⟨by first | rfl | (simp [errW_none, errW_some] <;> rfl) | (simp [*, errW_none, errW_some] <;> rfl), by repeat (first | (with_reducible first | exact HB.out | apply below_alloc | apply pw_below_drewN | apply below_drew1 | refine below_set ?_ GE105.out) | exact HB.out)⟩
     ·rw [if_neg c10] at H
      have c10b0 : decide (0 ≤ a0_3) = false := decide_eq_false c10
      clear c10
      obtain rfl := Option.some.inj H
      have hcz20_0 : wr.cell? ⟨gb105, 0, none⟩ = some (.slice A0_0 l0_0.length c0_0) := (blk_cell BK105.out 0).trans rfl
      have hcz20_1 : wr.cell? ⟨gb105, 1, none⟩ = some (.string a0_1) := (blk_cell BK105.out 1).trans rfl
      have hcz20_2 : wr.cell? ⟨gb105, 2, none⟩ = some (.slice A0_2 l0_2.length c0_2) := (blk_cell BK105.out 2).trans rfl
      have hcz20_3 : wr.cell? ⟨gb105, 3, none⟩ = some (.int .i64 a0_3) := (blk_cell BK105.out 3).trans rfl
      have hcz20_4 : wr.cell? ⟨gb105, 4, none⟩ = some (.int .i64 a0_4) := (blk_cell BK105.out 4).trans rfl
      have hcz20_5 : wr.cell? ⟨gb105, 5, none⟩ = some (.bool a0_5) := (blk_cell BK105.out 5).trans rfl
      have hcz20_6 : wr.cell? ⟨gb105, 6, none⟩ = some (.slice A0_6 l0_6.length c0_6) := (blk_cell BK105.out 6).trans rfl
      have hfz20_0 := blk_frozen BK105.out 0
      have hfz20_1 := blk_frozen BK105.out 1
      have hfz20_2 := blk_frozen BK105.out 2
      have hfz20_3 := blk_frozen BK105.out 3
      have hfz20_4 := blk_frozen BK105.out 4
      have hfz20_5 := blk_frozen BK105.out 5
      have hfz20_6 := blk_frozen BK105.out 6
      go_wp2
      go_ret
      exact ⟨by first | rfl | (simp [errW_none, errW_some] <;> rfl) | (simp [*, errW_none, errW_some] <;> rfl), by repeat (first | (with_reducible first | exact HB.out | apply below_alloc | apply pw_below_drewN | apply below_drew1 | refine below_set ?_ GE105.out) | exact HB.out)⟩
    ·rw [if_neg c9] at H
     have c9b0 : decide (0 < (l0_6.length : Int)) = false := decide_eq_false c9
     have c9b1 : decide (0 < l0_6.length) = false := decide_eq_false (by omega)
     clear c9
     obtain rfl := Option.some.inj H
     have hcz21_0 : wr.cell? ⟨gb105, 0, none⟩ = some (.slice A0_0 l0_0.length c0_0) := (blk_cell BK105.out 0).trans rfl
     have hcz21_1 : wr.cell? ⟨gb105, 1, none⟩ = some (.string a0_1) := (blk_cell BK105.out 1).trans rfl
     have hcz21_2 : wr.cell? ⟨gb105, 2, none⟩ = some (.slice A0_2 l0_2.length c0_2) := (blk_cell BK105.out 2).trans rfl
     have hcz21_3 : wr.cell? ⟨gb105, 3, none⟩ = some (.int .i64 a0_3) := (blk_cell BK105.out 3).trans rfl
     have hcz21_4 : wr.cell? ⟨gb105, 4, none⟩ = some (.int .i64 a0_4) := (blk_cell BK105.out 4).trans rfl
     have hcz21_5 : wr.cell? ⟨gb105, 5, none⟩ = some (.bool a0_5) := (blk_cell BK105.out 5).trans rfl
     have hcz21_6 : wr.cell? ⟨gb105, 6, none⟩ = some (.slice A0_6 l0_6.length c0_6) := (blk_cell BK105.out 6).trans rfl
     have hfz21_0 := blk_frozen BK105.out 0
     have hfz21_1 := blk_frozen BK105.out 1
     have hfz21_2 := blk_frozen BK105.out 2
     have hfz21_3 := blk_frozen BK105.out 3
     have hfz21_4 := blk_frozen BK105.out 4
     have hfz21_5 := blk_frozen BK105.out 5
     have hfz21_6 := blk_frozen BK105.out 6
     go_wp2
     go_ret
     exact ⟨by first | rfl | (simp [errW_none, errW_some] <;> rfl) | (simp [*, errW_none, errW_some] <;> rfl), by repeat (first | (with_reducible first | exact HB.out | apply below_alloc | apply pw_below_drewN | apply below_drew1 | refine below_set ?_ GE105.out) | exact HB.out)⟩
end Go.Proofs.Ytpphpcmbpbppoaa.PMirFuel
end
section
namespace Go.Proofs.Ytpphpcmbpbppoaa.PMirFuel
open Go.RowKit Go.Proofs.YtpphpcmbpbppoaaW.PrintWords Go.Proofs.YtpphpcmbpbppoaaW.PrintLast Go.Proofs.YtpphpcmbpbppoaaW.PrintMore
attribute [local go_sem] max2_int min2_int max_two min_two max_three min_three max_four min_four   
set_option linter.unusedVariables false
set_option linter.unusedSimpArgs false
def mir_former_local.f (l0_0 : List (S48)) (a0_1 : ByteArray) (l0_2 : List Int) (a0_3 : Int) (a0_4 : Int) (a0_5 : Bool) (l0_6 : List (S45)) (a1 : Int) : Option (Bool) := if a1 ≥ 0 then (some (decide (a1 < (l0_2.length : Int)))) else (some false)
set_option maxHeartbeats 8000000 in
set_option maxRecDepth 100000 in
theorem mir_former_local.calls (A0_0 : Option Addr) (c0_0 : Nat) (l0_0 : List (S48)) (a0_1 : ByteArray) (A0_2 : Option Addr) (c0_2 : Nat) (l0_2 : List Int) (a0_3 : Int) (a0_4 : Int) (a0_5 : Bool) (A0_6 : Option Addr) (c0_6 : Nat) (l0_6 : List (S45)) (a1 : Int) (r : Bool) (w : World) (hr0_0 : Kd.C k48 w A0_0 l0_0.length l0_0) (hc0_0 : l0_0.length ≤ c0_0) (hr0_2 : Kd.C (Kd.int .i64) w A0_2 l0_2.length l0_2) (hc0_2 : l0_2.length ≤ c0_2) (hr0_6 : Kd.C k45 w A0_6 l0_6.length l0_6) (hc0_6 : l0_6.length ≤ c0_6) (h : mir_former_local.f l0_0 a0_1 l0_2 a0_3 a0_4 a0_5 l0_6 a1 = some r) :
  Calls Try.prog 62 #[.agg #[.slice A0_0 l0_0.length c0_0, .string a0_1, .slice A0_2 l0_2.length c0_2, .int .i64 a0_3, .int .i64 a0_4, .bool a0_5, .slice A0_6 l0_6.length c0_6], .int .i64 a1] w fun e w' => e = .returned (.bool r) ∧ Below w.heap.size w w' := by
 have hu101 := Try.underlying101
 have HR0_0 := Aside0.mk hr0_0
 have HC0_0 := Aside0.mk hc0_0
 clear hr0_0 hc0_0
 have HR0_2 := Aside0.mk hr0_2
 have HC0_2 := Aside0.mk hc0_2
 clear hr0_2 hc0_2
 have HR0_6 := Aside0.mk hr0_6
 have HC0_6 := Aside0.mk hc0_6
 clear hr0_6 hc0_6
 have HB := Aside0.mk (Below.refl w.heap.size w)
 have H : (if a1 ≥ 0 then (some (decide (a1 < (l0_2.length : Int)))) else (some false)) = some r := h
 clear h
 by_cases c3 : a1 ≥ 0
 ·rw [if_pos c3] at H
  have c3b0 : decide (0 ≤ a1) = true := decide_eq_true c3
  clear c3
  obtain rfl := Option.some.inj H
  go_enter Try.func62, Try.ntmps62
  go_wp2_with (first | ((with_reducible refine gate_dst (N := 2) rfl ?_); (try (refine gate_guard (by rfl) ?_; dsimp only)); refine box_event ?hg (N := 2) ?hd (cs := #[.slice A0_0 l0_0.length c0_0, .string a0_1, .slice A0_2 l0_2.length c0_2, .int .i64 a0_3, .int .i64 a0_4, .bool a0_5, .slice A0_6 l0_6.length c0_6]) (t := 101) ?hr ?_; (case hd => rfl); (case hg => rfl); (case hr => first | (go_simp; done) | (go_simp; rfl)); intro gb120 hg w4 hbox hb; have n0_ := Aside0.mk (below_step (by repeat (first | (with_reducible first | exact HB.out | apply below_alloc | apply pw_below_drewN | apply below_drew1) | exact HB.out)) hb); have n1_ := Aside0.mk (hbox); have n2_ := Aside0.mk ((by rw [hg]; exact (below_size (by repeat (first | (with_reducible first | exact HB.out | apply below_alloc | apply pw_below_drewN | apply below_drew1) | exact HB.out))) : w.heap.size ≤ gb120)); have n3_ := Aside0.mk ((by rw [hg]; exact (below_size (by repeat (first | (with_reducible first | exact HB.out | apply below_alloc | apply pw_below_drewN | apply below_drew1) | exact HB.out))) : w.heap.size ≤ gb120)); clear HB; have HB := n0_; have BK120 := n1_; have GW120 := n2_; have GE120 := n3_; clear n0_ n1_ n2_ n3_; clear hb hbox hg; have hcz5_0 : w4.cell? ⟨gb120, 0, none⟩ = some (.slice A0_0 l0_0.length c0_0) := (blk_cell BK120.out 0).trans rfl; have hcz5_1 : w4.cell? ⟨gb120, 1, none⟩ = some (.string a0_1) := (blk_cell BK120.out 1).trans rfl; have hcz5_2 : w4.cell? ⟨gb120, 2, none⟩ = some (.slice A0_2 l0_2.length c0_2) := (blk_cell BK120.out 2).trans rfl; have hcz5_3 : w4.cell? ⟨gb120, 3, none⟩ = some (.int .i64 a0_3) := (blk_cell BK120.out 3).trans rfl; have hcz5_4 : w4.cell? ⟨gb120, 4, none⟩ = some (.int .i64 a0_4) := (blk_cell BK120.out 4).trans rfl; have hcz5_5 : w4.cell? ⟨gb120, 5, none⟩ = some (.bool a0_5) := (blk_cell BK120.out 5).trans rfl; have hcz5_6 : w4.cell? ⟨gb120, 6, none⟩ = some (.slice A0_6 l0_6.length c0_6) := (blk_cell BK120.out 6).trans rfl; have hfz5_0 := blk_frozen BK120.out 0; have hfz5_1 := blk_frozen BK120.out 1; have hfz5_2 := blk_frozen BK120.out 2; have hfz5_3 := blk_frozen BK120.out 3; have hfz5_4 := blk_frozen BK120.out 4; have hfz5_5 := blk_frozen BK120.out 5; have hfz5_6 := blk_frozen BK120.out 6))
  go_ret
  exact ⟨by first | rfl | (simp [errW_none, errW_some] <;> rfl) | (simp [*, errW_none, errW_some] <;> rfl), by repeat (first | (with_reducible first | exact HB.out | apply below_alloc | apply pw_below_drewN | apply below_drew1 | refine below_set ?_ GE120.out) | exact HB.out)⟩
 ·rw [if_neg c3] at H
  have c3b0 : decide (0 ≤ a1) = false := decide_eq_false c3
  clear c3
  obtain rfl := Option.some.inj H
  go_enter Try.func62, Try.ntmps62
  go_wp2_with (first | ((with_reducible refine gate_dst (N := 2) rfl ?_); (try (refine gate_guard (by rfl) ?_; dsimp only)); refine box_event ?hg (N := 2) ?hd (cs := #[.slice A0_0 l0_0.length c0_0, .string a0_1, .slice A0_2 l0_2.length c0_2, .int .i64 a0_3, .int .i64 a0_4, .bool a0_5, .slice A0_6 l0_6.length c0_6]) (t := 101) ?hr ?_; (case hd => rfl); (case hg => rfl); (case hr => first | (go_simp; done) | (go_simp; rfl)); intro gb120 hg w6 hbox hb; have n0_ := Aside0.mk (below_step (by repeat (first | (with_reducible first | exact HB.out | apply below_alloc | apply pw_below_drewN | apply below_drew1) | exact HB.out)) hb); have n1_ := Aside0.mk (hbox); have n2_ := Aside0.mk ((by rw [hg]; exact (below_size (by repeat (first | (with_reducible first | exact HB.out | apply below_alloc | apply pw_below_drewN | apply below_drew1) | exact HB.out))) : w.heap.size ≤ gb120)); have n3_ := Aside0.mk ((by rw [hg]; exact (below_size (by repeat (first | (with_reducible first | exact HB.out | apply below_alloc | apply pw_below_drewN | apply below_drew1) | exact HB.out))) : w.heap.size ≤ gb120)); clear HB; have HB := n0_; have BK120 := n1_; have GW120 := n2_; have GE120 := n3_; clear n0_ n1_ n2_ n3_; clear hb hbox hg))
  go_ret
  exact ⟨by first | rfl | (simp [errW_none, errW_some] <;> rfl) | (simp [*, errW_none, errW_some] <;> rfl), by repeat (first | (with_reducible first | exact HB.out | apply below_alloc | apply pw_below_drewN | apply below_drew1 | refine below_set ?_ GE120.out) | exact HB.out)⟩
def mir_former_place.l0 : Nat → List (S57) → Int → Int → List (S48) → ByteArray → List Int → Int → Int → Bool → List (S45) → Int → List (S57) → Option (Bool)
 | 0, _, _, _, _, _, _, _, _, _, _, _, _ => none
 | k + 1, x8, x9, x10, x122000, x122001, x122002, x122003, x122004, x122005, x122006, x123000, x123001 => if x10 < x9 then (if 0 ≤ x10 then (if x10 < (x8.length : Int) then (if ((rd_T57 x8 x10).f0) = 1 then (if ((rd_T57 x8 x10).f1) < 0 then (some false) else (if ((rd_T57 x8 x10).f1) > 65536 then (some false) else (mir_former_place.l0 k x8 x9 (wrap64 (x10 + 1)) x122000 x122001 x122002 x122003 x122004 x122005 x122006 x123000 x123001))) else (if ((rd_T57 x8 x10).f0) = 2 then ((mir_former_scalar.f x122000 x122001 x122002 x122003 x122004 x122005 x122006 ((rd_T57 x8 x10).f1)).bind fun t126 => (if t126 = true then (if ((rd_T57 x8 x10).f2) < 0 then (some false) else (if ((rd_T57 x8 x10).f2) > 65536 then (some false) else (mir_former_place.l0 k x8 x9 (wrap64 (x10 + 1)) x122000 x122001 x122002 x122003 x122004 x122005 x122006 x123000 x123001))) else (some false))) else (if ((rd_T57 x8 x10).f0) = 3 then (mir_former_place.l0 k x8 x9 (wrap64 (x10 + 1)) x122000 x122001 x122002 x122003 x122004 x122005 x122006 x123000 x123001) else (some false)))) else (none)) else (none)) else ((mir_former_local.f x122000 x122001 x122002 x122003 x122004 x122005 x122006 x123000).bind fun t123 => (some t123))
def mir_former_place.f (k : Nat) (l0_0 : List (S48)) (a0_1 : ByteArray) (l0_2 : List Int) (a0_3 : Int) (a0_4 : Int) (a0_5 : Bool) (l0_6 : List (S45)) (a1_0 : Int) (l1_1 : List (S57)) : Option (Bool) := mir_former_place.l0 k l1_1 (l1_1.length : Int) 0 l0_0 a0_1 l0_2 a0_3 a0_4 a0_5 l0_6 a1_0 l1_1
theorem mir_former_place.mono_l : ∀ k, (∀ y0 y1 y2 y3 y4 y5 y6 y7 y8 y9 y10 y11, LeO (mir_former_place.l0 k y0 y1 y2 y3 y4 y5 y6 y7 y8 y9 y10 y11) (mir_former_place.l0 (k + 1) y0 y1 y2 y3 y4 y5 y6 y7 y8 y9 y10 y11))
 | 0 => fun _ _ _ _ _ _ _ _ _ _ _ _ r h => by simp [mir_former_place.l0] at h
 | k + 1 => by
  have ih0 := mir_former_place.mono_l k
  ·intro y0 y1 y2 y3 y4 y5 y6 y7 y8 y9 y10 y11
   unfold mir_former_place.l0
   repeat' first
   | (with_reducible exact ih0 _ _ _ _ _ _ _ _ _ _ _ _)
   | (with_reducible exact LeO.refl _)
   | (with_reducible exact LeO.none _)
   | (with_reducible refine LeO.ite ?_ ?_)
   | (with_reducible refine LeO.bind ?_ (fun _ => ?_))
   | exact ih0 _ _ _ _ _ _ _ _ _ _ _ _
   | exact LeO.none _
   | refine LeO.ite ?_ ?_
   | refine LeO.bind ?_ (fun _ => ?_)
theorem mir_former_place.mono : ∀ a0 a1 a2 a3 a4 a5 a6 a7 a8 k, LeO (mir_former_place.f k a0 a1 a2 a3 a4 a5 a6 a7 a8) (mir_former_place.f (k + 1) a0 a1 a2 a3 a4 a5 a6 a7 a8) := by
 intro a0 a1 a2 a3 a4 a5 a6 a7 a8 k
 have ih0 := mir_former_place.mono_l k
 unfold mir_former_place.f
 repeat' first
   | (with_reducible exact ih0 _ _ _ _ _ _ _ _ _ _ _ _)
   | (with_reducible exact LeO.refl _)
   | (with_reducible exact LeO.none _)
   | (with_reducible refine LeO.ite ?_ ?_)
   | (with_reducible refine LeO.bind ?_ (fun _ => ?_))
   | exact ih0 _ _ _ _ _ _ _ _ _ _ _ _
   | exact LeO.none _
   | refine LeO.ite ?_ ?_
   | refine LeO.bind ?_ (fun _ => ?_)
set_option maxHeartbeats 8000000 in
set_option maxRecDepth 100000 in
theorem mir_former_place.calls (k : Nat) (A0_0 : Option Addr) (c0_0 : Nat) (l0_0 : List (S48)) (a0_1 : ByteArray) (A0_2 : Option Addr) (c0_2 : Nat) (l0_2 : List Int) (a0_3 : Int) (a0_4 : Int) (a0_5 : Bool) (A0_6 : Option Addr) (c0_6 : Nat) (l0_6 : List (S45)) (a1_0 : Int) (A1_1 : Option Addr) (c1_1 : Nat) (l1_1 : List (S57)) (r : Bool) (w : World) (hr0_0 : Kd.C k48 w A0_0 l0_0.length l0_0) (hc0_0 : l0_0.length ≤ c0_0) (hr0_2 : Kd.C (Kd.int .i64) w A0_2 l0_2.length l0_2) (hc0_2 : l0_2.length ≤ c0_2) (hr0_6 : Kd.C k45 w A0_6 l0_6.length l0_6) (hc0_6 : l0_6.length ≤ c0_6) (hr1_1 : Kd.C k57 w A1_1 l1_1.length l1_1) (hc1_1 : l1_1.length ≤ c1_1) (h : mir_former_place.f k l0_0 a0_1 l0_2 a0_3 a0_4 a0_5 l0_6 a1_0 l1_1 = some r) :
  Calls Try.prog 60 #[.agg #[.slice A0_0 l0_0.length c0_0, .string a0_1, .slice A0_2 l0_2.length c0_2, .int .i64 a0_3, .int .i64 a0_4, .bool a0_5, .slice A0_6 l0_6.length c0_6], .agg #[.int .i64 a1_0, .slice A1_1 l1_1.length c1_1]] w fun e w' => e = .returned (.bool r) ∧ Below w.heap.size w w' := by
 have hu101 := Try.underlying101
 have hu34 := Try.underlying34
 have hu57 := Try.underlying57
 have HR0_0 := Aside0.mk hr0_0
 have HC0_0 := Aside0.mk hc0_0
 clear hr0_0 hc0_0
 have HR0_2 := Aside0.mk hr0_2
 have HC0_2 := Aside0.mk hc0_2
 clear hr0_2 hc0_2
 have HR0_6 := Aside0.mk hr0_6
 have HC0_6 := Aside0.mk hc0_6
 clear hr0_6 hc0_6
 have HR1_1 := Aside0.mk hr1_1
 have HC1_1 := Aside0.mk hc1_1
 clear hr1_1 hc1_1
 have HB := Aside0.mk (Below.refl w.heap.size w)
 have H : (mir_former_place.l0 k l1_1 (l1_1.length : Int) 0 l0_0 a0_1 l0_2 a0_3 a0_4 a0_5 l0_6 a1_0 l1_1) = some r := h
 clear h
 have H' := Aside0.mk H
 clear H
 go_enter Try.func60, Try.ntmps60
 go_wp2_with (first | ((with_reducible refine gate_dst (N := 2) rfl ?_); refine box_event ?hg (N := 2) ?hd (cs := #[.slice A0_0 l0_0.length c0_0, .string a0_1, .slice A0_2 l0_2.length c0_2, .int .i64 a0_3, .int .i64 a0_4, .bool a0_5, .slice A0_6 l0_6.length c0_6]) (t := 101) ?hr ?_; (case hd => rfl); (case hg => rfl); (case hr => first | (go_simp; done) | (go_simp; rfl)); intro gb121 hg w3 hbox hb; have n0_ := Aside0.mk (below_step (by repeat (first | (with_reducible first | exact HB.out | apply below_alloc | apply pw_below_drewN | apply below_drew1) | exact HB.out)) hb); have n1_ := Aside0.mk (hbox); have n2_ := Aside0.mk ((by rw [hg]; exact (below_size (by repeat (first | (with_reducible first | exact HB.out | apply below_alloc | apply pw_below_drewN | apply below_drew1) | exact HB.out))) : w.heap.size ≤ gb121)); have n3_ := Aside0.mk ((by rw [hg]; exact (below_size (by repeat (first | (with_reducible first | exact HB.out | apply below_alloc | apply pw_below_drewN | apply below_drew1) | exact HB.out))) : w.heap.size ≤ gb121)); clear HB; have HB := n0_; have BK121 := n1_; have GW121 := n2_; have GE121 := n3_; clear n0_ n1_ n2_ n3_; clear hb hbox hg) | ((with_reducible refine gate_dst (N := 3) rfl ?_); refine box_event ?hg (N := 3) ?hd (cs := #[.int .i64 a1_0, .slice A1_1 l1_1.length c1_1]) (t := 34) ?hr ?_; (case hd => rfl); (case hg => rfl); (case hr => first | (go_simp; done) | (go_simp; rfl)); intro gb122 hg w4 hbox hb; have n0_ := Aside0.mk (blk_below (g := gb121) (o := .cells #[.slice A0_0 l0_0.length c0_0, .string a0_1, .slice A0_2 l0_2.length c0_2, .int .i64 a0_3, .int .i64 a0_4, .bool a0_5, .slice A0_6 l0_6.length c0_6] 101 (0, 0)) (by (with_reducible repeat (first | refine blk_drewN ?_ _ | refine blk_drew ?_ | refine blk_alloc ?_ _)); exact BK121.out) hb); have n1_ := Aside0.mk (below_step (by repeat (first | (with_reducible first | exact HB.out | apply below_alloc | apply pw_below_drewN | apply below_drew1 | refine below_set ?_ GE121.out) | exact HB.out)) hb); have n2_ := Aside0.mk (hbox); have n3_ := Aside0.mk ((by rw [hg]; exact (below_size (by repeat (first | (with_reducible first | exact HB.out | apply below_alloc | apply pw_below_drewN | apply below_drew1 | refine below_set ?_ GE121.out) | exact HB.out))) : w.heap.size ≤ gb122)); have n4_ := Aside0.mk ((by rw [hg]; exact (below_size (by repeat (first | (with_reducible first | exact HB.out | apply below_alloc | apply pw_below_drewN | apply below_drew1 | refine below_set ?_ GE121.out) | exact HB.out))) : w.heap.size ≤ gb122)); have n5_ := Aside0.mk ((by rw [hg]; exact Nat.ne_of_lt (blk_lt (g := gb121) (o := .cells #[.slice A0_0 l0_0.length c0_0, .string a0_1, .slice A0_2 l0_2.length c0_2, .int .i64 a0_3, .int .i64 a0_4, .bool a0_5, .slice A0_6 l0_6.length c0_6] 101 (0, 0)) (by (with_reducible repeat (first | refine blk_drewN ?_ _ | refine blk_drew ?_ | refine blk_alloc ?_ _)); exact BK121.out)) : gb121 ≠ gb122)); have n6_ := Aside0.mk ((by rw [hg]; exact Nat.ne_of_gt (blk_lt (g := gb121) (o := .cells #[.slice A0_0 l0_0.length c0_0, .string a0_1, .slice A0_2 l0_2.length c0_2, .int .i64 a0_3, .int .i64 a0_4, .bool a0_5, .slice A0_6 l0_6.length c0_6] 101 (0, 0)) (by (with_reducible repeat (first | refine blk_drewN ?_ _ | refine blk_drew ?_ | refine blk_alloc ?_ _)); exact BK121.out)) : gb122 ≠ gb121)); clear BK121; clear HB; have BK121 := n0_; have HB := n1_; have BK122 := n2_; have GW122 := n3_; have GE122 := n4_; have NB121_122 := n5_; have NB122_121 := n6_; clear n0_ n1_ n2_ n3_ n4_ n5_ n6_; clear hb hbox hg; have hnb5 := NB122_121.out; have hnc5 := NB121_122.out; have hcz6_0 : w4.cell? ⟨gb122, 0, none⟩ = some (.int .i64 a1_0) := (blk_cell BK122.out 0).trans rfl; have hcz6_1 : w4.cell? ⟨gb122, 1, none⟩ = some (.slice A1_1 l1_1.length c1_1) := (blk_cell BK122.out 1).trans rfl; have hfz6_0 := blk_frozen BK122.out 0; have hfz6_1 := blk_frozen BK122.out 1))
 go_loopg [10] k (fun kq v10 w' => ∃ (x10_1 : Int), v10 = .int .i64 x10_1 ∧ Aside0 (mir_former_place.l0 kq l1_1 (l1_1.length : Int) x10_1 l0_0 a0_1 l0_2 a0_3 a0_4 a0_5 l0_6 a1_0 l1_1 = some r) ∧ Aside0 (kq ≤ k) ∧ Aside0 (w'.heap[gb121]? = some (.cells #[(.slice A0_0 l0_0.length c0_0), .string a0_1, (.slice A0_2 l0_2.length c0_2), .int .i64 a0_3, .int .i64 a0_4, .bool a0_5, (.slice A0_6 l0_6.length c0_6)] 101 (0, 0))) ∧ Aside0 (w'.heap[gb122]? = some (.cells #[.int .i64 a1_0, (.slice A1_1 l1_1.length c1_1)] 34 (0, 0))) ∧ Aside0 (Below w.heap.size w w'))
 case atStart => exact ⟨(0), (by first | rfl | (simp; done) | (simp [*]; done)), H', ⟨Nat.le_refl _⟩, ⟨by (with_reducible repeat (first | refine blk_drewN ?_ _ | refine blk_drew ?_ | refine blk_alloc ?_ _)); exact BK121.out⟩, ⟨by (with_reducible repeat (first | refine blk_drewN ?_ _ | refine blk_drew ?_ | refine blk_alloc ?_ _)); exact BK122.out⟩, ⟨by repeat (first | (with_reducible first | exact HB.out | apply below_alloc | apply pw_below_drewN | apply below_drew1 | refine below_set ?_ GE121.out | refine below_set ?_ GE122.out) | exact HB.out)⟩⟩
 case round =>
  clear H'
  try clear c1
  try clear p2
  try clear c5
  try clear c6
  try clear hcz6_0
  try clear hcz6_1
  try clear hfz6_0
  try clear hfz6_1
  obtain ⟨x10_1, rfl, HA, HK1, BK121, BK122, HB⟩ := hrel
  cases gk with
  | zero => exact absurd HA.out (by simp [mir_former_place.l0])
  | succ k1 =>
   have H := HA.out
   clear HA
   simp only [mir_former_place.l0] at H
   by_cases c7 : x10_1 < (l1_1.length : Int)
   ·rw [if_pos c7] at H
    have c7b0 : decide (x10_1 < (l1_1.length : Int)) = true := decide_eq_true c7
    clear c7
    by_cases c8 : 0 ≤ x10_1
    ·rw [if_pos c8] at H
     have c8b0 : decide (0 ≤ x10_1) = true := decide_eq_true c8
     clear c8
     by_cases c9 : x10_1 < (l1_1.length : Int)
     ·rw [if_pos c9] at H
      have c9b0 : decide (x10_1 < (l1_1.length : Int)) = true := decide_eq_true c9
      clear c9
      by_cases c10 : ((rd_T57 l1_1 x10_1).f0) = 1
      ·rw [if_pos c10] at H
       have c10b0 : (((rd_T57 l1_1 x10_1).f0) == 1) = true := beq_iff_eq.mpr c10
       have c10b1 : (((rd_T57 l1_1 x10_1).f0) != 1) = false := bne_eq_false_iff_eq.mpr c10
       clear c10
       by_cases c11 : ((rd_T57 l1_1 x10_1).f1) < 0
       ·rw [if_pos c11] at H
        have c11b0 : decide (((rd_T57 l1_1 x10_1).f1) < 0) = true := decide_eq_true c11
        clear c11
        obtain rfl := Option.some.inj H
        have p124 : 0 ≤ (x10_1 : Int) := of_decide_eq_true (by first | (with_reducible assumption) | assumption)
        have q124 : x10_1 < (l1_1.length : Int) := of_decide_eq_true (by first | (with_reducible assumption) | assumption)
        obtain ⟨ad124, e124, hx124_0, hx124_1, hx124_2⟩ := at_T57 HR1_1.out x10_1 p124 q124
        cases e124
        replace hx124_0 := (HB.out.cell (World.block_lt_of_cell? w _ hx124_0)).trans hx124_0
        replace hx124_1 := (HB.out.cell (World.block_lt_of_cell? w _ hx124_1)).trans hx124_1
        replace hx124_2 := (HB.out.cell (World.block_lt_of_cell? w _ hx124_2)).trans hx124_2
        replace p124 := eq_true p124
        replace q124 := eq_true q124
        go_wp2_with (first | ((with_reducible refine gate_dst (N := 6) rfl ?_); refine box_event ?hg (N := 6) ?hd (cs := #[.int .i64 0, .int .i64 0, .int .i64 0]) (t := 57) ?hr ?_; (case hd => rfl); (case hg => rfl); (case hr => first | (go_simp; done) | (go_simp; rfl)); intro gb125 hg w12 hbox hb; have n0_ := Aside0.mk (blk_below (g := gb121) (o := .cells #[.slice A0_0 l0_0.length c0_0, .string a0_1, .slice A0_2 l0_2.length c0_2, .int .i64 a0_3, .int .i64 a0_4, .bool a0_5, .slice A0_6 l0_6.length c0_6] 101 (0, 0)) (by (with_reducible repeat (first | refine blk_drewN ?_ _ | refine blk_drew ?_ | refine blk_alloc ?_ _)); exact BK121.out) hb); have n1_ := Aside0.mk (blk_below (g := gb122) (o := .cells #[.int .i64 a1_0, .slice (some ad124) l1_1.length c1_1] 34 (0, 0)) (by (with_reducible repeat (first | refine blk_drewN ?_ _ | refine blk_drew ?_ | refine blk_alloc ?_ _)); exact BK122.out) hb); have n2_ := Aside0.mk (below_step (by repeat (first | (with_reducible first | exact HB.out | apply below_alloc | apply pw_below_drewN | apply below_drew1 | refine below_set ?_ GE121.out | refine below_set ?_ GE122.out) | exact HB.out)) hb); have n3_ := Aside0.mk (hbox); have n4_ := Aside0.mk ((by rw [hg]; exact (below_size (by repeat (first | (with_reducible first | exact HB.out | apply below_alloc | apply pw_below_drewN | apply below_drew1 | refine below_set ?_ GE121.out | refine below_set ?_ GE122.out) | exact HB.out))) : w.heap.size ≤ gb125)); have n5_ := Aside0.mk ((by rw [hg]; exact (below_size (by repeat (first | (with_reducible first | exact HB.out | apply below_alloc | apply pw_below_drewN | apply below_drew1 | refine below_set ?_ GE121.out | refine below_set ?_ GE122.out) | exact HB.out))) : w.heap.size ≤ gb125)); have n6_ := Aside0.mk ((by rw [hg]; exact Nat.ne_of_lt (blk_lt (g := gb121) (o := .cells #[.slice A0_0 l0_0.length c0_0, .string a0_1, .slice A0_2 l0_2.length c0_2, .int .i64 a0_3, .int .i64 a0_4, .bool a0_5, .slice A0_6 l0_6.length c0_6] 101 (0, 0)) (by (with_reducible repeat (first | refine blk_drewN ?_ _ | refine blk_drew ?_ | refine blk_alloc ?_ _)); exact BK121.out)) : gb121 ≠ gb125)); have n7_ := Aside0.mk ((by rw [hg]; exact Nat.ne_of_gt (blk_lt (g := gb121) (o := .cells #[.slice A0_0 l0_0.length c0_0, .string a0_1, .slice A0_2 l0_2.length c0_2, .int .i64 a0_3, .int .i64 a0_4, .bool a0_5, .slice A0_6 l0_6.length c0_6] 101 (0, 0)) (by (with_reducible repeat (first | refine blk_drewN ?_ _ | refine blk_drew ?_ | refine blk_alloc ?_ _)); exact BK121.out)) : gb125 ≠ gb121)); have n8_ := Aside0.mk ((by rw [hg]; exact Nat.ne_of_lt (blk_lt (g := gb122) (o := .cells #[.int .i64 a1_0, .slice (some ad124) l1_1.length c1_1] 34 (0, 0)) (by (with_reducible repeat (first | refine blk_drewN ?_ _ | refine blk_drew ?_ | refine blk_alloc ?_ _)); exact BK122.out)) : gb122 ≠ gb125)); have n9_ := Aside0.mk ((by rw [hg]; exact Nat.ne_of_gt (blk_lt (g := gb122) (o := .cells #[.int .i64 a1_0, .slice (some ad124) l1_1.length c1_1] 34 (0, 0)) (by (with_reducible repeat (first | refine blk_drewN ?_ _ | refine blk_drew ?_ | refine blk_alloc ?_ _)); exact BK122.out)) : gb125 ≠ gb122)); clear BK121; clear BK122; clear HB; have BK121 := n0_; have BK122 := n1_; have HB := n2_; have BK125 := n3_; have GW125 := n4_; have GE125 := n5_; have NB121_125 := n6_; have NB125_121 := n7_; have NB122_125 := n8_; have NB125_122 := n9_; clear n0_ n1_ n2_ n3_ n4_ n5_ n6_ n7_ n8_ n9_; clear hb hbox hg; have hnb13 := NB125_121.out; have hnc13 := NB121_125.out; have hnb14 := NB125_122.out; have hnc14 := NB122_125.out; have hcz15_0 : w12.cell? ⟨gb125, 0, none⟩ = some (.int .i64 0) := (blk_cell BK125.out 0).trans rfl; have hcz15_1 : w12.cell? ⟨gb125, 1, none⟩ = some (.int .i64 0) := (blk_cell BK125.out 1).trans rfl; have hcz15_2 : w12.cell? ⟨gb125, 2, none⟩ = some (.int .i64 0) := (blk_cell BK125.out 2).trans rfl; have hfz15_0 := blk_frozen BK125.out 0; have hfz15_1 := blk_frozen BK125.out 1; have hfz15_2 := blk_frozen BK125.out 2))
        go_ret
        exact ⟨by first | rfl | (simp [errW_none, errW_some] <;> rfl) | (simp [*, errW_none, errW_some] <;> rfl), by repeat (first | (with_reducible first | exact HB.out | apply below_alloc | apply pw_below_drewN | apply below_drew1 | refine below_set ?_ GE121.out | refine below_set ?_ GE122.out | refine below_set ?_ GE125.out) | exact HB.out)⟩
       ·rw [if_neg c11] at H
        have c11b0 : decide (((rd_T57 l1_1 x10_1).f1) < 0) = false := decide_eq_false c11
        clear c11
        by_cases c16 : ((rd_T57 l1_1 x10_1).f1) > 65536
        ·rw [if_pos c16] at H
         have c16b0 : decide (65536 < ((rd_T57 l1_1 x10_1).f1)) = true := decide_eq_true c16
         clear c16
         obtain rfl := Option.some.inj H
         have p124 : 0 ≤ (x10_1 : Int) := of_decide_eq_true (by first | (with_reducible assumption) | assumption)
         have q124 : x10_1 < (l1_1.length : Int) := of_decide_eq_true (by first | (with_reducible assumption) | assumption)
         obtain ⟨ad124, e124, hx124_0, hx124_1, hx124_2⟩ := at_T57 HR1_1.out x10_1 p124 q124
         cases e124
         replace hx124_0 := (HB.out.cell (World.block_lt_of_cell? w _ hx124_0)).trans hx124_0
         replace hx124_1 := (HB.out.cell (World.block_lt_of_cell? w _ hx124_1)).trans hx124_1
         replace hx124_2 := (HB.out.cell (World.block_lt_of_cell? w _ hx124_2)).trans hx124_2
         replace p124 := eq_true p124
         replace q124 := eq_true q124
         go_wp2_with (first | ((with_reducible refine gate_dst (N := 6) rfl ?_); refine box_event ?hg (N := 6) ?hd (cs := #[.int .i64 0, .int .i64 0, .int .i64 0]) (t := 57) ?hr ?_; (case hd => rfl); (case hg => rfl); (case hr => first | (go_simp; done) | (go_simp; rfl)); intro gb125 hg w17 hbox hb; have n0_ := Aside0.mk (blk_below (g := gb121) (o := .cells #[.slice A0_0 l0_0.length c0_0, .string a0_1, .slice A0_2 l0_2.length c0_2, .int .i64 a0_3, .int .i64 a0_4, .bool a0_5, .slice A0_6 l0_6.length c0_6] 101 (0, 0)) (by (with_reducible repeat (first | refine blk_drewN ?_ _ | refine blk_drew ?_ | refine blk_alloc ?_ _)); exact BK121.out) hb); have n1_ := Aside0.mk (blk_below (g := gb122) (o := .cells #[.int .i64 a1_0, .slice (some ad124) l1_1.length c1_1] 34 (0, 0)) (by (with_reducible repeat (first | refine blk_drewN ?_ _ | refine blk_drew ?_ | refine blk_alloc ?_ _)); exact BK122.out) hb); have n2_ := Aside0.mk (below_step (by repeat (first | (with_reducible first | exact HB.out | apply below_alloc | apply pw_below_drewN | apply below_drew1 | refine below_set ?_ GE121.out | refine below_set ?_ GE122.out) | exact HB.out)) hb); have n3_ := Aside0.mk (hbox); have n4_ := Aside0.mk ((by rw [hg]; exact (below_size (by repeat (first | (with_reducible first | exact HB.out | apply below_alloc | apply pw_below_drewN | apply below_drew1 | refine below_set ?_ GE121.out | refine below_set ?_ GE122.out) | exact HB.out))) : w.heap.size ≤ gb125)); have n5_ := Aside0.mk ((by rw [hg]; exact (below_size (by repeat (first | (with_reducible first | exact HB.out | apply below_alloc | apply pw_below_drewN | apply below_drew1 | refine below_set ?_ GE121.out | refine below_set ?_ GE122.out) | exact HB.out))) : w.heap.size ≤ gb125)); have n6_ := Aside0.mk ((by rw [hg]; exact Nat.ne_of_lt (blk_lt (g := gb121) (o := .cells #[.slice A0_0 l0_0.length c0_0, .string a0_1, .slice A0_2 l0_2.length c0_2, .int .i64 a0_3, .int .i64 a0_4, .bool a0_5, .slice A0_6 l0_6.length c0_6] 101 (0, 0)) (by (with_reducible repeat (first | refine blk_drewN ?_ _ | refine blk_drew ?_ | refine blk_alloc ?_ _)); exact BK121.out)) : gb121 ≠ gb125)); have n7_ := Aside0.mk ((by rw [hg]; exact Nat.ne_of_gt (blk_lt (g := gb121) (o := .cells #[.slice A0_0 l0_0.length c0_0, .string a0_1, .slice A0_2 l0_2.length c0_2, .int .i64 a0_3, .int .i64 a0_4, .bool a0_5, .slice A0_6 l0_6.length c0_6] 101 (0, 0)) (by (with_reducible repeat (first | refine blk_drewN ?_ _ | refine blk_drew ?_ | refine blk_alloc ?_ _)); exact BK121.out)) : gb125 ≠ gb121)); have n8_ := Aside0.mk ((by rw [hg]; exact Nat.ne_of_lt (blk_lt (g := gb122) (o := .cells #[.int .i64 a1_0, .slice (some ad124) l1_1.length c1_1] 34 (0, 0)) (by (with_reducible repeat (first | refine blk_drewN ?_ _ | refine blk_drew ?_ | refine blk_alloc ?_ _)); exact BK122.out)) : gb122 ≠ gb125)); have n9_ := Aside0.mk ((by rw [hg]; exact Nat.ne_of_gt (blk_lt (g := gb122) (o := .cells #[.int .i64 a1_0, .slice (some ad124) l1_1.length c1_1] 34 (0, 0)) (by (with_reducible repeat (first | refine blk_drewN ?_ _ | refine blk_drew ?_ | refine blk_alloc ?_ _)); exact BK122.out)) : gb125 ≠ gb122)); clear BK121; clear BK122; clear HB; have BK121 := n0_; have BK122 := n1_; have HB := n2_; have BK125 := n3_; have GW125 := n4_; have GE125 := n5_; have NB121_125 := n6_; have NB125_121 := n7_; have NB122_125 := n8_; have NB125_122 := n9_; clear n0_ n1_ n2_ n3_ n4_ n5_ n6_ n7_ n8_ n9_; clear hb hbox hg; have hnb18 := NB125_121.out; have hnc18 := NB121_125.out; have hnb19 := NB125_122.out; have hnc19 := NB122_125.out; have hcz20_0 : w17.cell? ⟨gb125, 0, none⟩ = some (.int .i64 0) := (blk_cell BK125.out 0).trans rfl; have hcz20_1 : w17.cell? ⟨gb125, 1, none⟩ = some (.int .i64 0) := (blk_cell BK125.out 1).trans rfl; have hcz20_2 : w17.cell? ⟨gb125, 2, none⟩ = some (.int .i64 0) := (blk_cell BK125.out 2).trans rfl; have hfz20_0 := blk_frozen BK125.out 0; have hfz20_1 := blk_frozen BK125.out 1; have hfz20_2 := blk_frozen BK125.out 2))
         go_ret
         exact ⟨by first | rfl | (simp [errW_none, errW_some] <;> rfl) | (simp [*, errW_none, errW_some] <;> rfl), by repeat (first | (with_reducible first | exact HB.out | apply below_alloc | apply pw_below_drewN | apply below_drew1 | refine below_set ?_ GE121.out | refine below_set ?_ GE122.out | refine below_set ?_ GE125.out) | exact HB.out)⟩
        ·rw [if_neg c16] at H
         have c16b0 : decide (65536 < ((rd_T57 l1_1 x10_1).f1)) = false := decide_eq_false c16
         clear c16
         have H' := Aside0.mk H
         clear H
         have p124 : 0 ≤ (x10_1 : Int) := of_decide_eq_true (by first | (with_reducible assumption) | assumption)
         have q124 : x10_1 < (l1_1.length : Int) := of_decide_eq_true (by first | (with_reducible assumption) | assumption)
         obtain ⟨ad124, e124, hx124_0, hx124_1, hx124_2⟩ := at_T57 HR1_1.out x10_1 p124 q124
         cases e124
         replace hx124_0 := (HB.out.cell (World.block_lt_of_cell? w _ hx124_0)).trans hx124_0
         replace hx124_1 := (HB.out.cell (World.block_lt_of_cell? w _ hx124_1)).trans hx124_1
         replace hx124_2 := (HB.out.cell (World.block_lt_of_cell? w _ hx124_2)).trans hx124_2
         replace p124 := eq_true p124
         replace q124 := eq_true q124
         go_wp2_with (first | ((with_reducible refine gate_dst (N := 6) rfl ?_); refine box_event ?hg (N := 6) ?hd (cs := #[.int .i64 0, .int .i64 0, .int .i64 0]) (t := 57) ?hr ?_; (case hd => rfl); (case hg => rfl); (case hr => first | (go_simp; done) | (go_simp; rfl)); intro gb125 hg w21 hbox hb; have n0_ := Aside0.mk (blk_below (g := gb121) (o := .cells #[.slice A0_0 l0_0.length c0_0, .string a0_1, .slice A0_2 l0_2.length c0_2, .int .i64 a0_3, .int .i64 a0_4, .bool a0_5, .slice A0_6 l0_6.length c0_6] 101 (0, 0)) (by (with_reducible repeat (first | refine blk_drewN ?_ _ | refine blk_drew ?_ | refine blk_alloc ?_ _)); exact BK121.out) hb); have n1_ := Aside0.mk (blk_below (g := gb122) (o := .cells #[.int .i64 a1_0, .slice (some ad124) l1_1.length c1_1] 34 (0, 0)) (by (with_reducible repeat (first | refine blk_drewN ?_ _ | refine blk_drew ?_ | refine blk_alloc ?_ _)); exact BK122.out) hb); have n2_ := Aside0.mk (below_step (by repeat (first | (with_reducible first | exact HB.out | apply below_alloc | apply pw_below_drewN | apply below_drew1 | refine below_set ?_ GE121.out | refine below_set ?_ GE122.out) | exact HB.out)) hb); have n3_ := Aside0.mk (hbox); have n4_ := Aside0.mk ((by rw [hg]; exact (below_size (by repeat (first | (with_reducible first | exact HB.out | apply below_alloc | apply pw_below_drewN | apply below_drew1 | refine below_set ?_ GE121.out | refine below_set ?_ GE122.out) | exact HB.out))) : w.heap.size ≤ gb125)); have n5_ := Aside0.mk ((by rw [hg]; exact (below_size (by repeat (first | (with_reducible first | exact HB.out | apply below_alloc | apply pw_below_drewN | apply below_drew1 | refine below_set ?_ GE121.out | refine below_set ?_ GE122.out) | exact HB.out))) : w.heap.size ≤ gb125)); have n6_ := Aside0.mk ((by rw [hg]; exact Nat.ne_of_lt (blk_lt (g := gb121) (o := .cells #[.slice A0_0 l0_0.length c0_0, .string a0_1, .slice A0_2 l0_2.length c0_2, .int .i64 a0_3, .int .i64 a0_4, .bool a0_5, .slice A0_6 l0_6.length c0_6] 101 (0, 0)) (by (with_reducible repeat (first | refine blk_drewN ?_ _ | refine blk_drew ?_ | refine blk_alloc ?_ _)); exact BK121.out)) : gb121 ≠ gb125)); have n7_ := Aside0.mk ((by rw [hg]; exact Nat.ne_of_gt (blk_lt (g := gb121) (o := .cells #[.slice A0_0 l0_0.length c0_0, .string a0_1, .slice A0_2 l0_2.length c0_2, .int .i64 a0_3, .int .i64 a0_4, .bool a0_5, .slice A0_6 l0_6.length c0_6] 101 (0, 0)) (by (with_reducible repeat (first | refine blk_drewN ?_ _ | refine blk_drew ?_ | refine blk_alloc ?_ _)); exact BK121.out)) : gb125 ≠ gb121)); have n8_ := Aside0.mk ((by rw [hg]; exact Nat.ne_of_lt (blk_lt (g := gb122) (o := .cells #[.int .i64 a1_0, .slice (some ad124) l1_1.length c1_1] 34 (0, 0)) (by (with_reducible repeat (first | refine blk_drewN ?_ _ | refine blk_drew ?_ | refine blk_alloc ?_ _)); exact BK122.out)) : gb122 ≠ gb125)); have n9_ := Aside0.mk ((by rw [hg]; exact Nat.ne_of_gt (blk_lt (g := gb122) (o := .cells #[.int .i64 a1_0, .slice (some ad124) l1_1.length c1_1] 34 (0, 0)) (by (with_reducible repeat (first | refine blk_drewN ?_ _ | refine blk_drew ?_ | refine blk_alloc ?_ _)); exact BK122.out)) : gb125 ≠ gb122)); clear BK121; clear BK122; clear HB; have BK121 := n0_; have BK122 := n1_; have HB := n2_; have BK125 := n3_; have GW125 := n4_; have GE125 := n5_; have NB121_125 := n6_; have NB125_121 := n7_; have NB122_125 := n8_; have NB125_122 := n9_; clear n0_ n1_ n2_ n3_ n4_ n5_ n6_ n7_ n8_ n9_; clear hb hbox hg; have hnb22 := NB125_121.out; have hnc22 := NB121_125.out; have hnb23 := NB125_122.out; have hnc23 := NB122_125.out; have hcz24_0 : w21.cell? ⟨gb125, 0, none⟩ = some (.int .i64 0) := (blk_cell BK125.out 0).trans rfl; have hcz24_1 : w21.cell? ⟨gb125, 1, none⟩ = some (.int .i64 0) := (blk_cell BK125.out 1).trans rfl; have hcz24_2 : w21.cell? ⟨gb125, 2, none⟩ = some (.int .i64 0) := (blk_cell BK125.out 2).trans rfl; have hfz24_0 := blk_frozen BK125.out 0; have hfz24_1 := blk_frozen BK125.out 1; have hfz24_2 := blk_frozen BK125.out 2))
         go_roundg k1
         case measure => have := HK1.out; omega
         case rel => exact ⟨(wrap64 (x10_1 + 1)), (by first | rfl | (simp; done) | (simp [*]; done)), H', ⟨by have := HK1.out; omega⟩, ⟨by (with_reducible repeat (first | refine blk_drewN ?_ _ | refine blk_drew ?_ | refine blk_alloc ?_ _)); refine blk_far ?_ NB121_125.out _; (with_reducible repeat (first | refine blk_drewN ?_ _ | refine blk_drew ?_ | refine blk_alloc ?_ _)); refine blk_far ?_ NB121_125.out _; (with_reducible repeat (first | refine blk_drewN ?_ _ | refine blk_drew ?_ | refine blk_alloc ?_ _)); refine blk_far ?_ NB121_125.out _; (with_reducible repeat (first | refine blk_drewN ?_ _ | refine blk_drew ?_ | refine blk_alloc ?_ _)); exact BK121.out⟩, ⟨by (with_reducible repeat (first | refine blk_drewN ?_ _ | refine blk_drew ?_ | refine blk_alloc ?_ _)); refine blk_far ?_ NB122_125.out _; (with_reducible repeat (first | refine blk_drewN ?_ _ | refine blk_drew ?_ | refine blk_alloc ?_ _)); refine blk_far ?_ NB122_125.out _; (with_reducible repeat (first | refine blk_drewN ?_ _ | refine blk_drew ?_ | refine blk_alloc ?_ _)); refine blk_far ?_ NB122_125.out _; (with_reducible repeat (first | refine blk_drewN ?_ _ | refine blk_drew ?_ | refine blk_alloc ?_ _)); exact BK122.out⟩, ⟨by repeat (first | (with_reducible first | exact HB.out | apply below_alloc | apply pw_below_drewN | apply below_drew1 | refine below_set ?_ GE121.out | refine below_set ?_ GE122.out | refine below_set ?_ GE125.out) | exact HB.out)⟩⟩
      ·rw [if_neg c10] at H
       have c10b0 : (((rd_T57 l1_1 x10_1).f0) == 1) = false := beq_eq_false_iff_ne.mpr c10
       have c10b1 : (((rd_T57 l1_1 x10_1).f0) != 1) = true := bne_iff_ne.mpr c10
       by_cases c25 : ((rd_T57 l1_1 x10_1).f0) = 2
       ·rw [if_pos c25] at H
        have c25b0 : (((rd_T57 l1_1 x10_1).f0) == 2) = true := beq_iff_eq.mpr c25
        have c25b1 : (((rd_T57 l1_1 x10_1).f0) != 2) = false := bne_eq_false_iff_eq.mpr c25
        clear c25
        replace H := Option.bind_eq_some_iff.mp H
        obtain ⟨t126, A260, H⟩ := H
        replace H : (if t126 = true then (if ((rd_T57 l1_1 x10_1).f2) < 0 then (some false) else (if ((rd_T57 l1_1 x10_1).f2) > 65536 then (some false) else (mir_former_place.l0 k1 l1_1 (l1_1.length : Int) (wrap64 (x10_1 + 1)) l0_0 a0_1 l0_2 a0_3 a0_4 a0_5 l0_6 a1_0 l1_1))) else (some false)) = some r := H
        have A26 := Aside0.mk A260
        clear A260
        by_cases c27 : t126 = true
        ·subst c27
         have H1 : (if ((rd_T57 l1_1 x10_1).f2) < 0 then (some false) else (if ((rd_T57 l1_1 x10_1).f2) > 65536 then (some false) else (mir_former_place.l0 k1 l1_1 (l1_1.length : Int) (wrap64 (x10_1 + 1)) l0_0 a0_1 l0_2 a0_3 a0_4 a0_5 l0_6 a1_0 l1_1))) = some r := by rw [if_pos rfl] at H; exact H
         clear H
         have H := H1
         clear H1
         by_cases c28 : ((rd_T57 l1_1 x10_1).f2) < 0
         ·rw [if_pos c28] at H
          have c28b0 : decide (((rd_T57 l1_1 x10_1).f2) < 0) = true := decide_eq_true c28
          clear c28
          obtain rfl := Option.some.inj H
          have p124 : 0 ≤ (x10_1 : Int) := of_decide_eq_true (by first | (with_reducible assumption) | assumption)
          have q124 : x10_1 < (l1_1.length : Int) := of_decide_eq_true (by first | (with_reducible assumption) | assumption)
          obtain ⟨ad124, e124, hx124_0, hx124_1, hx124_2⟩ := at_T57 HR1_1.out x10_1 p124 q124
          cases e124
          replace hx124_0 := (HB.out.cell (World.block_lt_of_cell? w _ hx124_0)).trans hx124_0
          replace hx124_1 := (HB.out.cell (World.block_lt_of_cell? w _ hx124_1)).trans hx124_1
          replace hx124_2 := (HB.out.cell (World.block_lt_of_cell? w _ hx124_2)).trans hx124_2
          replace p124 := eq_true p124
          replace q124 := eq_true q124
          go_wp2_with (first | ((with_reducible refine gate_dst (N := 6) rfl ?_); refine box_event ?hg (N := 6) ?hd (cs := #[.int .i64 0, .int .i64 0, .int .i64 0]) (t := 57) ?hr ?_; (case hd => rfl); (case hg => rfl); (case hr => first | (go_simp; done) | (go_simp; rfl)); intro gb125 hg w29 hbox hb; have n0_ := Aside0.mk (blk_below (g := gb121) (o := .cells #[.slice A0_0 l0_0.length c0_0, .string a0_1, .slice A0_2 l0_2.length c0_2, .int .i64 a0_3, .int .i64 a0_4, .bool a0_5, .slice A0_6 l0_6.length c0_6] 101 (0, 0)) (by (with_reducible repeat (first | refine blk_drewN ?_ _ | refine blk_drew ?_ | refine blk_alloc ?_ _)); exact BK121.out) hb); have n1_ := Aside0.mk (blk_below (g := gb122) (o := .cells #[.int .i64 a1_0, .slice (some ad124) l1_1.length c1_1] 34 (0, 0)) (by (with_reducible repeat (first | refine blk_drewN ?_ _ | refine blk_drew ?_ | refine blk_alloc ?_ _)); exact BK122.out) hb); have n2_ := Aside0.mk (below_step (by repeat (first | (with_reducible first | exact HB.out | apply below_alloc | apply pw_below_drewN | apply below_drew1 | refine below_set ?_ GE121.out | refine below_set ?_ GE122.out) | exact HB.out)) hb); have n3_ := Aside0.mk (hbox); have n4_ := Aside0.mk ((by rw [hg]; exact (below_size (by repeat (first | (with_reducible first | exact HB.out | apply below_alloc | apply pw_below_drewN | apply below_drew1 | refine below_set ?_ GE121.out | refine below_set ?_ GE122.out) | exact HB.out))) : w.heap.size ≤ gb125)); have n5_ := Aside0.mk ((by rw [hg]; exact (below_size (by repeat (first | (with_reducible first | exact HB.out | apply below_alloc | apply pw_below_drewN | apply below_drew1 | refine below_set ?_ GE121.out | refine below_set ?_ GE122.out) | exact HB.out))) : w.heap.size ≤ gb125)); have n6_ := Aside0.mk ((by rw [hg]; exact Nat.ne_of_lt (blk_lt (g := gb121) (o := .cells #[.slice A0_0 l0_0.length c0_0, .string a0_1, .slice A0_2 l0_2.length c0_2, .int .i64 a0_3, .int .i64 a0_4, .bool a0_5, .slice A0_6 l0_6.length c0_6] 101 (0, 0)) (by (with_reducible repeat (first | refine blk_drewN ?_ _ | refine blk_drew ?_ | refine blk_alloc ?_ _)); exact BK121.out)) : gb121 ≠ gb125)); have n7_ := Aside0.mk ((by rw [hg]; exact Nat.ne_of_gt (blk_lt (g := gb121) (o := .cells #[.slice A0_0 l0_0.length c0_0, .string a0_1, .slice A0_2 l0_2.length c0_2, .int .i64 a0_3, .int .i64 a0_4, .bool a0_5, .slice A0_6 l0_6.length c0_6] 101 (0, 0)) (by (with_reducible repeat (first | refine blk_drewN ?_ _ | refine blk_drew ?_ | refine blk_alloc ?_ _)); exact BK121.out)) : gb125 ≠ gb121)); have n8_ := Aside0.mk ((by rw [hg]; exact Nat.ne_of_lt (blk_lt (g := gb122) (o := .cells #[.int .i64 a1_0, .slice (some ad124) l1_1.length c1_1] 34 (0, 0)) (by (with_reducible repeat (first | refine blk_drewN ?_ _ | refine blk_drew ?_ | refine blk_alloc ?_ _)); exact BK122.out)) : gb122 ≠ gb125)); have n9_ := Aside0.mk ((by rw [hg]; exact Nat.ne_of_gt (blk_lt (g := gb122) (o := .cells #[.int .i64 a1_0, .slice (some ad124) l1_1.length c1_1] 34 (0, 0)) (by (with_reducible repeat (first | refine blk_drewN ?_ _ | refine blk_drew ?_ | refine blk_alloc ?_ _)); exact BK122.out)) : gb125 ≠ gb122)); clear BK121; clear BK122; clear HB; have BK121 := n0_; have BK122 := n1_; have HB := n2_; have BK125 := n3_; have GW125 := n4_; have GE125 := n5_; have NB121_125 := n6_; have NB125_121 := n7_; have NB122_125 := n8_; have NB125_122 := n9_; clear n0_ n1_ n2_ n3_ n4_ n5_ n6_ n7_ n8_ n9_; clear hb hbox hg; have hnb30 := NB125_121.out; have hnc30 := NB121_125.out; have hnb31 := NB125_122.out; have hnc31 := NB122_125.out; have hcz32_0 : w29.cell? ⟨gb125, 0, none⟩ = some (.int .i64 0) := (blk_cell BK125.out 0).trans rfl; have hcz32_1 : w29.cell? ⟨gb125, 1, none⟩ = some (.int .i64 0) := (blk_cell BK125.out 1).trans rfl; have hcz32_2 : w29.cell? ⟨gb125, 2, none⟩ = some (.int .i64 0) := (blk_cell BK125.out 2).trans rfl; have hfz32_0 := blk_frozen BK125.out 0; have hfz32_1 := blk_frozen BK125.out 1; have hfz32_2 := blk_frozen BK125.out 2; have hnb33 := NB121_122.out; have hnc33 := NB122_121.out; have hcz34_0 : w29.cell? ⟨gb121, 0, none⟩ = some (.slice A0_0 l0_0.length c0_0) := (blk_cell BK121.out 0).trans rfl; have hcz34_1 : w29.cell? ⟨gb121, 1, none⟩ = some (.string a0_1) := (blk_cell BK121.out 1).trans rfl; have hcz34_2 : w29.cell? ⟨gb121, 2, none⟩ = some (.slice A0_2 l0_2.length c0_2) := (blk_cell BK121.out 2).trans rfl; have hcz34_3 : w29.cell? ⟨gb121, 3, none⟩ = some (.int .i64 a0_3) := (blk_cell BK121.out 3).trans rfl; have hcz34_4 : w29.cell? ⟨gb121, 4, none⟩ = some (.int .i64 a0_4) := (blk_cell BK121.out 4).trans rfl; have hcz34_5 : w29.cell? ⟨gb121, 5, none⟩ = some (.bool a0_5) := (blk_cell BK121.out 5).trans rfl; have hcz34_6 : w29.cell? ⟨gb121, 6, none⟩ = some (.slice A0_6 l0_6.length c0_6) := (blk_cell BK121.out 6).trans rfl; have hfz34_0 := blk_frozen BK121.out 0; have hfz34_1 := blk_frozen BK121.out 1; have hfz34_2 := blk_frozen BK121.out 2; have hfz34_3 := blk_frozen BK121.out 3; have hfz34_4 := blk_frozen BK121.out 4; have hfz34_5 := blk_frozen BK121.out 5; have hfz34_6 := blk_frozen BK121.out 6) | ((with_reducible refine gate_callee (f := 57) rfl ?_); refine goesL_ (some 31) rfl rfl Try.func57 (by kernel_rfl) rfl #[.agg #[.slice A0_0 l0_0.length c0_0, .string a0_1, .slice A0_2 l0_2.length c0_2, .int .i64 a0_3, .int .i64 a0_4, .bool a0_5, .slice A0_6 l0_6.length c0_6], .int .i64 ((rd_T57 l1_1 x10_1).f1)] rfl (by (try simp only [List.map_toArray, List.map_cons, List.map_nil]); first | done | rfl | (simp only [List.length_drop, List.length_take]; rfl)) ?_; (with_reducible refine (mir_former_scalar.calls _ _ l0_0 a0_1 _ _ l0_2 a0_3 a0_4 a0_5 _ _ l0_6 ((rd_T57 l1_1 x10_1).f1) true _ ?side1 ?side2 ?side3 ?side4 ?side5 ?side6 A26.out).mono ?_); (case side1 => exact Kd.C_below HR0_0.out (by repeat (first | (with_reducible first | exact HB.out | apply below_alloc | apply pw_below_drewN | apply below_drew1 | refine below_set ?_ GE121.out | refine below_set ?_ GE122.out | refine below_set ?_ GE125.out) | exact HB.out))); (case side2 => exact HC0_0.out); (case side3 => exact Kd.C_below HR0_2.out (by repeat (first | (with_reducible first | exact HB.out | apply below_alloc | apply pw_below_drewN | apply below_drew1 | refine below_set ?_ GE121.out | refine below_set ?_ GE122.out | refine below_set ?_ GE125.out) | exact HB.out))); (case side4 => exact HC0_2.out); (case side5 => exact Kd.C_below HR0_6.out (by repeat (first | (with_reducible first | exact HB.out | apply below_alloc | apply pw_below_drewN | apply below_drew1 | refine below_set ?_ GE121.out | refine below_set ?_ GE122.out | refine below_set ?_ GE125.out) | exact HB.out))); (case side6 => exact HC0_6.out); rintro e w35 ⟨rfl, hb⟩; refine ⟨_, rfl, ?_⟩; have n0_ := Aside0.mk (blk_below (g := gb121) (o := .cells #[.slice A0_0 l0_0.length c0_0, .string a0_1, .slice A0_2 l0_2.length c0_2, .int .i64 a0_3, .int .i64 a0_4, .bool a0_5, .slice A0_6 l0_6.length c0_6] 101 (0, 0)) (by (with_reducible repeat (first | refine blk_drewN ?_ _ | refine blk_drew ?_ | refine blk_alloc ?_ _)); refine blk_far ?_ NB121_125.out _; (with_reducible repeat (first | refine blk_drewN ?_ _ | refine blk_drew ?_ | refine blk_alloc ?_ _)); refine blk_far ?_ NB121_125.out _; (with_reducible repeat (first | refine blk_drewN ?_ _ | refine blk_drew ?_ | refine blk_alloc ?_ _)); refine blk_far ?_ NB121_125.out _; (with_reducible repeat (first | refine blk_drewN ?_ _ | refine blk_drew ?_ | refine blk_alloc ?_ _)); exact BK121.out) hb); have n1_ := Aside0.mk (blk_below (g := gb122) (o := .cells #[.int .i64 a1_0, .slice (some ad124) l1_1.length c1_1] 34 (0, 0)) (by (with_reducible repeat (first | refine blk_drewN ?_ _ | refine blk_drew ?_ | refine blk_alloc ?_ _)); refine blk_far ?_ NB122_125.out _; (with_reducible repeat (first | refine blk_drewN ?_ _ | refine blk_drew ?_ | refine blk_alloc ?_ _)); refine blk_far ?_ NB122_125.out _; (with_reducible repeat (first | refine blk_drewN ?_ _ | refine blk_drew ?_ | refine blk_alloc ?_ _)); refine blk_far ?_ NB122_125.out _; (with_reducible repeat (first | refine blk_drewN ?_ _ | refine blk_drew ?_ | refine blk_alloc ?_ _)); exact BK122.out) hb); have n2_ := Aside0.mk (blk_below (g := gb125) (o := .cells #[.int .i64 ((rd_T57 l1_1 x10_1).f0), .int .i64 ((rd_T57 l1_1 x10_1).f1), .int .i64 ((rd_T57 l1_1 x10_1).f2)] 57 (0, 0)) (by (with_reducible repeat (first | refine blk_drewN ?_ _ | refine blk_drew ?_ | refine blk_alloc ?_ _)); refine blk_put (cs := #[.int .i64 ((rd_T57 l1_1 x10_1).f0), .int .i64 ((rd_T57 l1_1 x10_1).f1), .int .i64 0]) ?_ 2 _ rfl; (with_reducible repeat (first | refine blk_drewN ?_ _ | refine blk_drew ?_ | refine blk_alloc ?_ _)); refine blk_put (cs := #[.int .i64 ((rd_T57 l1_1 x10_1).f0), .int .i64 0, .int .i64 0]) ?_ 1 _ rfl; (with_reducible repeat (first | refine blk_drewN ?_ _ | refine blk_drew ?_ | refine blk_alloc ?_ _)); refine blk_put (cs := #[.int .i64 0, .int .i64 0, .int .i64 0]) ?_ 0 _ rfl; (with_reducible repeat (first | refine blk_drewN ?_ _ | refine blk_drew ?_ | refine blk_alloc ?_ _)); exact BK125.out) hb); have n3_ := Aside0.mk (below_step (by repeat (first | (with_reducible first | exact HB.out | apply below_alloc | apply pw_below_drewN | apply below_drew1 | refine below_set ?_ GE121.out | refine below_set ?_ GE122.out | refine below_set ?_ GE125.out) | exact HB.out)) hb); clear BK121; clear BK122; clear BK125; clear HB; have BK121 := n0_; have BK122 := n1_; have BK125 := n2_; have HB := n3_; clear n0_ n1_ n2_ n3_; (try clear hb); (try clear hb2); (try clear hk); (try clear hi); have hcz36_0 : w35.cell? ⟨gb125, 0, none⟩ = some (.int .i64 ((rd_T57 l1_1 x10_1).f0)) := (blk_cell BK125.out 0).trans rfl; have hcz36_1 : w35.cell? ⟨gb125, 1, none⟩ = some (.int .i64 ((rd_T57 l1_1 x10_1).f1)) := (blk_cell BK125.out 1).trans rfl; have hcz36_2 : w35.cell? ⟨gb125, 2, none⟩ = some (.int .i64 ((rd_T57 l1_1 x10_1).f2)) := (blk_cell BK125.out 2).trans rfl; have hfz36_0 := blk_frozen BK125.out 0; have hfz36_1 := blk_frozen BK125.out 1; have hfz36_2 := blk_frozen BK125.out 2))
          go_ret
          exact ⟨by first | rfl | (simp [errW_none, errW_some] <;> rfl) | (simp [*, errW_none, errW_some] <;> rfl), by repeat (first | (with_reducible first | exact HB.out | apply below_alloc | apply pw_below_drewN | apply below_drew1 | refine below_set ?_ GE121.out | refine below_set ?_ GE122.out | refine below_set ?_ GE125.out) | exact HB.out)⟩
         ·rw [if_neg c28] at H
          have c28b0 : decide (((rd_T57 l1_1 x10_1).f2) < 0) = false := decide_eq_false c28
          clear c28
          by_cases c37 : ((rd_T57 l1_1 x10_1).f2) > 65536
          ·rw [if_pos c37] at H
           have c37b0 : decide (65536 < ((rd_T57 l1_1 x10_1).f2)) = true := decide_eq_true c37
           clear c37
           obtain rfl := Option.some.inj H
           have p124 : 0 ≤ (x10_1 : Int) := of_decide_eq_true (by first | (with_reducible assumption) | assumption)
           have q124 : x10_1 < (l1_1.length : Int) := of_decide_eq_true (by first | (with_reducible assumption) | assumption)
           obtain ⟨ad124, e124, hx124_0, hx124_1, hx124_2⟩ := at_T57 HR1_1.out x10_1 p124 q124
           cases e124
           replace hx124_0 := (HB.out.cell (World.block_lt_of_cell? w _ hx124_0)).trans hx124_0
           replace hx124_1 := (HB.out.cell (World.block_lt_of_cell? w _ hx124_1)).trans hx124_1
           replace hx124_2 := (HB.out.cell (World.block_lt_of_cell? w _ hx124_2)).trans hx124_2
           replace p124 := eq_true p124
           replace q124 := eq_true q124
           go_wp2_with (first | ((with_reducible refine gate_dst (N := 6) rfl ?_); refine box_event ?hg (N := 6) ?hd (cs := #[.int .i64 0, .int .i64 0, .int .i64 0]) (t := 57) ?hr ?_; (case hd => rfl); (case hg => rfl); (case hr => first | (go_simp; done) | (go_simp; rfl)); intro gb125 hg w38 hbox hb; have n0_ := Aside0.mk (blk_below (g := gb121) (o := .cells #[.slice A0_0 l0_0.length c0_0, .string a0_1, .slice A0_2 l0_2.length c0_2, .int .i64 a0_3, .int .i64 a0_4, .bool a0_5, .slice A0_6 l0_6.length c0_6] 101 (0, 0)) (by (with_reducible repeat (first | refine blk_drewN ?_ _ | refine blk_drew ?_ | refine blk_alloc ?_ _)); exact BK121.out) hb); have n1_ := Aside0.mk (blk_below (g := gb122) (o := .cells #[.int .i64 a1_0, .slice (some ad124) l1_1.length c1_1] 34 (0, 0)) (by (with_reducible repeat (first | refine blk_drewN ?_ _ | refine blk_drew ?_ | refine blk_alloc ?_ _)); exact BK122.out) hb); have n2_ := Aside0.mk (below_step (by repeat (first | (with_reducible first | exact HB.out | apply below_alloc | apply pw_below_drewN | apply below_drew1 | refine below_set ?_ GE121.out | refine below_set ?_ GE122.out) | exact HB.out)) hb); have n3_ := Aside0.mk (hbox); have n4_ := Aside0.mk ((by rw [hg]; exact (below_size (by repeat (first | (with_reducible first | exact HB.out | apply below_alloc | apply pw_below_drewN | apply below_drew1 | refine below_set ?_ GE121.out | refine below_set ?_ GE122.out) | exact HB.out))) : w.heap.size ≤ gb125)); have n5_ := Aside0.mk ((by rw [hg]; exact (below_size (by repeat (first | (with_reducible first | exact HB.out | apply below_alloc | apply pw_below_drewN | apply below_drew1 | refine below_set ?_ GE121.out | refine below_set ?_ GE122.out) | exact HB.out))) : w.heap.size ≤ gb125)); have n6_ := Aside0.mk ((by rw [hg]; exact Nat.ne_of_lt (blk_lt (g := gb121) (o := .cells #[.slice A0_0 l0_0.length c0_0, .string a0_1, .slice A0_2 l0_2.length c0_2, .int .i64 a0_3, .int .i64 a0_4, .bool a0_5, .slice A0_6 l0_6.length c0_6] 101 (0, 0)) (by (with_reducible repeat (first | refine blk_drewN ?_ _ | refine blk_drew ?_ | refine blk_alloc ?_ _)); exact BK121.out)) : gb121 ≠ gb125)); have n7_ := Aside0.mk ((by rw [hg]; exact Nat.ne_of_gt (blk_lt (g := gb121) (o := .cells #[.slice A0_0 l0_0.length c0_0, .string a0_1, .slice A0_2 l0_2.length c0_2, .int .i64 a0_3, .int .i64 a0_4, .bool a0_5, .slice A0_6 l0_6.length c0_6] 101 (0, 0)) (by (with_reducible repeat (first | refine blk_drewN ?_ _ | refine blk_drew ?_ | refine blk_alloc ?_ _)); exact BK121.out)) : gb125 ≠ gb121)); have n8_ := Aside0.mk ((by rw [hg]; exact Nat.ne_of_lt (blk_lt (g := gb122) (o := .cells #[.int .i64 a1_0, .slice (some ad124) l1_1.length c1_1] 34 (0, 0)) (by (with_reducible repeat (first | refine blk_drewN ?_ _ | refine blk_drew ?_ | refine blk_alloc ?_ _)); exact BK122.out)) : gb122 ≠ gb125)); have n9_ := Aside0.mk ((by rw [hg]; exact Nat.ne_of_gt (blk_lt (g := gb122) (o := .cells #[.int .i64 a1_0, .slice (some ad124) l1_1.length c1_1] 34 (0, 0)) (by (with_reducible repeat (first | refine blk_drewN ?_ _ | refine blk_drew ?_ | refine blk_alloc ?_ _)); exact BK122.out)) : gb125 ≠ gb122)); clear BK121; clear BK122; clear HB; have BK121 := n0_; have BK122 := n1_; have HB := n2_; have BK125 := n3_; have GW125 := n4_; have GE125 := n5_; have NB121_125 := n6_; have NB125_121 := n7_; have NB122_125 := n8_; have NB125_122 := n9_; clear n0_ n1_ n2_ n3_ n4_ n5_ n6_ n7_ n8_ n9_; clear hb hbox hg; have hnb39 := NB125_121.out; have hnc39 := NB121_125.out; have hnb40 := NB125_122.out; have hnc40 := NB122_125.out; have hcz41_0 : w38.cell? ⟨gb125, 0, none⟩ = some (.int .i64 0) := (blk_cell BK125.out 0).trans rfl; have hcz41_1 : w38.cell? ⟨gb125, 1, none⟩ = some (.int .i64 0) := (blk_cell BK125.out 1).trans rfl; have hcz41_2 : w38.cell? ⟨gb125, 2, none⟩ = some (.int .i64 0) := (blk_cell BK125.out 2).trans rfl; have hfz41_0 := blk_frozen BK125.out 0; have hfz41_1 := blk_frozen BK125.out 1; have hfz41_2 := blk_frozen BK125.out 2; have hnb42 := NB121_122.out; have hnc42 := NB122_121.out; have hcz43_0 : w38.cell? ⟨gb121, 0, none⟩ = some (.slice A0_0 l0_0.length c0_0) := (blk_cell BK121.out 0).trans rfl; have hcz43_1 : w38.cell? ⟨gb121, 1, none⟩ = some (.string a0_1) := (blk_cell BK121.out 1).trans rfl; have hcz43_2 : w38.cell? ⟨gb121, 2, none⟩ = some (.slice A0_2 l0_2.length c0_2) := (blk_cell BK121.out 2).trans rfl; have hcz43_3 : w38.cell? ⟨gb121, 3, none⟩ = some (.int .i64 a0_3) := (blk_cell BK121.out 3).trans rfl; have hcz43_4 : w38.cell? ⟨gb121, 4, none⟩ = some (.int .i64 a0_4) := (blk_cell BK121.out 4).trans rfl; have hcz43_5 : w38.cell? ⟨gb121, 5, none⟩ = some (.bool a0_5) := (blk_cell BK121.out 5).trans rfl; have hcz43_6 : w38.cell? ⟨gb121, 6, none⟩ = some (.slice A0_6 l0_6.length c0_6) := (blk_cell BK121.out 6).trans rfl; have hfz43_0 := blk_frozen BK121.out 0; have hfz43_1 := blk_frozen BK121.out 1; have hfz43_2 := blk_frozen BK121.out 2; have hfz43_3 := blk_frozen BK121.out 3; have hfz43_4 := blk_frozen BK121.out 4; have hfz43_5 := blk_frozen BK121.out 5; have hfz43_6 := blk_frozen BK121.out 6) | ((with_reducible refine gate_callee (f := 57) rfl ?_); refine goesL_ (some 31) rfl rfl Try.func57 (by kernel_rfl) rfl #[.agg #[.slice A0_0 l0_0.length c0_0, .string a0_1, .slice A0_2 l0_2.length c0_2, .int .i64 a0_3, .int .i64 a0_4, .bool a0_5, .slice A0_6 l0_6.length c0_6], .int .i64 ((rd_T57 l1_1 x10_1).f1)] rfl (by (try simp only [List.map_toArray, List.map_cons, List.map_nil]); first | done | rfl | (simp only [List.length_drop, List.length_take]; rfl)) ?_; (with_reducible refine (mir_former_scalar.calls _ _ l0_0 a0_1 _ _ l0_2 a0_3 a0_4 a0_5 _ _ l0_6 ((rd_T57 l1_1 x10_1).f1) true _ ?side1 ?side2 ?side3 ?side4 ?side5 ?side6 A26.out).mono ?_); (case side1 => exact Kd.C_below HR0_0.out (by repeat (first | (with_reducible first | exact HB.out | apply below_alloc | apply pw_below_drewN | apply below_drew1 | refine below_set ?_ GE121.out | refine below_set ?_ GE122.out | refine below_set ?_ GE125.out) | exact HB.out))); (case side2 => exact HC0_0.out); (case side3 => exact Kd.C_below HR0_2.out (by repeat (first | (with_reducible first | exact HB.out | apply below_alloc | apply pw_below_drewN | apply below_drew1 | refine below_set ?_ GE121.out | refine below_set ?_ GE122.out | refine below_set ?_ GE125.out) | exact HB.out))); (case side4 => exact HC0_2.out); (case side5 => exact Kd.C_below HR0_6.out (by repeat (first | (with_reducible first | exact HB.out | apply below_alloc | apply pw_below_drewN | apply below_drew1 | refine below_set ?_ GE121.out | refine below_set ?_ GE122.out | refine below_set ?_ GE125.out) | exact HB.out))); (case side6 => exact HC0_6.out); rintro e w44 ⟨rfl, hb⟩; refine ⟨_, rfl, ?_⟩; have n0_ := Aside0.mk (blk_below (g := gb121) (o := .cells #[.slice A0_0 l0_0.length c0_0, .string a0_1, .slice A0_2 l0_2.length c0_2, .int .i64 a0_3, .int .i64 a0_4, .bool a0_5, .slice A0_6 l0_6.length c0_6] 101 (0, 0)) (by (with_reducible repeat (first | refine blk_drewN ?_ _ | refine blk_drew ?_ | refine blk_alloc ?_ _)); refine blk_far ?_ NB121_125.out _; (with_reducible repeat (first | refine blk_drewN ?_ _ | refine blk_drew ?_ | refine blk_alloc ?_ _)); refine blk_far ?_ NB121_125.out _; (with_reducible repeat (first | refine blk_drewN ?_ _ | refine blk_drew ?_ | refine blk_alloc ?_ _)); refine blk_far ?_ NB121_125.out _; (with_reducible repeat (first | refine blk_drewN ?_ _ | refine blk_drew ?_ | refine blk_alloc ?_ _)); exact BK121.out) hb); have n1_ := Aside0.mk (blk_below (g := gb122) (o := .cells #[.int .i64 a1_0, .slice (some ad124) l1_1.length c1_1] 34 (0, 0)) (by (with_reducible repeat (first | refine blk_drewN ?_ _ | refine blk_drew ?_ | refine blk_alloc ?_ _)); refine blk_far ?_ NB122_125.out _; (with_reducible repeat (first | refine blk_drewN ?_ _ | refine blk_drew ?_ | refine blk_alloc ?_ _)); refine blk_far ?_ NB122_125.out _; (with_reducible repeat (first | refine blk_drewN ?_ _ | refine blk_drew ?_ | refine blk_alloc ?_ _)); refine blk_far ?_ NB122_125.out _; (with_reducible repeat (first | refine blk_drewN ?_ _ | refine blk_drew ?_ | refine blk_alloc ?_ _)); exact BK122.out) hb); have n2_ := Aside0.mk (blk_below (g := gb125) (o := .cells #[.int .i64 ((rd_T57 l1_1 x10_1).f0), .int .i64 ((rd_T57 l1_1 x10_1).f1), .int .i64 ((rd_T57 l1_1 x10_1).f2)] 57 (0, 0)) (by (with_reducible repeat (first | refine blk_drewN ?_ _ | refine blk_drew ?_ | refine blk_alloc ?_ _)); refine blk_put (cs := #[.int .i64 ((rd_T57 l1_1 x10_1).f0), .int .i64 ((rd_T57 l1_1 x10_1).f1), .int .i64 0]) ?_ 2 _ rfl; (with_reducible repeat (first | refine blk_drewN ?_ _ | refine blk_drew ?_ | refine blk_alloc ?_ _)); refine blk_put (cs := #[.int .i64 ((rd_T57 l1_1 x10_1).f0), .int .i64 0, .int .i64 0]) ?_ 1 _ rfl; (with_reducible repeat (first | refine blk_drewN ?_ _ | refine blk_drew ?_ | refine blk_alloc ?_ _)); refine blk_put (cs := #[.int .i64 0, .int .i64 0, .int .i64 0]) ?_ 0 _ rfl; (with_reducible repeat (first | refine blk_drewN ?_ _ | refine blk_drew ?_ | refine blk_alloc ?_ _)); exact BK125.out) hb); have n3_ := Aside0.mk (below_step (by repeat (first | (with_reducible first | exact HB.out | apply below_alloc | apply pw_below_drewN | apply below_drew1 | refine below_set ?_ GE121.out | refine below_set ?_ GE122.out | refine below_set ?_ GE125.out) | exact HB.out)) hb); clear BK121; clear BK122; clear BK125; clear HB; have BK121 := n0_; have BK122 := n1_; have BK125 := n2_; have HB := n3_; clear n0_ n1_ n2_ n3_; (try clear hb); (try clear hb2); (try clear hk); (try clear hi); have hcz45_0 : w44.cell? ⟨gb125, 0, none⟩ = some (.int .i64 ((rd_T57 l1_1 x10_1).f0)) := (blk_cell BK125.out 0).trans rfl; have hcz45_1 : w44.cell? ⟨gb125, 1, none⟩ = some (.int .i64 ((rd_T57 l1_1 x10_1).f1)) := (blk_cell BK125.out 1).trans rfl; have hcz45_2 : w44.cell? ⟨gb125, 2, none⟩ = some (.int .i64 ((rd_T57 l1_1 x10_1).f2)) := (blk_cell BK125.out 2).trans rfl; have hfz45_0 := blk_frozen BK125.out 0; have hfz45_1 := blk_frozen BK125.out 1; have hfz45_2 := blk_frozen BK125.out 2))
           go_ret
           exact ⟨by first | rfl | (simp [errW_none, errW_some] <;> rfl) | (simp [*, errW_none, errW_some] <;> rfl), by repeat (first | (with_reducible first | exact HB.out | apply below_alloc | apply pw_below_drewN | apply below_drew1 | refine below_set ?_ GE121.out | refine below_set ?_ GE122.out | refine below_set ?_ GE125.out) | exact HB.out)⟩
          ·rw [if_neg c37] at H
           have c37b0 : decide (65536 < ((rd_T57 l1_1 x10_1).f2)) = false := decide_eq_false c37
           clear c37
           have H' := Aside0.mk H
           clear H
           have p124 : 0 ≤ (x10_1 : Int) := of_decide_eq_true (by first | (with_reducible assumption) | assumption)
           have q124 : x10_1 < (l1_1.length : Int) := of_decide_eq_true (by first | (with_reducible assumption) | assumption)
           obtain ⟨ad124, e124, hx124_0, hx124_1, hx124_2⟩ := at_T57 HR1_1.out x10_1 p124 q124
           cases e124
           replace hx124_0 := (HB.out.cell (World.block_lt_of_cell? w _ hx124_0)).trans hx124_0
           replace hx124_1 := (HB.out.cell (World.block_lt_of_cell? w _ hx124_1)).trans hx124_1
           replace hx124_2 := (HB.out.cell (World.block_lt_of_cell? w _ hx124_2)).trans hx124_2
           replace p124 := eq_true p124
           replace q124 := eq_true q124
           go_wp2_with (first | ((with_reducible refine gate_dst (N := 6) rfl ?_); refine box_event ?hg (N := 6) ?hd (cs := #[.int .i64 0, .int .i64 0, .int .i64 0]) (t := 57) ?hr ?_; (case hd => rfl); (case hg => rfl); (case hr => first | (go_simp; done) | (go_simp; rfl)); intro gb125 hg w46 hbox hb; have n0_ := Aside0.mk (blk_below (g := gb121) (o := .cells #[.slice A0_0 l0_0.length c0_0, .string a0_1, .slice A0_2 l0_2.length c0_2, .int .i64 a0_3, .int .i64 a0_4, .bool a0_5, .slice A0_6 l0_6.length c0_6] 101 (0, 0)) (by (with_reducible repeat (first | refine blk_drewN ?_ _ | refine blk_drew ?_ | refine blk_alloc ?_ _)); exact BK121.out) hb); have n1_ := Aside0.mk (blk_below (g := gb122) (o := .cells #[.int .i64 a1_0, .slice (some ad124) l1_1.length c1_1] 34 (0, 0)) (by (with_reducible repeat (first | refine blk_drewN ?_ _ | refine blk_drew ?_ | refine blk_alloc ?_ _)); exact BK122.out) hb); have n2_ := Aside0.mk (below_step (by repeat (first | (with_reducible first | exact HB.out | apply below_alloc | apply pw_below_drewN | apply below_drew1 | refine below_set ?_ GE121.out | refine below_set ?_ GE122.out) | exact HB.out)) hb); have n3_ := Aside0.mk (hbox); have n4_ := Aside0.mk ((by rw [hg]; exact (below_size (by repeat (first | (with_reducible first | exact HB.out | apply below_alloc | apply pw_below_drewN | apply below_drew1 | refine below_set ?_ GE121.out | refine below_set ?_ GE122.out) | exact HB.out))) : w.heap.size ≤ gb125)); have n5_ := Aside0.mk ((by rw [hg]; exact (below_size (by repeat (first | (with_reducible first | exact HB.out | apply below_alloc | apply pw_below_drewN | apply below_drew1 | refine below_set ?_ GE121.out | refine below_set ?_ GE122.out) | exact HB.out))) : w.heap.size ≤ gb125)); have n6_ := Aside0.mk ((by rw [hg]; exact Nat.ne_of_lt (blk_lt (g := gb121) (o := .cells #[.slice A0_0 l0_0.length c0_0, .string a0_1, .slice A0_2 l0_2.length c0_2, .int .i64 a0_3, .int .i64 a0_4, .bool a0_5, .slice A0_6 l0_6.length c0_6] 101 (0, 0)) (by (with_reducible repeat (first | refine blk_drewN ?_ _ | refine blk_drew ?_ | refine blk_alloc ?_ _)); exact BK121.out)) : gb121 ≠ gb125)); have n7_ := Aside0.mk ((by rw [hg]; exact Nat.ne_of_gt (blk_lt (g := gb121) (o := .cells #[.slice A0_0 l0_0.length c0_0, .string a0_1, .slice A0_2 l0_2.length c0_2, .int .i64 a0_3, .int .i64 a0_4, .bool a0_5, .slice A0_6 l0_6.length c0_6] 101 (0, 0)) (by (with_reducible repeat (first | refine blk_drewN ?_ _ | refine blk_drew ?_ | refine blk_alloc ?_ _)); exact BK121.out)) : gb125 ≠ gb121)); have n8_ := Aside0.mk ((by rw [hg]; exact Nat.ne_of_lt (blk_lt (g := gb122) (o := .cells #[.int .i64 a1_0, .slice (some ad124) l1_1.length c1_1] 34 (0, 0)) (by (with_reducible repeat (first | refine blk_drewN ?_ _ | refine blk_drew ?_ | refine blk_alloc ?_ _)); exact BK122.out)) : gb122 ≠ gb125)); have n9_ := Aside0.mk ((by rw [hg]; exact Nat.ne_of_gt (blk_lt (g := gb122) (o := .cells #[.int .i64 a1_0, .slice (some ad124) l1_1.length c1_1] 34 (0, 0)) (by (with_reducible repeat (first | refine blk_drewN ?_ _ | refine blk_drew ?_ | refine blk_alloc ?_ _)); exact BK122.out)) : gb125 ≠ gb122)); clear BK121; clear BK122; clear HB; have BK121 := n0_; have BK122 := n1_; have HB := n2_; have BK125 := n3_; have GW125 := n4_; have GE125 := n5_; have NB121_125 := n6_; have NB125_121 := n7_; have NB122_125 := n8_; have NB125_122 := n9_; clear n0_ n1_ n2_ n3_ n4_ n5_ n6_ n7_ n8_ n9_; clear hb hbox hg; have hnb47 := NB125_121.out; have hnc47 := NB121_125.out; have hnb48 := NB125_122.out; have hnc48 := NB122_125.out; have hcz49_0 : w46.cell? ⟨gb125, 0, none⟩ = some (.int .i64 0) := (blk_cell BK125.out 0).trans rfl; have hcz49_1 : w46.cell? ⟨gb125, 1, none⟩ = some (.int .i64 0) := (blk_cell BK125.out 1).trans rfl; have hcz49_2 : w46.cell? ⟨gb125, 2, none⟩ = some (.int .i64 0) := (blk_cell BK125.out 2).trans rfl; have hfz49_0 := blk_frozen BK125.out 0; have hfz49_1 := blk_frozen BK125.out 1; have hfz49_2 := blk_frozen BK125.out 2; have hnb50 := NB121_122.out; have hnc50 := NB122_121.out; have hcz51_0 : w46.cell? ⟨gb121, 0, none⟩ = some (.slice A0_0 l0_0.length c0_0) := (blk_cell BK121.out 0).trans rfl; have hcz51_1 : w46.cell? ⟨gb121, 1, none⟩ = some (.string a0_1) := (blk_cell BK121.out 1).trans rfl; have hcz51_2 : w46.cell? ⟨gb121, 2, none⟩ = some (.slice A0_2 l0_2.length c0_2) := (blk_cell BK121.out 2).trans rfl; have hcz51_3 : w46.cell? ⟨gb121, 3, none⟩ = some (.int .i64 a0_3) := (blk_cell BK121.out 3).trans rfl; have hcz51_4 : w46.cell? ⟨gb121, 4, none⟩ = some (.int .i64 a0_4) := (blk_cell BK121.out 4).trans rfl; have hcz51_5 : w46.cell? ⟨gb121, 5, none⟩ = some (.bool a0_5) := (blk_cell BK121.out 5).trans rfl; have hcz51_6 : w46.cell? ⟨gb121, 6, none⟩ = some (.slice A0_6 l0_6.length c0_6) := (blk_cell BK121.out 6).trans rfl; have hfz51_0 := blk_frozen BK121.out 0; have hfz51_1 := blk_frozen BK121.out 1; have hfz51_2 := blk_frozen BK121.out 2; have hfz51_3 := blk_frozen BK121.out 3; have hfz51_4 := blk_frozen BK121.out 4; have hfz51_5 := blk_frozen BK121.out 5; have hfz51_6 := blk_frozen BK121.out 6) | ((with_reducible refine gate_callee (f := 57) rfl ?_); refine goesL_ (some 31) rfl rfl Try.func57 (by kernel_rfl) rfl #[.agg #[.slice A0_0 l0_0.length c0_0, .string a0_1, .slice A0_2 l0_2.length c0_2, .int .i64 a0_3, .int .i64 a0_4, .bool a0_5, .slice A0_6 l0_6.length c0_6], .int .i64 ((rd_T57 l1_1 x10_1).f1)] rfl (by (try simp only [List.map_toArray, List.map_cons, List.map_nil]); first | done | rfl | (simp only [List.length_drop, List.length_take]; rfl)) ?_; (with_reducible refine (mir_former_scalar.calls _ _ l0_0 a0_1 _ _ l0_2 a0_3 a0_4 a0_5 _ _ l0_6 ((rd_T57 l1_1 x10_1).f1) true _ ?side1 ?side2 ?side3 ?side4 ?side5 ?side6 A26.out).mono ?_); (case side1 => exact Kd.C_below HR0_0.out (by repeat (first | (with_reducible first | exact HB.out | apply below_alloc | apply pw_below_drewN | apply below_drew1 | refine below_set ?_ GE121.out | refine below_set ?_ GE122.out | refine below_set ?_ GE125.out) | exact HB.out))); (case side2 => exact HC0_0.out); (case side3 => exact Kd.C_below HR0_2.out (by repeat (first | (with_reducible first | exact HB.out | apply below_alloc | apply pw_below_drewN | apply below_drew1 | refine below_set ?_ GE121.out | refine below_set ?_ GE122.out | refine below_set ?_ GE125.out) | exact HB.out))); (case side4 => exact HC0_2.out); (case side5 => exact Kd.C_below HR0_6.out (by repeat (first | (with_reducible first | exact HB.out | apply below_alloc | apply pw_below_drewN | apply below_drew1 | refine below_set ?_ GE121.out | refine below_set ?_ GE122.out | refine below_set ?_ GE125.out) | exact HB.out))); (case side6 => exact HC0_6.out); rintro e w52 ⟨rfl, hb⟩; refine ⟨_, rfl, ?_⟩; have n0_ := Aside0.mk (blk_below (g := gb121) (o := .cells #[.slice A0_0 l0_0.length c0_0, .string a0_1, .slice A0_2 l0_2.length c0_2, .int .i64 a0_3, .int .i64 a0_4, .bool a0_5, .slice A0_6 l0_6.length c0_6] 101 (0, 0)) (by (with_reducible repeat (first | refine blk_drewN ?_ _ | refine blk_drew ?_ | refine blk_alloc ?_ _)); refine blk_far ?_ NB121_125.out _; (with_reducible repeat (first | refine blk_drewN ?_ _ | refine blk_drew ?_ | refine blk_alloc ?_ _)); refine blk_far ?_ NB121_125.out _; (with_reducible repeat (first | refine blk_drewN ?_ _ | refine blk_drew ?_ | refine blk_alloc ?_ _)); refine blk_far ?_ NB121_125.out _; (with_reducible repeat (first | refine blk_drewN ?_ _ | refine blk_drew ?_ | refine blk_alloc ?_ _)); exact BK121.out) hb); have n1_ := Aside0.mk (blk_below (g := gb122) (o := .cells #[.int .i64 a1_0, .slice (some ad124) l1_1.length c1_1] 34 (0, 0)) (by (with_reducible repeat (first | refine blk_drewN ?_ _ | refine blk_drew ?_ | refine blk_alloc ?_ _)); refine blk_far ?_ NB122_125.out _; (with_reducible repeat (first | refine blk_drewN ?_ _ | refine blk_drew ?_ | refine blk_alloc ?_ _)); refine blk_far ?_ NB122_125.out _; (with_reducible repeat (first | refine blk_drewN ?_ _ | refine blk_drew ?_ | refine blk_alloc ?_ _)); refine blk_far ?_ NB122_125.out _; (with_reducible repeat (first | refine blk_drewN ?_ _ | refine blk_drew ?_ | refine blk_alloc ?_ _)); exact BK122.out) hb); have n2_ := Aside0.mk (blk_below (g := gb125) (o := .cells #[.int .i64 ((rd_T57 l1_1 x10_1).f0), .int .i64 ((rd_T57 l1_1 x10_1).f1), .int .i64 ((rd_T57 l1_1 x10_1).f2)] 57 (0, 0)) (by (with_reducible repeat (first | refine blk_drewN ?_ _ | refine blk_drew ?_ | refine blk_alloc ?_ _)); refine blk_put (cs := #[.int .i64 ((rd_T57 l1_1 x10_1).f0), .int .i64 ((rd_T57 l1_1 x10_1).f1), .int .i64 0]) ?_ 2 _ rfl; (with_reducible repeat (first | refine blk_drewN ?_ _ | refine blk_drew ?_ | refine blk_alloc ?_ _)); refine blk_put (cs := #[.int .i64 ((rd_T57 l1_1 x10_1).f0), .int .i64 0, .int .i64 0]) ?_ 1 _ rfl; (with_reducible repeat (first | refine blk_drewN ?_ _ | refine blk_drew ?_ | refine blk_alloc ?_ _)); refine blk_put (cs := #[.int .i64 0, .int .i64 0, .int .i64 0]) ?_ 0 _ rfl; (with_reducible repeat (first | refine blk_drewN ?_ _ | refine blk_drew ?_ | refine blk_alloc ?_ _)); exact BK125.out) hb); have n3_ := Aside0.mk (below_step (by repeat (first | (with_reducible first | exact HB.out | apply below_alloc | apply pw_below_drewN | apply below_drew1 | refine below_set ?_ GE121.out | refine below_set ?_ GE122.out | refine below_set ?_ GE125.out) | exact HB.out)) hb); clear BK121; clear BK122; clear BK125; clear HB; have BK121 := n0_; have BK122 := n1_; have BK125 := n2_; have HB := n3_; clear n0_ n1_ n2_ n3_; (try clear hb); (try clear hb2); (try clear hk); (try clear hi); have hcz53_0 : w52.cell? ⟨gb125, 0, none⟩ = some (.int .i64 ((rd_T57 l1_1 x10_1).f0)) := (blk_cell BK125.out 0).trans rfl; have hcz53_1 : w52.cell? ⟨gb125, 1, none⟩ = some (.int .i64 ((rd_T57 l1_1 x10_1).f1)) := (blk_cell BK125.out 1).trans rfl; have hcz53_2 : w52.cell? ⟨gb125, 2, none⟩ = some (.int .i64 ((rd_T57 l1_1 x10_1).f2)) := (blk_cell BK125.out 2).trans rfl; have hfz53_0 := blk_frozen BK125.out 0; have hfz53_1 := blk_frozen BK125.out 1; have hfz53_2 := blk_frozen BK125.out 2))
           go_roundg k1
           case measure => have := HK1.out; omega
           case rel => exact ⟨(wrap64 (x10_1 + 1)), (by first | rfl | (simp; done) | (simp [*]; done)), H', ⟨by have := HK1.out; omega⟩, ⟨by (with_reducible repeat (first | refine blk_drewN ?_ _ | refine blk_drew ?_ | refine blk_alloc ?_ _)); exact BK121.out⟩, ⟨by (with_reducible repeat (first | refine blk_drewN ?_ _ | refine blk_drew ?_ | refine blk_alloc ?_ _)); exact BK122.out⟩, ⟨by repeat (first | (with_reducible first | exact HB.out | apply below_alloc | apply pw_below_drewN | apply below_drew1 | refine below_set ?_ GE121.out | refine below_set ?_ GE122.out | refine below_set ?_ GE125.out) | exact HB.out)⟩⟩
        ·replace c27 := Bool.eq_false_iff.mpr c27
         subst c27
         have H1 : (some false) = some r := by rw [if_neg (show ¬ (false = true) by decide)] at H; exact H
         clear H
         have H := H1
         clear H1
         obtain rfl := Option.some.inj H
         have p124 : 0 ≤ (x10_1 : Int) := of_decide_eq_true (by first | (with_reducible assumption) | assumption)
         have q124 : x10_1 < (l1_1.length : Int) := of_decide_eq_true (by first | (with_reducible assumption) | assumption)
         obtain ⟨ad124, e124, hx124_0, hx124_1, hx124_2⟩ := at_T57 HR1_1.out x10_1 p124 q124
         cases e124
         replace hx124_0 := (HB.out.cell (World.block_lt_of_cell? w _ hx124_0)).trans hx124_0
         replace hx124_1 := (HB.out.cell (World.block_lt_of_cell? w _ hx124_1)).trans hx124_1
         replace hx124_2 := (HB.out.cell (World.block_lt_of_cell? w _ hx124_2)).trans hx124_2
         replace p124 := eq_true p124
         replace q124 := eq_true q124
         go_wp2_with (first | ((with_reducible refine gate_dst (N := 6) rfl ?_); refine box_event ?hg (N := 6) ?hd (cs := #[.int .i64 0, .int .i64 0, .int .i64 0]) (t := 57) ?hr ?_; (case hd => rfl); (case hg => rfl); (case hr => first | (go_simp; done) | (go_simp; rfl)); intro gb125 hg w54 hbox hb; have n0_ := Aside0.mk (blk_below (g := gb121) (o := .cells #[.slice A0_0 l0_0.length c0_0, .string a0_1, .slice A0_2 l0_2.length c0_2, .int .i64 a0_3, .int .i64 a0_4, .bool a0_5, .slice A0_6 l0_6.length c0_6] 101 (0, 0)) (by (with_reducible repeat (first | refine blk_drewN ?_ _ | refine blk_drew ?_ | refine blk_alloc ?_ _)); exact BK121.out) hb); have n1_ := Aside0.mk (blk_below (g := gb122) (o := .cells #[.int .i64 a1_0, .slice (some ad124) l1_1.length c1_1] 34 (0, 0)) (by (with_reducible repeat (first | refine blk_drewN ?_ _ | refine blk_drew ?_ | refine blk_alloc ?_ _)); exact BK122.out) hb); have n2_ := Aside0.mk (below_step (by repeat (first | (with_reducible first | exact HB.out | apply below_alloc | apply pw_below_drewN | apply below_drew1 | refine below_set ?_ GE121.out | refine below_set ?_ GE122.out) | exact HB.out)) hb); have n3_ := Aside0.mk (hbox); have n4_ := Aside0.mk ((by rw [hg]; exact (below_size (by repeat (first | (with_reducible first | exact HB.out | apply below_alloc | apply pw_below_drewN | apply below_drew1 | refine below_set ?_ GE121.out | refine below_set ?_ GE122.out) | exact HB.out))) : w.heap.size ≤ gb125)); have n5_ := Aside0.mk ((by rw [hg]; exact (below_size (by repeat (first | (with_reducible first | exact HB.out | apply below_alloc | apply pw_below_drewN | apply below_drew1 | refine below_set ?_ GE121.out | refine below_set ?_ GE122.out) | exact HB.out))) : w.heap.size ≤ gb125)); have n6_ := Aside0.mk ((by rw [hg]; exact Nat.ne_of_lt (blk_lt (g := gb121) (o := .cells #[.slice A0_0 l0_0.length c0_0, .string a0_1, .slice A0_2 l0_2.length c0_2, .int .i64 a0_3, .int .i64 a0_4, .bool a0_5, .slice A0_6 l0_6.length c0_6] 101 (0, 0)) (by (with_reducible repeat (first | refine blk_drewN ?_ _ | refine blk_drew ?_ | refine blk_alloc ?_ _)); exact BK121.out)) : gb121 ≠ gb125)); have n7_ := Aside0.mk ((by rw [hg]; exact Nat.ne_of_gt (blk_lt (g := gb121) (o := .cells #[.slice A0_0 l0_0.length c0_0, .string a0_1, .slice A0_2 l0_2.length c0_2, .int .i64 a0_3, .int .i64 a0_4, .bool a0_5, .slice A0_6 l0_6.length c0_6] 101 (0, 0)) (by (with_reducible repeat (first | refine blk_drewN ?_ _ | refine blk_drew ?_ | refine blk_alloc ?_ _)); exact BK121.out)) : gb125 ≠ gb121)); have n8_ := Aside0.mk ((by rw [hg]; exact Nat.ne_of_lt (blk_lt (g := gb122) (o := .cells #[.int .i64 a1_0, .slice (some ad124) l1_1.length c1_1] 34 (0, 0)) (by (with_reducible repeat (first | refine blk_drewN ?_ _ | refine blk_drew ?_ | refine blk_alloc ?_ _)); exact BK122.out)) : gb122 ≠ gb125)); have n9_ := Aside0.mk ((by rw [hg]; exact Nat.ne_of_gt (blk_lt (g := gb122) (o := .cells #[.int .i64 a1_0, .slice (some ad124) l1_1.length c1_1] 34 (0, 0)) (by (with_reducible repeat (first | refine blk_drewN ?_ _ | refine blk_drew ?_ | refine blk_alloc ?_ _)); exact BK122.out)) : gb125 ≠ gb122)); clear BK121; clear BK122; clear HB; have BK121 := n0_; have BK122 := n1_; have HB := n2_; have BK125 := n3_; have GW125 := n4_; have GE125 := n5_; have NB121_125 := n6_; have NB125_121 := n7_; have NB122_125 := n8_; have NB125_122 := n9_; clear n0_ n1_ n2_ n3_ n4_ n5_ n6_ n7_ n8_ n9_; clear hb hbox hg; have hnb55 := NB125_121.out; have hnc55 := NB121_125.out; have hnb56 := NB125_122.out; have hnc56 := NB122_125.out; have hcz57_0 : w54.cell? ⟨gb125, 0, none⟩ = some (.int .i64 0) := (blk_cell BK125.out 0).trans rfl; have hcz57_1 : w54.cell? ⟨gb125, 1, none⟩ = some (.int .i64 0) := (blk_cell BK125.out 1).trans rfl; have hcz57_2 : w54.cell? ⟨gb125, 2, none⟩ = some (.int .i64 0) := (blk_cell BK125.out 2).trans rfl; have hfz57_0 := blk_frozen BK125.out 0; have hfz57_1 := blk_frozen BK125.out 1; have hfz57_2 := blk_frozen BK125.out 2; have hnb58 := NB121_122.out; have hnc58 := NB122_121.out; have hcz59_0 : w54.cell? ⟨gb121, 0, none⟩ = some (.slice A0_0 l0_0.length c0_0) := (blk_cell BK121.out 0).trans rfl; have hcz59_1 : w54.cell? ⟨gb121, 1, none⟩ = some (.string a0_1) := (blk_cell BK121.out 1).trans rfl; have hcz59_2 : w54.cell? ⟨gb121, 2, none⟩ = some (.slice A0_2 l0_2.length c0_2) := (blk_cell BK121.out 2).trans rfl; have hcz59_3 : w54.cell? ⟨gb121, 3, none⟩ = some (.int .i64 a0_3) := (blk_cell BK121.out 3).trans rfl; have hcz59_4 : w54.cell? ⟨gb121, 4, none⟩ = some (.int .i64 a0_4) := (blk_cell BK121.out 4).trans rfl; have hcz59_5 : w54.cell? ⟨gb121, 5, none⟩ = some (.bool a0_5) := (blk_cell BK121.out 5).trans rfl; have hcz59_6 : w54.cell? ⟨gb121, 6, none⟩ = some (.slice A0_6 l0_6.length c0_6) := (blk_cell BK121.out 6).trans rfl; have hfz59_0 := blk_frozen BK121.out 0; have hfz59_1 := blk_frozen BK121.out 1; have hfz59_2 := blk_frozen BK121.out 2; have hfz59_3 := blk_frozen BK121.out 3; have hfz59_4 := blk_frozen BK121.out 4; have hfz59_5 := blk_frozen BK121.out 5; have hfz59_6 := blk_frozen BK121.out 6) | ((with_reducible refine gate_callee (f := 57) rfl ?_); refine goesL_ (some 31) rfl rfl Try.func57 (by kernel_rfl) rfl #[.agg #[.slice A0_0 l0_0.length c0_0, .string a0_1, .slice A0_2 l0_2.length c0_2, .int .i64 a0_3, .int .i64 a0_4, .bool a0_5, .slice A0_6 l0_6.length c0_6], .int .i64 ((rd_T57 l1_1 x10_1).f1)] rfl (by (try simp only [List.map_toArray, List.map_cons, List.map_nil]); first | done | rfl | (simp only [List.length_drop, List.length_take]; rfl)) ?_; (with_reducible refine (mir_former_scalar.calls _ _ l0_0 a0_1 _ _ l0_2 a0_3 a0_4 a0_5 _ _ l0_6 ((rd_T57 l1_1 x10_1).f1) false _ ?side1 ?side2 ?side3 ?side4 ?side5 ?side6 A26.out).mono ?_); (case side1 => exact Kd.C_below HR0_0.out (by repeat (first | (with_reducible first | exact HB.out | apply below_alloc | apply pw_below_drewN | apply below_drew1 | refine below_set ?_ GE121.out | refine below_set ?_ GE122.out | refine below_set ?_ GE125.out) | exact HB.out))); (case side2 => exact HC0_0.out); (case side3 => exact Kd.C_below HR0_2.out (by repeat (first | (with_reducible first | exact HB.out | apply below_alloc | apply pw_below_drewN | apply below_drew1 | refine below_set ?_ GE121.out | refine below_set ?_ GE122.out | refine below_set ?_ GE125.out) | exact HB.out))); (case side4 => exact HC0_2.out); (case side5 => exact Kd.C_below HR0_6.out (by repeat (first | (with_reducible first | exact HB.out | apply below_alloc | apply pw_below_drewN | apply below_drew1 | refine below_set ?_ GE121.out | refine below_set ?_ GE122.out | refine below_set ?_ GE125.out) | exact HB.out))); (case side6 => exact HC0_6.out); rintro e w60 ⟨rfl, hb⟩; refine ⟨_, rfl, ?_⟩; have n0_ := Aside0.mk (blk_below (g := gb121) (o := .cells #[.slice A0_0 l0_0.length c0_0, .string a0_1, .slice A0_2 l0_2.length c0_2, .int .i64 a0_3, .int .i64 a0_4, .bool a0_5, .slice A0_6 l0_6.length c0_6] 101 (0, 0)) (by (with_reducible repeat (first | refine blk_drewN ?_ _ | refine blk_drew ?_ | refine blk_alloc ?_ _)); refine blk_far ?_ NB121_125.out _; (with_reducible repeat (first | refine blk_drewN ?_ _ | refine blk_drew ?_ | refine blk_alloc ?_ _)); refine blk_far ?_ NB121_125.out _; (with_reducible repeat (first | refine blk_drewN ?_ _ | refine blk_drew ?_ | refine blk_alloc ?_ _)); refine blk_far ?_ NB121_125.out _; (with_reducible repeat (first | refine blk_drewN ?_ _ | refine blk_drew ?_ | refine blk_alloc ?_ _)); exact BK121.out) hb); have n1_ := Aside0.mk (blk_below (g := gb122) (o := .cells #[.int .i64 a1_0, .slice (some ad124) l1_1.length c1_1] 34 (0, 0)) (by (with_reducible repeat (first | refine blk_drewN ?_ _ | refine blk_drew ?_ | refine blk_alloc ?_ _)); refine blk_far ?_ NB122_125.out _; (with_reducible repeat (first | refine blk_drewN ?_ _ | refine blk_drew ?_ | refine blk_alloc ?_ _)); refine blk_far ?_ NB122_125.out _; (with_reducible repeat (first | refine blk_drewN ?_ _ | refine blk_drew ?_ | refine blk_alloc ?_ _)); refine blk_far ?_ NB122_125.out _; (with_reducible repeat (first | refine blk_drewN ?_ _ | refine blk_drew ?_ | refine blk_alloc ?_ _)); exact BK122.out) hb); have n2_ := Aside0.mk (blk_below (g := gb125) (o := .cells #[.int .i64 ((rd_T57 l1_1 x10_1).f0), .int .i64 ((rd_T57 l1_1 x10_1).f1), .int .i64 ((rd_T57 l1_1 x10_1).f2)] 57 (0, 0)) (by (with_reducible repeat (first | refine blk_drewN ?_ _ | refine blk_drew ?_ | refine blk_alloc ?_ _)); refine blk_put (cs := #[.int .i64 ((rd_T57 l1_1 x10_1).f0), .int .i64 ((rd_T57 l1_1 x10_1).f1), .int .i64 0]) ?_ 2 _ rfl; (with_reducible repeat (first | refine blk_drewN ?_ _ | refine blk_drew ?_ | refine blk_alloc ?_ _)); refine blk_put (cs := #[.int .i64 ((rd_T57 l1_1 x10_1).f0), .int .i64 0, .int .i64 0]) ?_ 1 _ rfl; (with_reducible repeat (first | refine blk_drewN ?_ _ | refine blk_drew ?_ | refine blk_alloc ?_ _)); refine blk_put (cs := #[.int .i64 0, .int .i64 0, .int .i64 0]) ?_ 0 _ rfl; (with_reducible repeat (first | refine blk_drewN ?_ _ | refine blk_drew ?_ | refine blk_alloc ?_ _)); exact BK125.out) hb); have n3_ := Aside0.mk (below_step (by repeat (first | (with_reducible first | exact HB.out | apply below_alloc | apply pw_below_drewN | apply below_drew1 | refine below_set ?_ GE121.out | refine below_set ?_ GE122.out | refine below_set ?_ GE125.out) | exact HB.out)) hb); clear BK121; clear BK122; clear BK125; clear HB; have BK121 := n0_; have BK122 := n1_; have BK125 := n2_; have HB := n3_; clear n0_ n1_ n2_ n3_; (try clear hb); (try clear hb2); (try clear hk); (try clear hi)))
         go_ret
         exact ⟨by first | rfl | (simp [errW_none, errW_some] <;> rfl) | (simp [*, errW_none, errW_some] <;> rfl), by repeat (first | (with_reducible first | exact HB.out | apply below_alloc | apply pw_below_drewN | apply below_drew1 | refine below_set ?_ GE121.out | refine below_set ?_ GE122.out | refine below_set ?_ GE125.out) | exact HB.out)⟩
       ·rw [if_neg c25] at H
        have c25b0 : (((rd_T57 l1_1 x10_1).f0) == 2) = false := beq_eq_false_iff_ne.mpr c25
        have c25b1 : (((rd_T57 l1_1 x10_1).f0) != 2) = true := bne_iff_ne.mpr c25
        by_cases c61 : ((rd_T57 l1_1 x10_1).f0) = 3
        ·rw [if_pos c61] at H
         have c61b0 : (((rd_T57 l1_1 x10_1).f0) == 3) = true := beq_iff_eq.mpr c61
         have c61b1 : (((rd_T57 l1_1 x10_1).f0) != 3) = false := bne_eq_false_iff_eq.mpr c61
         clear c61
         have H' := Aside0.mk H
         clear H
         have p124 : 0 ≤ (x10_1 : Int) := of_decide_eq_true (by first | (with_reducible assumption) | assumption)
         have q124 : x10_1 < (l1_1.length : Int) := of_decide_eq_true (by first | (with_reducible assumption) | assumption)
         obtain ⟨ad124, e124, hx124_0, hx124_1, hx124_2⟩ := at_T57 HR1_1.out x10_1 p124 q124
         cases e124
         replace hx124_0 := (HB.out.cell (World.block_lt_of_cell? w _ hx124_0)).trans hx124_0
         replace hx124_1 := (HB.out.cell (World.block_lt_of_cell? w _ hx124_1)).trans hx124_1
         replace hx124_2 := (HB.out.cell (World.block_lt_of_cell? w _ hx124_2)).trans hx124_2
         replace p124 := eq_true p124
         replace q124 := eq_true q124
         go_wp2_with (first | ((with_reducible refine gate_dst (N := 6) rfl ?_); refine box_event ?hg (N := 6) ?hd (cs := #[.int .i64 0, .int .i64 0, .int .i64 0]) (t := 57) ?hr ?_; (case hd => rfl); (case hg => rfl); (case hr => first | (go_simp; done) | (go_simp; rfl)); intro gb125 hg w62 hbox hb; have n0_ := Aside0.mk (blk_below (g := gb121) (o := .cells #[.slice A0_0 l0_0.length c0_0, .string a0_1, .slice A0_2 l0_2.length c0_2, .int .i64 a0_3, .int .i64 a0_4, .bool a0_5, .slice A0_6 l0_6.length c0_6] 101 (0, 0)) (by (with_reducible repeat (first | refine blk_drewN ?_ _ | refine blk_drew ?_ | refine blk_alloc ?_ _)); exact BK121.out) hb); have n1_ := Aside0.mk (blk_below (g := gb122) (o := .cells #[.int .i64 a1_0, .slice (some ad124) l1_1.length c1_1] 34 (0, 0)) (by (with_reducible repeat (first | refine blk_drewN ?_ _ | refine blk_drew ?_ | refine blk_alloc ?_ _)); exact BK122.out) hb); have n2_ := Aside0.mk (below_step (by repeat (first | (with_reducible first | exact HB.out | apply below_alloc | apply pw_below_drewN | apply below_drew1 | refine below_set ?_ GE121.out | refine below_set ?_ GE122.out) | exact HB.out)) hb); have n3_ := Aside0.mk (hbox); have n4_ := Aside0.mk ((by rw [hg]; exact (below_size (by repeat (first | (with_reducible first | exact HB.out | apply below_alloc | apply pw_below_drewN | apply below_drew1 | refine below_set ?_ GE121.out | refine below_set ?_ GE122.out) | exact HB.out))) : w.heap.size ≤ gb125)); have n5_ := Aside0.mk ((by rw [hg]; exact (below_size (by repeat (first | (with_reducible first | exact HB.out | apply below_alloc | apply pw_below_drewN | apply below_drew1 | refine below_set ?_ GE121.out | refine below_set ?_ GE122.out) | exact HB.out))) : w.heap.size ≤ gb125)); have n6_ := Aside0.mk ((by rw [hg]; exact Nat.ne_of_lt (blk_lt (g := gb121) (o := .cells #[.slice A0_0 l0_0.length c0_0, .string a0_1, .slice A0_2 l0_2.length c0_2, .int .i64 a0_3, .int .i64 a0_4, .bool a0_5, .slice A0_6 l0_6.length c0_6] 101 (0, 0)) (by (with_reducible repeat (first | refine blk_drewN ?_ _ | refine blk_drew ?_ | refine blk_alloc ?_ _)); exact BK121.out)) : gb121 ≠ gb125)); have n7_ := Aside0.mk ((by rw [hg]; exact Nat.ne_of_gt (blk_lt (g := gb121) (o := .cells #[.slice A0_0 l0_0.length c0_0, .string a0_1, .slice A0_2 l0_2.length c0_2, .int .i64 a0_3, .int .i64 a0_4, .bool a0_5, .slice A0_6 l0_6.length c0_6] 101 (0, 0)) (by (with_reducible repeat (first | refine blk_drewN ?_ _ | refine blk_drew ?_ | refine blk_alloc ?_ _)); exact BK121.out)) : gb125 ≠ gb121)); have n8_ := Aside0.mk ((by rw [hg]; exact Nat.ne_of_lt (blk_lt (g := gb122) (o := .cells #[.int .i64 a1_0, .slice (some ad124) l1_1.length c1_1] 34 (0, 0)) (by (with_reducible repeat (first | refine blk_drewN ?_ _ | refine blk_drew ?_ | refine blk_alloc ?_ _)); exact BK122.out)) : gb122 ≠ gb125)); have n9_ := Aside0.mk ((by rw [hg]; exact Nat.ne_of_gt (blk_lt (g := gb122) (o := .cells #[.int .i64 a1_0, .slice (some ad124) l1_1.length c1_1] 34 (0, 0)) (by (with_reducible repeat (first | refine blk_drewN ?_ _ | refine blk_drew ?_ | refine blk_alloc ?_ _)); exact BK122.out)) : gb125 ≠ gb122)); clear BK121; clear BK122; clear HB; have BK121 := n0_; have BK122 := n1_; have HB := n2_; have BK125 := n3_; have GW125 := n4_; have GE125 := n5_; have NB121_125 := n6_; have NB125_121 := n7_; have NB122_125 := n8_; have NB125_122 := n9_; clear n0_ n1_ n2_ n3_ n4_ n5_ n6_ n7_ n8_ n9_; clear hb hbox hg; have hnb63 := NB125_121.out; have hnc63 := NB121_125.out; have hnb64 := NB125_122.out; have hnc64 := NB122_125.out; have hcz65_0 : w62.cell? ⟨gb125, 0, none⟩ = some (.int .i64 0) := (blk_cell BK125.out 0).trans rfl; have hcz65_1 : w62.cell? ⟨gb125, 1, none⟩ = some (.int .i64 0) := (blk_cell BK125.out 1).trans rfl; have hcz65_2 : w62.cell? ⟨gb125, 2, none⟩ = some (.int .i64 0) := (blk_cell BK125.out 2).trans rfl; have hfz65_0 := blk_frozen BK125.out 0; have hfz65_1 := blk_frozen BK125.out 1; have hfz65_2 := blk_frozen BK125.out 2))
         go_roundg k1
         case measure => have := HK1.out; omega
         case rel => exact ⟨(wrap64 (x10_1 + 1)), (by first | rfl | (simp; done) | (simp [*]; done)), H', ⟨by have := HK1.out; omega⟩, ⟨by (with_reducible repeat (first | refine blk_drewN ?_ _ | refine blk_drew ?_ | refine blk_alloc ?_ _)); refine blk_far ?_ NB121_125.out _; (with_reducible repeat (first | refine blk_drewN ?_ _ | refine blk_drew ?_ | refine blk_alloc ?_ _)); refine blk_far ?_ NB121_125.out _; (with_reducible repeat (first | refine blk_drewN ?_ _ | refine blk_drew ?_ | refine blk_alloc ?_ _)); refine blk_far ?_ NB121_125.out _; (with_reducible repeat (first | refine blk_drewN ?_ _ | refine blk_drew ?_ | refine blk_alloc ?_ _)); exact BK121.out⟩, ⟨by (with_reducible repeat (first | refine blk_drewN ?_ _ | refine blk_drew ?_ | refine blk_alloc ?_ _)); refine blk_far ?_ NB122_125.out _; (with_reducible repeat (first | refine blk_drewN ?_ _ | refine blk_drew ?_ | refine blk_alloc ?_ _)); refine blk_far ?_ NB122_125.out _; (with_reducible repeat (first | refine blk_drewN ?_ _ | refine blk_drew ?_ | refine blk_alloc ?_ _)); refine blk_far ?_ NB122_125.out _; (with_reducible repeat (first | refine blk_drewN ?_ _ | refine blk_drew ?_ | refine blk_alloc ?_ _)); exact BK122.out⟩, ⟨by repeat (first | (with_reducible first | exact HB.out | apply below_alloc | apply pw_below_drewN | apply below_drew1 | refine below_set ?_ GE121.out | refine below_set ?_ GE122.out | refine below_set ?_ GE125.out) | exact HB.out)⟩⟩
        ·rw [if_neg c61] at H
         have c61b0 : (((rd_T57 l1_1 x10_1).f0) == 3) = false := beq_eq_false_iff_ne.mpr c61
         have c61b1 : (((rd_T57 l1_1 x10_1).f0) != 3) = true := bne_iff_ne.mpr c61
         obtain rfl := Option.some.inj H
         have p124 : 0 ≤ (x10_1 : Int) := of_decide_eq_true (by first | (with_reducible assumption) | assumption)
         have q124 : x10_1 < (l1_1.length : Int) := of_decide_eq_true (by first | (with_reducible assumption) | assumption)
         obtain ⟨ad124, e124, hx124_0, hx124_1, hx124_2⟩ := at_T57 HR1_1.out x10_1 p124 q124
         cases e124
         replace hx124_0 := (HB.out.cell (World.block_lt_of_cell? w _ hx124_0)).trans hx124_0
         replace hx124_1 := (HB.out.cell (World.block_lt_of_cell? w _ hx124_1)).trans hx124_1
         replace hx124_2 := (HB.out.cell (World.block_lt_of_cell? w _ hx124_2)).trans hx124_2
         replace p124 := eq_true p124
         replace q124 := eq_true q124
         go_wp2_with (first | ((with_reducible refine gate_dst (N := 6) rfl ?_); refine box_event ?hg (N := 6) ?hd (cs := #[.int .i64 0, .int .i64 0, .int .i64 0]) (t := 57) ?hr ?_; (case hd => rfl); (case hg => rfl); (case hr => first | (go_simp; done) | (go_simp; rfl)); intro gb125 hg w66 hbox hb; have n0_ := Aside0.mk (blk_below (g := gb121) (o := .cells #[.slice A0_0 l0_0.length c0_0, .string a0_1, .slice A0_2 l0_2.length c0_2, .int .i64 a0_3, .int .i64 a0_4, .bool a0_5, .slice A0_6 l0_6.length c0_6] 101 (0, 0)) (by (with_reducible repeat (first | refine blk_drewN ?_ _ | refine blk_drew ?_ | refine blk_alloc ?_ _)); exact BK121.out) hb); have n1_ := Aside0.mk (blk_below (g := gb122) (o := .cells #[.int .i64 a1_0, .slice (some ad124) l1_1.length c1_1] 34 (0, 0)) (by (with_reducible repeat (first | refine blk_drewN ?_ _ | refine blk_drew ?_ | refine blk_alloc ?_ _)); exact BK122.out) hb); have n2_ := Aside0.mk (below_step (by repeat (first | (with_reducible first | exact HB.out | apply below_alloc | apply pw_below_drewN | apply below_drew1 | refine below_set ?_ GE121.out | refine below_set ?_ GE122.out) | exact HB.out)) hb); have n3_ := Aside0.mk (hbox); have n4_ := Aside0.mk ((by rw [hg]; exact (below_size (by repeat (first | (with_reducible first | exact HB.out | apply below_alloc | apply pw_below_drewN | apply below_drew1 | refine below_set ?_ GE121.out | refine below_set ?_ GE122.out) | exact HB.out))) : w.heap.size ≤ gb125)); have n5_ := Aside0.mk ((by rw [hg]; exact (below_size (by repeat (first | (with_reducible first | exact HB.out | apply below_alloc | apply pw_below_drewN | apply below_drew1 | refine below_set ?_ GE121.out | refine below_set ?_ GE122.out) | exact HB.out))) : w.heap.size ≤ gb125)); have n6_ := Aside0.mk ((by rw [hg]; exact Nat.ne_of_lt (blk_lt (g := gb121) (o := .cells #[.slice A0_0 l0_0.length c0_0, .string a0_1, .slice A0_2 l0_2.length c0_2, .int .i64 a0_3, .int .i64 a0_4, .bool a0_5, .slice A0_6 l0_6.length c0_6] 101 (0, 0)) (by (with_reducible repeat (first | refine blk_drewN ?_ _ | refine blk_drew ?_ | refine blk_alloc ?_ _)); exact BK121.out)) : gb121 ≠ gb125)); have n7_ := Aside0.mk ((by rw [hg]; exact Nat.ne_of_gt (blk_lt (g := gb121) (o := .cells #[.slice A0_0 l0_0.length c0_0, .string a0_1, .slice A0_2 l0_2.length c0_2, .int .i64 a0_3, .int .i64 a0_4, .bool a0_5, .slice A0_6 l0_6.length c0_6] 101 (0, 0)) (by (with_reducible repeat (first | refine blk_drewN ?_ _ | refine blk_drew ?_ | refine blk_alloc ?_ _)); exact BK121.out)) : gb125 ≠ gb121)); have n8_ := Aside0.mk ((by rw [hg]; exact Nat.ne_of_lt (blk_lt (g := gb122) (o := .cells #[.int .i64 a1_0, .slice (some ad124) l1_1.length c1_1] 34 (0, 0)) (by (with_reducible repeat (first | refine blk_drewN ?_ _ | refine blk_drew ?_ | refine blk_alloc ?_ _)); exact BK122.out)) : gb122 ≠ gb125)); have n9_ := Aside0.mk ((by rw [hg]; exact Nat.ne_of_gt (blk_lt (g := gb122) (o := .cells #[.int .i64 a1_0, .slice (some ad124) l1_1.length c1_1] 34 (0, 0)) (by (with_reducible repeat (first | refine blk_drewN ?_ _ | refine blk_drew ?_ | refine blk_alloc ?_ _)); exact BK122.out)) : gb125 ≠ gb122)); clear BK121; clear BK122; clear HB; have BK121 := n0_; have BK122 := n1_; have HB := n2_; have BK125 := n3_; have GW125 := n4_; have GE125 := n5_; have NB121_125 := n6_; have NB125_121 := n7_; have NB122_125 := n8_; have NB125_122 := n9_; clear n0_ n1_ n2_ n3_ n4_ n5_ n6_ n7_ n8_ n9_; clear hb hbox hg; have hnb67 := NB125_121.out; have hnc67 := NB121_125.out; have hnb68 := NB125_122.out; have hnc68 := NB122_125.out; have hcz69_0 : w66.cell? ⟨gb125, 0, none⟩ = some (.int .i64 0) := (blk_cell BK125.out 0).trans rfl; have hcz69_1 : w66.cell? ⟨gb125, 1, none⟩ = some (.int .i64 0) := (blk_cell BK125.out 1).trans rfl; have hcz69_2 : w66.cell? ⟨gb125, 2, none⟩ = some (.int .i64 0) := (blk_cell BK125.out 2).trans rfl; have hfz69_0 := blk_frozen BK125.out 0; have hfz69_1 := blk_frozen BK125.out 1; have hfz69_2 := blk_frozen BK125.out 2))
         go_ret
         exact ⟨by first | rfl | (simp [errW_none, errW_some] <;> rfl) | (simp [*, errW_none, errW_some] <;> rfl), by repeat (first | (with_reducible first | exact HB.out | apply below_alloc | apply pw_below_drewN | apply below_drew1 | refine below_set ?_ GE121.out | refine below_set ?_ GE122.out | refine below_set ?_ GE125.out) | exact HB.out)⟩
     ·rw [if_neg c9] at H
      exact absurd H (by simp)
    ·rw [if_neg c8] at H
     exact absurd H (by simp)
   ·rw [if_neg c7] at H
    have c7b0 : decide (x10_1 < (l1_1.length : Int)) = false := decide_eq_false c7
    clear c7
    replace H := Option.bind_eq_some_iff.mp H
    obtain ⟨t123, A700, H⟩ := H
    replace H : (some t123) = some r := H
    have A70 := Aside0.mk A700
    clear A700
    obtain rfl := Option.some.inj H
    have hnb71 := NB121_122.out
    have hnc71 := NB122_121.out
    have hcz72_0 : wr.cell? ⟨gb121, 0, none⟩ = some (.slice A0_0 l0_0.length c0_0) := (blk_cell BK121.out 0).trans rfl
    have hcz72_1 : wr.cell? ⟨gb121, 1, none⟩ = some (.string a0_1) := (blk_cell BK121.out 1).trans rfl
    have hcz72_2 : wr.cell? ⟨gb121, 2, none⟩ = some (.slice A0_2 l0_2.length c0_2) := (blk_cell BK121.out 2).trans rfl
    have hcz72_3 : wr.cell? ⟨gb121, 3, none⟩ = some (.int .i64 a0_3) := (blk_cell BK121.out 3).trans rfl
    have hcz72_4 : wr.cell? ⟨gb121, 4, none⟩ = some (.int .i64 a0_4) := (blk_cell BK121.out 4).trans rfl
    have hcz72_5 : wr.cell? ⟨gb121, 5, none⟩ = some (.bool a0_5) := (blk_cell BK121.out 5).trans rfl
    have hcz72_6 : wr.cell? ⟨gb121, 6, none⟩ = some (.slice A0_6 l0_6.length c0_6) := (blk_cell BK121.out 6).trans rfl
    have hfz72_0 := blk_frozen BK121.out 0
    have hfz72_1 := blk_frozen BK121.out 1
    have hfz72_2 := blk_frozen BK121.out 2
    have hfz72_3 := blk_frozen BK121.out 3
    have hfz72_4 := blk_frozen BK121.out 4
    have hfz72_5 := blk_frozen BK121.out 5
    have hfz72_6 := blk_frozen BK121.out 6
    have hcz73_0 : wr.cell? ⟨gb122, 0, none⟩ = some (.int .i64 a1_0) := (blk_cell BK122.out 0).trans rfl
    have hcz73_1 : wr.cell? ⟨gb122, 1, none⟩ = some (.slice A1_1 l1_1.length c1_1) := (blk_cell BK122.out 1).trans rfl
    have hfz73_0 := blk_frozen BK122.out 0
    have hfz73_1 := blk_frozen BK122.out 1
    go_wp2_with (first | ((with_reducible refine gate_callee (f := 62) rfl ?_); refine goesL_ (some 49) rfl rfl Try.func62 (by kernel_rfl) rfl #[.agg #[.slice A0_0 l0_0.length c0_0, .string a0_1, .slice A0_2 l0_2.length c0_2, .int .i64 a0_3, .int .i64 a0_4, .bool a0_5, .slice A0_6 l0_6.length c0_6], .int .i64 a1_0] rfl (by (try simp only [List.map_toArray, List.map_cons, List.map_nil]); first | done | rfl | (simp only [List.length_drop, List.length_take]; rfl)) ?_; (with_reducible refine (mir_former_local.calls _ _ l0_0 a0_1 _ _ l0_2 a0_3 a0_4 a0_5 _ _ l0_6 a1_0 t123 _ ?side1 ?side2 ?side3 ?side4 ?side5 ?side6 A70.out).mono ?_); (case side1 => repeat (first | exact (Kd.C_below HR0_0.out HB.out) | (with_reducible refine Kd.C_alloc ?_ _) | (with_reducible refine Kd.C_drewN ?_ _) | (with_reducible refine Kd.C_drew ?_))); (case side2 => exact HC0_0.out); (case side3 => repeat (first | exact (Kd.C_below HR0_2.out HB.out) | (with_reducible refine Kd.C_alloc ?_ _) | (with_reducible refine Kd.C_drewN ?_ _) | (with_reducible refine Kd.C_drew ?_))); (case side4 => exact HC0_2.out); (case side5 => repeat (first | exact (Kd.C_below HR0_6.out HB.out) | (with_reducible refine Kd.C_alloc ?_ _) | (with_reducible refine Kd.C_drewN ?_ _) | (with_reducible refine Kd.C_drew ?_))); (case side6 => exact HC0_6.out); rintro e w74 ⟨rfl, hb⟩; refine ⟨_, rfl, ?_⟩; have n0_ := Aside0.mk (blk_below (g := gb121) (o := .cells #[.slice A0_0 l0_0.length c0_0, .string a0_1, .slice A0_2 l0_2.length c0_2, .int .i64 a0_3, .int .i64 a0_4, .bool a0_5, .slice A0_6 l0_6.length c0_6] 101 (0, 0)) (by (with_reducible repeat (first | refine blk_drewN ?_ _ | refine blk_drew ?_ | refine blk_alloc ?_ _)); exact BK121.out) hb); have n1_ := Aside0.mk (blk_below (g := gb122) (o := .cells #[.int .i64 a1_0, .slice A1_1 l1_1.length c1_1] 34 (0, 0)) (by (with_reducible repeat (first | refine blk_drewN ?_ _ | refine blk_drew ?_ | refine blk_alloc ?_ _)); exact BK122.out) hb); have n2_ := Aside0.mk (below_step (by repeat (first | (with_reducible first | exact HB.out | apply below_alloc | apply pw_below_drewN | apply below_drew1 | refine below_set ?_ GE121.out | refine below_set ?_ GE122.out) | exact HB.out)) hb); clear BK121; clear BK122; clear HB; have BK121 := n0_; have BK122 := n1_; have HB := n2_; clear n0_ n1_ n2_; (try clear hb); (try clear hb2); (try clear hk); (try clear hi)))
    go_ret
    exact ⟨by first | rfl | (simp [errW_none, errW_some] <;> rfl) | (simp [*, errW_none, errW_some] <;> rfl), by repeat (first | (with_reducible first | exact HB.out | apply below_alloc | apply pw_below_drewN | apply below_drew1 | refine below_set ?_ GE121.out | refine below_set ?_ GE122.out) | exact HB.out)⟩
def mir_words.f (a0 : Int) : Option (Bool) := if a0 ≥ 0 then (some (decide (a0 ≤ 128))) else (some false)
set_option maxHeartbeats 8000000 in
set_option maxRecDepth 100000 in
theorem mir_words.calls (a0 : Int) (r : Bool) (w : World) (h : mir_words.f a0 = some r) :
  Calls Try.prog 61 #[.int .i64 a0] w fun e w' => e = .returned (.bool r) ∧ Drawn0 w w' := by
 have H : (if a0 ≥ 0 then (some (decide (a0 ≤ 128))) else (some false)) = some r := h
 clear h
 by_cases c2 : a0 ≥ 0
 ·rw [if_pos c2] at H
  have c2b0 : decide (0 ≤ a0) = true := decide_eq_true c2
  clear c2
  obtain rfl := Option.some.inj H
  go_enter Try.func61, Try.ntmps61
  go_wp2
  go_ret
  exact ⟨by first | rfl | (simp; done) | (simp [*]; done), by repeat (first | exact Drawn0.refl _ | apply Drawn0.step)⟩
 ·rw [if_neg c2] at H
  have c2b0 : decide (0 ≤ a0) = false := decide_eq_false c2
  clear c2
  obtain rfl := Option.some.inj H
  go_enter Try.func61, Try.ntmps61
  go_wp2
  go_ret
  exact ⟨by first | rfl | (simp; done) | (simp [*]; done), by repeat (first | exact Drawn0.refl _ | apply Drawn0.step)⟩
end Go.Proofs.Ytpphpcmbpbppoaa.PMirFuel
end
section
namespace Go.Proofs.Ytpphpcmbpbppoaa.Form
open Go.RowKit Go.Proofs.YtpphpcmbpbppoaaW.PrintWords Go.Proofs.YtpphpcmbpbppoaaW.PrintLast Go.Proofs.YtpphpcmbpbppoaaW.PrintMore
open Go.Proofs.Ytpphpcmbpbppoaa.Calm
open Go.Proofs.Ytpphpcmbpbppoaa.Mach
open Go.Proofs.Ytpphpcmbpbppoaa.PMirFuel (S30 S57 S34 S37 S40 S43 S45 S48 k30 k57 k34 k37 k40 k43 k45 k48 rd_T30 rd_T57 rd_T34 rd_T37 rd_T40 rd_T43 rd_T45 rd_T48 at_T30 at_T57 at_T34 at_T40 at_T45 at_T48)
set_option linter.unusedVariables false
set_option linter.unusedSimpArgs false
def scB (loc : List Int) (d : Int) : Bool := decide (0 ≤ d) && (decide (d < loc.length) && (rd loc d == 1))
def laB (loc : List Int) (d : Int) : Bool := decide (0 ≤ d) && decide (d < loc.length)
def opB (loc : List Int) (o : S30) : Bool := o.f0 || scB loc o.f1
theorem scalar_f (l : List S48) (a1 : ByteArray) (loc : List Int) (a3 a4 : Int) (a5 : Bool) (bl : List S45) (d : Int) : PMirFuel.mir_former_scalar.f l a1 loc a3 a4 a5 bl d = some (scB loc d) := by
 unfold PMirFuel.mir_former_scalar.f scB
 by_cases h0 : 0 ≤ d
 ·rw [if_pos (show d ≥ 0 from h0)]
  by_cases h1 : d < loc.length
  ·rw [if_pos h1, if_pos h0]; simp [h0, h1]
  ·rw [if_neg h1]; simp [h1]
 ·rw [if_neg (show ¬ d ≥ 0 from h0)]; simp [h0]
theorem local_f (l : List S48) (a1 : ByteArray) (loc : List Int) (a3 a4 : Int) (a5 : Bool) (bl : List S45) (d : Int) : PMirFuel.mir_former_local.f l a1 loc a3 a4 a5 bl d = some (laB loc d) := by
 unfold PMirFuel.mir_former_local.f laB
 by_cases h0 : 0 ≤ d
 ·rw [if_pos (show d ≥ 0 from h0)]; simp [h0]
 ·rw [if_neg (show ¬ d ≥ 0 from h0)]; simp [h0]
theorem operand_f (l : List S48) (a1 : ByteArray) (loc : List Int) (a3 a4 : Int) (a5 : Bool) (bl : List S45) (o : S30) : PMirFuel.mir_former_operand.f l a1 loc a3 a4 a5 bl o.f0 o.f1 = some (opB loc o) := by
 unfold PMirFuel.mir_former_operand.f opB
 cases o.f0 with
 | true => simp
 | false => simp [scalar_f]
def sumW : List Int → Int → Int
 | [], n => n
 | w :: r, n => sumW r (wrap64 (n + w))
theorem width_l (xs : List Int) (hl : xs.length < 4611686018427387904) : ∀ (k i : Nat) (n : Int), i ≤ xs.length → xs.length - i < k → PMirFuel.mir_width.l0 k n xs (xs.length : Int) (i : Int) = some (sumW (xs.drop i) n) := by
 intro k
 induction k with
 | zero => intro i n _ h; omega
 | succ k ih =>
  intro i n hi hk
  unfold PMirFuel.mir_width.l0
  by_cases hlt : i < xs.length
  ·rw [if_pos (by omega), if_pos (by omega), if_pos (by omega), List.drop_eq_getElem_cons hlt]
   have e : rd xs (i : Int) = xs[i] := by simp [rd, List.getD_eq_getElem?_getD, hlt]
   rw [e, show wrap64 ((i : Int) + 1) = ((i + 1 : Nat) : Int) by unfold wrap64; omega, ih (i + 1) _ (by omega) (by omega)]
   rfl
  ·rw [if_neg (by omega), List.drop_of_length_le (by omega)]
   rfl
def widthP (f : S48) : Int := sumW (f.f1.take f.f2.toNat) 0
theorem width_f (f : S48) (hl : f.f1.length < 4611686018427387904) (h0 : 0 ≤ f.f2) (h1 : f.f2 ≤ f.f1.length) (k : Nat) (hk : f.f1.length < k) :
  PMirFuel.mir_width.f k f.f0 f.f1 f.f2 f.f3 f.f4 f.f5 = some (widthP f) := by
 unfold PMirFuel.mir_width.f
 rw [if_pos h0, if_pos h1]
 have ht : (f.f1.take f.f2.toNat).length ≤ f.f1.length := by simp; omega
 have := width_l (f.f1.take f.f2.toNat) (by omega) k 0 0 (by omega) (by omega)
 simpa [widthP] using this
def stB (loc : List Int) (s : S57) : Bool :=
 if s.f0 = 1 then decide (0 ≤ s.f1) && decide (s.f1 ≤ 65536)
 else if s.f0 = 2 then scB loc s.f1 && (decide (0 ≤ s.f2) && decide (s.f2 ≤ 65536))
 else decide (s.f0 = 3)
def plB (loc : List Int) (p : S34) : Bool := p.f1.all (stB loc) && laB loc p.f0
theorem place_l (l : List S48) (a1 : ByteArray) (loc : List Int) (a3 a4 : Int) (a5 : Bool) (bl : List S45) (p0 : Int) (q xs : List S57) (hl : xs.length < 4611686018427387904) :
  ∀ (k i : Nat), i ≤ xs.length → xs.length - i < k → PMirFuel.mir_former_place.l0 k xs (xs.length : Int) (i : Int) l a1 loc a3 a4 a5 bl p0 q = some ((xs.drop i).all (stB loc) && laB loc p0) := by
 intro k
 induction k with
 | zero => intro i _ h; omega
 | succ k ih =>
  intro i hi hk
  unfold PMirFuel.mir_former_place.l0
  by_cases hlt : i < xs.length
  ·rw [if_pos (by omega), if_pos (by omega), if_pos (by omega), List.drop_eq_getElem_cons hlt]
   have e : rd_T57 xs (i : Int) = xs[i] := by simp [rd_T57, List.getD_eq_getElem?_getD, hlt]
   rw [e, show wrap64 ((i : Int) + 1) = ((i + 1 : Nat) : Int) by unfold wrap64; omega, ih (i + 1) (by omega) (by omega)]
   simp only [List.all_cons, scalar_f, Option.bind_some]
   unfold stB
   generalize hs : xs[i] = s
   by_cases h1 : s.f0 = 1
   ·rw [if_pos h1, if_pos h1]
    by_cases h2 : s.f1 < 0
    ·rw [if_pos h2]; simp [show ¬ 0 ≤ s.f1 by omega]
    ·rw [if_neg h2]
     by_cases h3 : s.f1 > 65536
     ·rw [if_pos h3]; simp [show ¬ s.f1 ≤ 65536 by omega]
     ·rw [if_neg h3]; simp [show 0 ≤ s.f1 by omega, show s.f1 ≤ 65536 by omega, Bool.and_assoc]
   ·rw [if_neg h1, if_neg h1]
    by_cases h2 : s.f0 = 2
    ·rw [if_pos h2, if_pos h2]
     cases hsc : scB loc s.f1 with
     | false => simp
     | true =>
      rw [if_pos rfl]
      by_cases h3 : s.f2 < 0
      ·rw [if_pos h3]; simp [show ¬ 0 ≤ s.f2 by omega]
      ·rw [if_neg h3]
       by_cases h4 : s.f2 > 65536
       ·rw [if_pos h4]; simp [show ¬ s.f2 ≤ 65536 by omega]
       ·rw [if_neg h4]; simp [show 0 ≤ s.f2 by omega, show s.f2 ≤ 65536 by omega, Bool.and_assoc]
    ·rw [if_neg h2, if_neg h2]
     by_cases h3 : s.f0 = 3
     ·rw [if_pos h3]; simp [h3]
     ·rw [if_neg h3]; simp [h3]
  ·rw [if_neg (by omega), List.drop_of_length_le (by omega)]
   simp [local_f]
theorem place_f (l : List S48) (a1 : ByteArray) (loc : List Int) (a3 a4 : Int) (a5 : Bool) (bl : List S45) (p : S34) (hl : p.f1.length < 4611686018427387904) (k : Nat) (hk : p.f1.length < k) :
  PMirFuel.mir_former_place.f k l a1 loc a3 a4 a5 bl p.f0 p.f1 = some (plB loc p) := by
 have := place_l l a1 loc a3 a4 a5 bl p.f0 p.f1 p.f1 hl k 0 (by omega) (by omega)
 simpa [PMirFuel.mir_former_place.f, plB] using this
def frB (f : S48) : Bool :=
 f.f1.all (fun n => decide (0 ≤ n) && decide (n ≤ 512)) && (decide (0 < f.f5.length) && (decide (0 ≤ f.f2) && (decide (f.f2 ≤ f.f1.length) && (decide (0 ≤ f.f3) && (decide (f.f3 ≤ 8) && decide (widthP f ≤ 8))))))
theorem frame_l (l : List S48) (f : S48) (hf : f.f1.length < 4611686018427387904) (xs : List Int) (hl : xs.length < 4611686018427387904) :
  ∀ (k i : Nat), i ≤ xs.length → xs.length - i + f.f1.length + 2 < k → PMirFuel.mir_former_frame.l0 k xs (xs.length : Int) (i : Int) l f.f0 f.f1 f.f2 f.f3 f.f4 f.f5 =
   some ((xs.drop i).all (fun n => decide (0 ≤ n) && decide (n ≤ 512)) && (decide (0 < f.f5.length) && (decide (0 ≤ f.f2) && (decide (f.f2 ≤ f.f1.length) && (decide (0 ≤ f.f3) && (decide (f.f3 ≤ 8) && decide (widthP f ≤ 8))))))) := by
 intro k
 induction k with
 | zero => intro i _ h; omega
 | succ k ih =>
  intro i hi hk
  unfold PMirFuel.mir_former_frame.l0
  by_cases hlt : i < xs.length
  ·rw [if_pos (by omega), if_pos (by omega), if_pos (by omega), List.drop_eq_getElem_cons hlt]
   have e : rd xs (i : Int) = xs[i] := by simp [rd, List.getD_eq_getElem?_getD, hlt]
   rw [e, show wrap64 ((i : Int) + 1) = ((i + 1 : Nat) : Int) by unfold wrap64; omega, ih (i + 1) (by omega) (by omega)]
   simp only [List.all_cons]
   generalize xs[i] = n
   by_cases h2 : n < 0
   ·rw [if_pos h2]; simp [show ¬ 0 ≤ n by omega]
   ·rw [if_neg h2]
    by_cases h3 : n > 512
    ·rw [if_pos h3]; simp [show ¬ n ≤ 512 by omega]
    ·rw [if_neg h3]; simp [show 0 ≤ n by omega, show n ≤ 512 by omega, Bool.and_assoc]
  ·rw [if_neg (by omega), List.drop_of_length_le (by omega)]
   simp only [List.all_nil, Bool.true_and]
   by_cases h1 : (f.f5.length : Int) > 0
   ·rw [if_pos h1]
    by_cases h2 : f.f2 ≥ 0
    ·rw [if_pos h2]
     by_cases h3 : f.f2 ≤ (f.f1.length : Int)
     ·rw [if_pos h3]
      by_cases h4 : f.f3 ≥ 0
      ·rw [if_pos h4]
       by_cases h5 : f.f3 ≤ 8
       ·rw [if_pos h5, width_f f hf h2 h3 k (by omega)]
        simp [show 0 < f.f5.length by omega, h2, h3, h4, h5]
       ·rw [if_neg h5]; simp [h5]
      ·rw [if_neg h4]; simp [show ¬ 0 ≤ f.f3 by omega]
     ·rw [if_neg h3]; simp [h3]
    ·rw [if_neg h2]; simp [show ¬ 0 ≤ f.f2 by omega]
   ·rw [if_neg h1]; simp [show ¬ 0 < f.f5.length by omega]
theorem frame_f (l : List S48) (f : S48) (hf : f.f1.length < 4611686018427387904) (k : Nat) (hk : 2 * f.f1.length + 2 < k) : PMirFuel.mir_former_frame.f k l f.f0 f.f1 f.f2 f.f3 f.f4 f.f5 = some (frB f) := by
 have := frame_l l f hf f.f1 hf k 0 (by omega) (by omega)
 simpa [PMirFuel.mir_former_frame.f, frB] using this
def caB (l : List S48) (loc : List Int) (s : S40) : Bool :=
 if findP l s.f7 < 0 then false
 else if (rd_T48 l (findP l s.f7)).f2 < 0 then false
 else if (rd_T48 l (findP l s.f7)).f2 > (rd_T48 l (findP l s.f7)).f1.length then false
 else if (s.f9.length : Int) ≠ widthP (rd_T48 l (findP l s.f7)) then false
 else if (s.f10.length : Int) ≠ (rd_T48 l (findP l s.f7)).f3 then false
 else s.f9.all (opB loc) && s.f10.all (scB loc)
structure FA (w : World) (l : List S48) (f : S48) (A0 : Option Addr) (c0 : Nat) (A2 : Option Addr) (c2 : Nat) (A6 : Option Addr) (c6 : Nat) : Prop where
 r0 : Kd.C k48 w A0 l.length l
 l0 : l.length ≤ c0
 r2 : Kd.C (Kd.int .i64) w A2 f.f1.length f.f1
 l2 : f.f1.length ≤ c2
 r6 : Kd.C k45 w A6 f.f5.length f.f5
 l6 : f.f5.length ≤ c6
theorem FA.below {w w' : World} {l : List S48} {f : S48} {A0 A2 A6 : Option Addr} {c0 c2 c6 : Nat} (H : FA w l f A0 c0 A2 c2 A6 c6) (hb : Below w.heap.size w w') : FA w' l f A0 c0 A2 c2 A6 c6 :=
 ⟨Kd.C_below H.r0 hb, H.l0, Kd.C_below H.r2 hb, H.l2, Kd.C_below H.r6 hb, H.l6⟩
theorem sc_said {w : World} {l : List S48} {f : S48} {A0 A2 A6 : Option Addr} {c0 c2 c6 : Nat} (H : FA w l f A0 c0 A2 c2 A6 c6) (d : Int) :
  Calls Try.prog 57 #[.agg #[.slice A0 l.length c0, .string f.f0, .slice A2 f.f1.length c2, .int .i64 f.f2, .int .i64 f.f3, .bool f.f4, .slice A6 f.f5.length c6], .int .i64 d] w fun e w' => e = .returned (.bool (scB f.f1 d)) ∧ Below w.heap.size w w' :=
 PMirFuel.mir_former_scalar.calls A0 c0 l f.f0 A2 c2 f.f1 f.f2 f.f3 f.f4 A6 c6 f.f5 d _ w H.r0 H.l0 H.r2 H.l2 H.r6 H.l6 (scalar_f _ _ _ _ _ _ _ _)
theorem op_said {w : World} {l : List S48} {f : S48} {A0 A2 A6 : Option Addr} {c0 c2 c6 : Nat} (H : FA w l f A0 c0 A2 c2 A6 c6) (o : S30) :
  Calls Try.prog 58 #[.agg #[.slice A0 l.length c0, .string f.f0, .slice A2 f.f1.length c2, .int .i64 f.f2, .int .i64 f.f3, .bool f.f4, .slice A6 f.f5.length c6], .agg #[.bool o.f0, .int .i64 o.f1]] w fun e w' => e = .returned (.bool (opB f.f1 o)) ∧ Below w.heap.size w w' :=
 PMirFuel.mir_former_operand.calls A0 c0 l f.f0 A2 c2 f.f1 f.f2 f.f3 f.f4 A6 c6 f.f5 o.f0 o.f1 _ w H.r0 H.l0 H.r2 H.l2 H.r6 H.l6 (operand_f _ _ _ _ _ _ _ _)
structure FB (w0 w : World) (g1 : Nat) (x1 : Array Value) (t1 : TypeId) (g2 : Nat) (x2 : Array Value) (t2 : TypeId) : Prop where
 hb : Below w0.heap.size w0 w
 b1 : Has w g1 x1 t1
 b2 : Has w g2 x2 t2
theorem FB.below {w0 w w' : World} {g1 g2 : Nat} {x1 x2 : Array Value} {t1 t2 : TypeId} (H : FB w0 w g1 x1 t1 g2 x2 t2) (hb : Below w.heap.size w w') : FB w0 w' g1 x1 t1 g2 x2 t2 :=
 ⟨below_then H.hb H.hb.size hb, H.b1.belowS hb, H.b2.belowS hb⟩
theorem all_op {loc : List Int} {xs : List S30} (h : ∀ j : Int, 0 ≤ j → j < xs.length → opB loc (rd_T30 xs j) = true) : xs.all (opB loc) = true := by
 rw [List.all_eq_true]
 intro x hx
 obtain ⟨k, hk, rfl⟩ := List.mem_iff_getElem.1 hx
 have := h (k : Int) (by omega) (by omega)
 simpa [rd_T30, List.getD_eq_getElem?_getD, hk] using this
theorem not_op {loc : List Int} {xs : List S30} {j : Int} (h0 : 0 ≤ j) (h1 : j < xs.length) (h : opB loc (rd_T30 xs j) = false) : xs.all (opB loc) = false := by
 rw [List.all_eq_false]
 have hk : j.toNat < xs.length := by omega
 refine ⟨xs[j.toNat], List.getElem_mem _, ?_⟩
 simp only [rd_T30, List.getD_eq_getElem?_getD, List.getElem?_eq_getElem hk, Option.getD_some] at h
 simp [h]
theorem all_sc {loc xs : List Int} (h : ∀ j : Int, 0 ≤ j → j < xs.length → scB loc (rd xs j) = true) : xs.all (scB loc) = true := by
 rw [List.all_eq_true]
 intro x hx
 obtain ⟨k, hk, rfl⟩ := List.mem_iff_getElem.1 hx
 have := h (k : Int) (by omega) (by omega)
 simpa [rd, List.getD_eq_getElem?_getD, hk] using this
theorem not_sc {loc xs : List Int} {j : Int} (h0 : 0 ≤ j) (h1 : j < xs.length) (h : scB loc (rd xs j) = false) : xs.all (scB loc) = false := by
 rw [List.all_eq_false]
 have hk : j.toNat < xs.length := by omega
 refine ⟨xs[j.toNat], List.getElem_mem _, ?_⟩
 simp only [rd, List.getD_eq_getElem?_getD, List.getElem?_eq_getElem hk, Option.getD_some] at h
 simp [h]
theorem FB.new (w : World) (x1 : Array Value) (t1 : TypeId) (x2 : Array Value) (t2 : TypeId) : FB w ((w.alloc (Obj.cells x1 t1)).alloc (Obj.cells x2 t2)) w.heap.size x1 t1 (w.heap.size + 1) x2 t2 := by
 refine ⟨below_alloc (below_alloc (Below.refl _ _) _) _, (Has.new w x1 t1).alloc _, ?_⟩
 have h := Has.new (w.alloc (Obj.cells x1 t1)) x2 t2
 rw [show (w.alloc (Obj.cells x1 t1)).heap.size = w.heap.size + 1 by simp] at h
 exact h
set_option maxRecDepth 100000 in
set_option maxHeartbeats 8000000 in
theorem fcall (l : List S48) (f : S48) (A0 : Option Addr) (c0 : Nat) (A2 : Option Addr) (c2 : Nat) (A6 : Option Addr) (c6 : Nat) (s : S40) (A7 A9 A15 A16 A17 : Option Addr) (c7 c9 c15 c16 c17 : Nat) (w : World) (H : FA w l f A0 c0 A2 c2 A6 c6)
  (h16 : k30.C w A16 s.f9.length s.f9) (l16 : s.f9.length ≤ c16) (h17 : (Kd.int .i64).C w A17 s.f10.length s.f10) (l17 : s.f10.length ≤ c17) (hll : l.length < 4611686018427387904) (n9 : s.f9.length < 4611686018427387904) (n10 : s.f10.length < 4611686018427387904)
  (p0 : ¬ findP l s.f7 < 0) (p1 : ¬ (rd_T48 l (findP l s.f7)).f2 < 0) (p2 : ¬ (rd_T48 l (findP l s.f7)).f2 > (rd_T48 l (findP l s.f7)).f1.length) (hlk : (rd_T48 l (findP l s.f7)).f1.length < 4611686018427387904) (p3 : (s.f9.length : Int) = widthP (rd_T48 l (findP l s.f7))) (p4 : (s.f10.length : Int) = (rd_T48 l (findP l s.f7)).f3) :
  Calls Try.prog 63 #[.agg #[.slice A0 l.length c0, .string f.f0, .slice A2 f.f1.length c2, .int .i64 f.f2, .int .i64 f.f3, .bool f.f4, .slice A6 f.f5.length c6], .agg #[.int .i64 s.f0, .int .i64 s.f1, .bool s.f2.f0, .int .i64 s.f2.f1, .bool s.f3.f0, .int .i64 s.f3.f1, .int .i64 s.f4.f0, .slice A7 s.f4.f1.length c7, .int .i64 s.f5.f0, .slice A9 s.f5.f1.length c9, .int .i64 s.f6, .string s.f7, .int .i64 s.f8.f0, .string s.f8.f1, .int .i64 s.f8.f2, .slice A15 s.f8.f3.length c15, .slice A16 s.f9.length c16, .slice A17 s.f10.length c17]] w fun e w' => e = .returned (.bool (s.f9.all (opB f.f1) && s.f10.all (scB f.f1))) ∧ Below w.heap.size w w' := by
 have hu101 := Try.underlying101
 have hu40 := Try.underlying40
 have HF := Aside0.mk H
 have H16 := Aside0.mk h16
 have H17 := Aside0.mk h17
 have hkb : findP l s.f7 < l.length := by rcases findP_bounds l s.f7 with h | h <;> omega
 generalize hk0 : findP l s.f7 = k0 at *
 have HK0 := Aside0.mk hk0
 obtain ⟨ad, B1, b1, B5, b5, e, r0, r1, r2, r3, r4, r5, rl1, rg1, rl5, rg5⟩ := at_T48 H.r0 k0 (by omega) hkb
 subst e
 generalize hg : rd_T48 l k0 = g at *
 have RG := Aside0.mk (And.intro rg1 (And.intro rl1 (And.intro rg5 rl5)))
 clear H h16 h17 hk0 hg rg1 rl1 rg5 rl5
 go_enter Try.func63, Try.ntmps63
 have X := Aside0.mk (FB.new w #[.slice (some ad) l.length c0, .string f.f0, .slice A2 f.f1.length c2, .int .i64 f.f2, .int .i64 f.f3, .bool f.f4, .slice A6 f.f5.length c6] 101 #[.int .i64 s.f0, .int .i64 s.f1, .bool s.f2.f0, .int .i64 s.f2.f1, .bool s.f3.f0, .int .i64 s.f3.f1, .int .i64 s.f4.f0, .slice A7 s.f4.f1.length c7, .int .i64 s.f5.f0, .slice A9 s.f5.f1.length c9, .int .i64 s.f6, .string s.f7, .int .i64 s.f8.f0, .string s.f8.f1, .int .i64 s.f8.f2, .slice A15 s.f8.f3.length c15, .slice A16 s.f9.length c16, .slice A17 s.f10.length c17] 40)
 go_wp2_with (go_at_call 27; refine (PMirFuel.mir_find.calls (l.length + 1) (some ad) c0 l s.f7 k0 _ (Kd.C_below HF.out.r0 X.out.hb) HF.out.l0 (HK0.out ▸ find_f l s.f7 hll)).mono ?_; rintro e w3 ⟨rfl, hd⟩; have X3 := Aside0.mk (X.out.below hd.below); clear hd)
 have m0 := X3.out.b1.cell 0
 have m16 := X3.out.b2.cell 16
 have m17 := X3.out.b2.cell 17
 simp only [List.getElem?_toArray, List.getElem?_cons_zero, List.getElem?_cons_succ] at m0 m16 m17
 have q0 := pwcb X3.out.hb r0
 have q1 := pwcb X3.out.hb r1
 have q2 := pwcb X3.out.hb r2
 have q3 := pwcb X3.out.hb r3
 have q4 := pwcb X3.out.hb r4
 have q5 := pwcb X3.out.hb r5
 have d0 : decide (k0 < 0) = false := by simp; omega
 have d1 : decide (g.f2 < 0) = false := by simp; omega
 have d2 : decide (g.f2 > (g.f1.length : Int)) = false := by simp; omega
 have d3 : ((s.f9.length : Int) != widthP g) = false := by simp [p3]
 have d4 : ((s.f10.length : Int) != g.f3) = false := by simp [p4]
 have e0 : 0 ≤ k0 := by omega
 have HP := Aside0.mk (And.intro p1 (And.intro p2 (And.intro p3 p4)))
 clear r0 r1 r2 r3 r4 r5 p3 p4 p1 p2 p0
 refine region_mix [.h 0, .h 1, .h 2, .h 3, .h 4, .h 5, .h 6, .h 7, .h 8, .h 9, .h 10, .h 11, .h 12, .h 13, .h 14, .h 15, .h 16, .h 17, .h 18, .h 19, .h 20, .h 21, .h 22, .h 23, .h 24, .h 25, .h 26, .h 27, .h 28, .h 29, .h 30, .h 31, .h 32, .h 33, .h 34, .h 35, .c 36, .h 37, .h 38, .h 39, .h 40, .h 41, .h 42, .h 43, .h 44, .h 45, .h 46, .h 47, .h 48, .h 49, .h 50] (fun w' => w'.cell? ⟨w.heap.size, 0, none⟩ = some (.slice (some ad) l.length c0) ∧ w'.cell? ⟨w.heap.size + 1, 16, none⟩ = some (.slice A16 s.f9.length c16) ∧ w'.cell? ⟨w.heap.size + 1, 17, none⟩ = some (.slice A17 s.f10.length c17) ∧ w'.cell? (ad.add (k0.toNat * 6)) = some (.string g.f0) ∧ w'.cell? ⟨(ad.add (k0.toNat * 6)).block, (ad.add (k0.toNat * 6)).off + 1, none⟩ = some (.slice B1 g.f1.length b1) ∧ w'.cell? ⟨(ad.add (k0.toNat * 6)).block, (ad.add (k0.toNat * 6)).off + 2, none⟩ = some (.int .i64 g.f2) ∧ w'.cell? ⟨(ad.add (k0.toNat * 6)).block, (ad.add (k0.toNat * 6)).off + 3, none⟩ = some (.int .i64 g.f3) ∧ w'.cell? ⟨(ad.add (k0.toNat * 6)).block, (ad.add (k0.toNat * 6)).off + 4, none⟩ = some (.bool g.f4) ∧ w'.cell? ⟨(ad.add (k0.toNat * 6)).block, (ad.add (k0.toNat * 6)).off + 5, none⟩ = some (.slice B5 g.f5.length b5) ∧ Aside0 (Below w3.drew.heap.size w3.drew w')) (by kernel_rfl) (by kernel_rfl) ⟨m0, m16, m17, q0, q1, q2, q3, q4, q5, ⟨Below.refl _ _⟩⟩
  (by intro c a a' w1 hd h; simp +zetaDelta only [Exit.then, Exit.inBlock, bodyPost] at h ⊢; simp at h) ?_
 repeat (
  refine mix_h (by rfl) (by rfl) (by rfl) ?_
  apply Exists.intro
  apply And.intro
  ·rintro w' ⟨k0, k1, k2, k3, k4, k5, k6, k7, k8, kb⟩
   apply VR.mk
   go_simp
   with_reducible rfl
  simp only [List.setIfInBounds_toArray, List.set_cons_zero, List.set_cons_succ])
 refine mix_call (by rfl) (by rfl) (by rfl) (ER.go (by go_simp; with_reducible exact ⟨rfl, rfl⟩)) ?_
 refine (PMirFuel.mir_width.calls (g.f1.length + 1) g.f0 B1 b1 g.f1 g.f2 g.f3 g.f4 B5 b5 g.f5 (widthP g) w3.drew (Kd.C_below RG.out.1 (X3.out.below (below_drew (Below.refl _ w3))).hb) RG.out.2.1 (Kd.C_below RG.out.2.2.1 (X3.out.below (below_drew (Below.refl _ w3))).hb) RG.out.2.2.2 (width_f g hlk (by have := HP.out.1; omega) (by have := HP.out.2.1; omega) _ (by omega))).mono ?_
 rintro e w4 ⟨rfl, hb⟩
 have hb' : Below w3.heap.size w3 w4 := below_then (below_drew (Below.refl _ w3)) (Nat.le_refl _) hb
 refine .inl ⟨_, rfl, ⟨pwcb hb' m0, pwcb hb' m16, pwcb hb' m17, pwcb hb' q0, pwcb hb' q1, pwcb hb' q2, pwcb hb' q3, pwcb hb' q4, pwcb hb' q5, ⟨hb⟩⟩, ?_⟩
 have X4 := Aside0.mk (X3.out.below hb')
 clear hb hb'
 simp only [List.setIfInBounds_toArray, List.set_cons_zero, List.set_cons_succ]
 repeat (
  refine mix_h (by rfl) (by rfl) (by rfl) ?_
  apply Exists.intro
  apply And.intro
  ·rintro w' ⟨k0, k1, k2, k3, k4, k5, k6, k7, k8, kb⟩
   apply VR.mk
   go_simp
   with_reducible rfl
  simp only [List.setIfInBounds_toArray, List.set_cons_zero, List.set_cons_succ])
 refine mix_nil ?_
 have n16 := X4.out.b2.cell 16
 simp only [List.getElem?_toArray, List.getElem?_cons_zero, List.getElem?_cons_succ] at n16
 clear m0 m16 m17 q0 q1 q2 q3 q4 q5
 go_wp2
 go_loopw [69] (fun v wr => ∃ i : Int, v = .int .i64 i ∧ 0 ≤ i ∧ i ≤ s.f9.length ∧ Aside0 (∀ j : Int, 0 ≤ j → j < i → opB f.f1 (rd_T30 s.f9 j) = true) ∧ Aside0 (FB w wr w.heap.size #[.slice (some ad) l.length c0, .string f.f0, .slice A2 f.f1.length c2, .int .i64 f.f2, .int .i64 f.f3, .bool f.f4, .slice A6 f.f5.length c6] 101 (w.heap.size + 1) #[.int .i64 s.f0, .int .i64 s.f1, .bool s.f2.f0, .int .i64 s.f2.f1, .bool s.f3.f0, .int .i64 s.f3.f1, .int .i64 s.f4.f0, .slice A7 s.f4.f1.length c7, .int .i64 s.f5.f0, .slice A9 s.f5.f1.length c9, .int .i64 s.f6, .string s.f7, .int .i64 s.f8.f0, .string s.f8.f1, .int .i64 s.f8.f2, .slice A15 s.f8.f3.length c15, .slice A16 s.f9.length c16, .slice A17 s.f10.length c17] 40)) (fun v _ => s.f9.length - (intOf v).toNat)
 case atStart => exact ⟨0, rfl, by omega, by omega, ⟨fun j h1 h2 => by omega⟩, X4⟩
 case round =>
  obtain ⟨i, rfl, hi0, hi1, HOK, HX⟩ := hrel
  have x0 := HX.out.b1.cell 0
  have x1 := HX.out.b1.cell 1
  have x2 := HX.out.b1.cell 2
  have x3 := HX.out.b1.cell 3
  have x4 := HX.out.b1.cell 4
  have x5 := HX.out.b1.cell 5
  have x6 := HX.out.b1.cell 6
  have x17 := HX.out.b2.cell 17
  simp only [List.getElem?_toArray, List.getElem?_cons_zero, List.getElem?_cons_succ] at x0 x1 x2 x3 x4 x5 x6 x17
  by_cases hlt : i < s.f9.length
  ·obtain ⟨a16, e16, o0, o1⟩ := at_T30 (Kd.C_below H16.out HX.out.hb) i hi0 hlt
   have o0' := o0
   have hba : (a16.add (i.toNat * 2)).block < wr.heap.size := World.block_lt_of_cell? wr _ o0
   subst e16
   have y0 := fun o => pwcb (below_alloc (Below.refl _ wr) o) x0
   have y1 := fun o => pwcb (below_alloc (Below.refl _ wr) o) x1
   have y2 := fun o => pwcb (below_alloc (Below.refl _ wr) o) x2
   have y3 := fun o => pwcb (below_alloc (Below.refl _ wr) o) x3
   have y4 := fun o => pwcb (below_alloc (Below.refl _ wr) o) x4
   have y5 := fun o => pwcb (below_alloc (Below.refl _ wr) o) x5
   have y6 := fun o => pwcb (below_alloc (Below.refl _ wr) o) x6
   have HA := Aside0.mk (fun o => HF.out.below (below_alloc HX.out.hb o))
   have HXA := Aside0.mk (fun o => HX.out.below (below_alloc (Below.refl _ wr) o))
   cases hop : opB f.f1 (rd_T30 s.f9 i) with
   | true =>
    have HOK' := Aside0.mk (show ∀ j : Int, 0 ≤ j → j < i + 1 → opB f.f1 (rd_T30 s.f9 j) = true from fun j h1 h2 => by
     by_cases e : j = i
     ·rw [e]; exact hop
     ·exact HOK.out j h1 (by omega))
    go_wp2_with (go_at_call 58; refine (op_said (HA.out _) (rd_T30 s.f9 i)).mono ?_; rintro e w5 ⟨rfl, hb⟩)
    exact ⟨⟨i + 1, rfl, by omega, by omega, HOK', ⟨(HXA.out _).below hb⟩⟩, by simp [intOf]; omega⟩
   | false =>
    have hall := not_op hi0 hlt hop
    go_wp2_with (go_at_call 58; refine (op_said (HA.out _) (rd_T30 s.f9 i)).mono ?_; rintro e w5 ⟨rfl, hb⟩)
    go_ret
    exact ⟨by rw [hall]; rfl, ((HXA.out _).below hb).hb⟩
  ·have hd : decide (i < (s.f9.length : Int)) = false := decide_eq_false hlt
   have ALL9 := Aside0.mk (all_op (loc := f.f1) (xs := s.f9) (fun j h1 h2 => HOK.out j h1 (by omega)))
   clear x0 x1 x2 x3 x4 x5 x6
   go_wp2
   go_loopw [81] (fun v wr => ∃ i : Int, v = .int .i64 i ∧ 0 ≤ i ∧ i ≤ s.f10.length ∧ Aside0 (∀ j : Int, 0 ≤ j → j < i → scB f.f1 (rd s.f10 j) = true) ∧ Aside0 (FB w wr w.heap.size #[.slice (some ad) l.length c0, .string f.f0, .slice A2 f.f1.length c2, .int .i64 f.f2, .int .i64 f.f3, .bool f.f4, .slice A6 f.f5.length c6] 101 (w.heap.size + 1) #[.int .i64 s.f0, .int .i64 s.f1, .bool s.f2.f0, .int .i64 s.f2.f1, .bool s.f3.f0, .int .i64 s.f3.f1, .int .i64 s.f4.f0, .slice A7 s.f4.f1.length c7, .int .i64 s.f5.f0, .slice A9 s.f5.f1.length c9, .int .i64 s.f6, .string s.f7, .int .i64 s.f8.f0, .string s.f8.f1, .int .i64 s.f8.f2, .slice A15 s.f8.f3.length c15, .slice A16 s.f9.length c16, .slice A17 s.f10.length c17] 40)) (fun v _ => s.f10.length - (intOf v).toNat)
   case atStart => exact ⟨0, rfl, by omega, by omega, ⟨fun j h1 h2 => by omega⟩, HX⟩
   case round =>
    obtain ⟨i, rfl, hi0, hi1, HOK2, HX2⟩ := hrel
    have z0 := HX2.out.b1.cell 0
    have z1 := HX2.out.b1.cell 1
    have z2 := HX2.out.b1.cell 2
    have z3 := HX2.out.b1.cell 3
    have z4 := HX2.out.b1.cell 4
    have z5 := HX2.out.b1.cell 5
    have z6 := HX2.out.b1.cell 6
    simp only [List.getElem?_toArray, List.getElem?_cons_zero, List.getElem?_cons_succ] at z0 z1 z2 z3 z4 z5 z6
    by_cases hlt2 : i < s.f10.length
    ·obtain ⟨a17, e17, o0⟩ := int_at (Kd.C_below H17.out HX2.out.hb) i hi0 hlt2
     subst e17
     have HA := Aside0.mk (HF.out.below HX2.out.hb)
     cases hop : scB f.f1 (rd s.f10 i) with
     | true =>
      have HOK' := Aside0.mk (show ∀ j : Int, 0 ≤ j → j < i + 1 → scB f.f1 (rd s.f10 j) = true from fun j h1 h2 => by
       by_cases e : j = i
       ·rw [e]; exact hop
       ·exact HOK2.out j h1 (by omega))
      go_wp2_with (go_at_call 57; refine (sc_said HA.out (rd s.f10 i)).mono ?_; rintro e w5 ⟨rfl, hb⟩)
      exact ⟨⟨i + 1, rfl, by omega, by omega, HOK', ⟨HX2.out.below hb⟩⟩, by simp [intOf]; omega⟩
     | false =>
      have hall := not_sc hi0 hlt2 hop
      go_wp2_with (go_at_call 57; refine (sc_said HA.out (rd s.f10 i)).mono ?_; rintro e w5 ⟨rfl, hb⟩)
      go_ret
      exact ⟨by rw [hall]; simp, (HX2.out.below hb).hb⟩
    ·have hd2 : decide (i < (s.f10.length : Int)) = false := decide_eq_false hlt2
     have hall := all_sc (loc := f.f1) (xs := s.f10) (fun j h1 h2 => HOK2.out j h1 (by omega))
     go_wp2
     go_ret
     exact ⟨by first | (rw [ALL9.out, hall]; rfl) | (rw [ALL9.out]; rfl) | (simp [ALL9.out, hall]), HX2.out.hb⟩
def goB (f : S48) (k : Int) : Bool := decide (0 ≤ k) && decide (k < f.f5.length)
def teB (f : S48) (t : S43) : Bool :=
 if t.f0 = 1 then goB f t.f2
 else if t.f0 = 2 then opB f.f1 t.f1 && (goB f t.f2 && goB f t.f3)
 else if t.f0 = 3 then t.f4.all (opB f.f1) && decide ((t.f4.length : Int) = f.f3)
 else decide (t.f0 = 4)
set_option maxRecDepth 100000 in
set_option maxHeartbeats 4000000 in
theorem goes_said (f : S48) (A6 : Option Addr) (c6 : Nat) (g : Nat) (k : Int) (w : World) (h6 : w.cell? ⟨g, 6, none⟩ = some (.slice A6 f.f5.length c6)) :
  Calls Try.prog 64 #[.int .i64 k, .pointer (some ⟨g, 0, none⟩)] w fun e w' => e = .returned (.bool (goB f k)) ∧ Below w.heap.size w w' := by
 have hu101 := Try.underlying101
 by_cases h0 : 0 ≤ k
 ·have d0 : decide (k ≥ 0) = true := by simp; omega
  have hg : goB f k = decide (k < f.f5.length) := by simp [goB, h0]
  rw [hg]
  clear hg
  go_enter Try.func64, Try.ntmps64
  go_wp2
  go_ret
  exact ⟨rfl, Below.refl _ _⟩
 ·have d0 : decide (k ≥ 0) = false := by simp; omega
  have hg : goB f k = false := by simp [goB, h0]
  rw [hg]
  clear hg
  go_enter Try.func64, Try.ntmps64
  go_wp2
  go_ret
  exact ⟨rfl, Below.refl _ _⟩
set_option maxRecDepth 100000 in
set_option maxHeartbeats 8000000 in
theorem term_goto (l : List S48) (f : S48) (A0 : Option Addr) (c0 : Nat) (A2 : Option Addr) (c2 : Nat) (A6 : Option Addr) (c6 : Nat) (t : S43) (A5 : Option Addr) (c5 : Nat) (w : World) (H : FA w l f A0 c0 A2 c2 A6 c6) (h : t.f0 = 1) :
  Calls Try.prog 32 #[.agg #[.slice A0 l.length c0, .string f.f0, .slice A2 f.f1.length c2, .int .i64 f.f2, .int .i64 f.f3, .bool f.f4, .slice A6 f.f5.length c6], .agg #[.int .i64 t.f0, .bool t.f1.f0, .int .i64 t.f1.f1, .int .i64 t.f2, .int .i64 t.f3, .slice A5 t.f4.length c5]] w fun e w' => e = .returned (.bool (teB f t)) ∧ Below w.heap.size w w' := by
 have hu101 := Try.underlying101
 have hu43 := Try.underlying43
 have HF := Aside0.mk H
 have X := Aside0.mk (FB.new w #[.slice A0 l.length c0, .string f.f0, .slice A2 f.f1.length c2, .int .i64 f.f2, .int .i64 f.f3, .bool f.f4, .slice A6 f.f5.length c6] 101 #[.int .i64 t.f0, .bool t.f1.f0, .int .i64 t.f1.f1, .int .i64 t.f2, .int .i64 t.f3, .slice A5 t.f4.length c5] 43)
 have m0 := X.out.b1.cell 0
 have m1 := X.out.b1.cell 1
 have m2 := X.out.b1.cell 2
 have m3 := X.out.b1.cell 3
 have m4 := X.out.b1.cell 4
 have m5 := X.out.b1.cell 5
 have m6 := X.out.b1.cell 6
 have n0 := X.out.b2.cell 0
 have n1 := X.out.b2.cell 1
 have n2 := X.out.b2.cell 2
 have n3 := X.out.b2.cell 3
 have n4 := X.out.b2.cell 4
 have n5 := X.out.b2.cell 5
 simp only [List.getElem?_toArray, List.getElem?_cons_zero, List.getElem?_cons_succ] at m0 m1 m2 m3 m4 m5 m6 n0 n1 n2 n3 n4 n5
 have ht : teB f t = goB f t.f2 := by simp [teB, h]
 rw [ht]
 have d1 : (t.f0 == 1) = true := by simp [h]
 clear H ht h
 go_enter Try.func32, Try.ntmps32
 go_wp2_with (go_at_call 64; with_reducible refine (goes_said f A6 c6 w.heap.size t.f2 _ m6).mono ?_; rintro e w5 ⟨rfl, hb⟩; have XX := Aside0.mk (X.out.below hb); clear X; have X := XX; clear XX; have m0 := pwcb hb m0; have m1 := pwcb hb m1; have m2 := pwcb hb m2; have m3 := pwcb hb m3; have m4 := pwcb hb m4; have m5 := pwcb hb m5; have m6 := pwcb hb m6; have n0 := pwcb hb n0; have n1 := pwcb hb n1; have n2 := pwcb hb n2; have n3 := pwcb hb n3; have n4 := pwcb hb n4; have n5 := pwcb hb n5; clear hb)
 go_ret
 exact ⟨rfl, X.out.hb⟩
set_option maxRecDepth 100000 in
set_option maxHeartbeats 8000000 in
theorem term_cond0 (l : List S48) (f : S48) (A0 : Option Addr) (c0 : Nat) (A2 : Option Addr) (c2 : Nat) (A6 : Option Addr) (c6 : Nat) (t : S43) (A5 : Option Addr) (c5 : Nat) (w : World) (H : FA w l f A0 c0 A2 c2 A6 c6) (h : t.f0 = 2) (h1 : opB f.f1 t.f1 = false) :
  Calls Try.prog 32 #[.agg #[.slice A0 l.length c0, .string f.f0, .slice A2 f.f1.length c2, .int .i64 f.f2, .int .i64 f.f3, .bool f.f4, .slice A6 f.f5.length c6], .agg #[.int .i64 t.f0, .bool t.f1.f0, .int .i64 t.f1.f1, .int .i64 t.f2, .int .i64 t.f3, .slice A5 t.f4.length c5]] w fun e w' => e = .returned (.bool (teB f t)) ∧ Below w.heap.size w w' := by
 have hu101 := Try.underlying101
 have hu43 := Try.underlying43
 have HF := Aside0.mk H
 have X := Aside0.mk (FB.new w #[.slice A0 l.length c0, .string f.f0, .slice A2 f.f1.length c2, .int .i64 f.f2, .int .i64 f.f3, .bool f.f4, .slice A6 f.f5.length c6] 101 #[.int .i64 t.f0, .bool t.f1.f0, .int .i64 t.f1.f1, .int .i64 t.f2, .int .i64 t.f3, .slice A5 t.f4.length c5] 43)
 have m0 := X.out.b1.cell 0
 have m1 := X.out.b1.cell 1
 have m2 := X.out.b1.cell 2
 have m3 := X.out.b1.cell 3
 have m4 := X.out.b1.cell 4
 have m5 := X.out.b1.cell 5
 have m6 := X.out.b1.cell 6
 have n0 := X.out.b2.cell 0
 have n1 := X.out.b2.cell 1
 have n2 := X.out.b2.cell 2
 have n3 := X.out.b2.cell 3
 have n4 := X.out.b2.cell 4
 have n5 := X.out.b2.cell 5
 simp only [List.getElem?_toArray, List.getElem?_cons_zero, List.getElem?_cons_succ] at m0 m1 m2 m3 m4 m5 m6 n0 n1 n2 n3 n4 n5
 have ht : teB f t = false := by simp [teB, h, h1]
 rw [ht]
 have d1 : (t.f0 == 1) = false := by simp [h]
 have d2 : (t.f0 == 2) = true := by simp [h]
 clear H ht h
 go_enter Try.func32, Try.ntmps32
 go_wp2_with (first | (go_at_call 58; refine (op_said (HF.out.below X.out.hb) t.f1).mono ?_; rintro e w5 ⟨rfl, hb⟩; have XX := Aside0.mk (X.out.below hb); clear X; have X := XX; clear XX; have m0 := pwcb hb m0; have m1 := pwcb hb m1; have m2 := pwcb hb m2; have m3 := pwcb hb m3; have m4 := pwcb hb m4; have m5 := pwcb hb m5; have m6 := pwcb hb m6; have n0 := pwcb hb n0; have n1 := pwcb hb n1; have n2 := pwcb hb n2; have n3 := pwcb hb n3; have n4 := pwcb hb n4; have n5 := pwcb hb n5; clear hb) | (go_at_call 64; with_reducible refine (goes_said f A6 c6 w.heap.size t.f2 _ m6).mono ?_; rintro e w5 ⟨rfl, hb⟩; have XX := Aside0.mk (X.out.below hb); clear X; have X := XX; clear XX; have m0 := pwcb hb m0; have m1 := pwcb hb m1; have m2 := pwcb hb m2; have m3 := pwcb hb m3; have m4 := pwcb hb m4; have m5 := pwcb hb m5; have m6 := pwcb hb m6; have n0 := pwcb hb n0; have n1 := pwcb hb n1; have n2 := pwcb hb n2; have n3 := pwcb hb n3; have n4 := pwcb hb n4; have n5 := pwcb hb n5; clear hb) | (go_at_call 64; with_reducible refine (goes_said f A6 c6 w.heap.size t.f3 _ m6).mono ?_; rintro e w5 ⟨rfl, hb⟩; have XX := Aside0.mk (X.out.below hb); clear X; have X := XX; clear XX; have m0 := pwcb hb m0; have m1 := pwcb hb m1; have m2 := pwcb hb m2; have m3 := pwcb hb m3; have m4 := pwcb hb m4; have m5 := pwcb hb m5; have m6 := pwcb hb m6; have n0 := pwcb hb n0; have n1 := pwcb hb n1; have n2 := pwcb hb n2; have n3 := pwcb hb n3; have n4 := pwcb hb n4; have n5 := pwcb hb n5; clear hb))
 go_ret
 exact ⟨rfl, X.out.hb⟩
set_option maxRecDepth 100000 in
set_option maxHeartbeats 8000000 in
theorem term_cond1 (l : List S48) (f : S48) (A0 : Option Addr) (c0 : Nat) (A2 : Option Addr) (c2 : Nat) (A6 : Option Addr) (c6 : Nat) (t : S43) (A5 : Option Addr) (c5 : Nat) (w : World) (H : FA w l f A0 c0 A2 c2 A6 c6) (h : t.f0 = 2) (h1 : opB f.f1 t.f1 = true) (h2 : goB f t.f2 = false) :
  Calls Try.prog 32 #[.agg #[.slice A0 l.length c0, .string f.f0, .slice A2 f.f1.length c2, .int .i64 f.f2, .int .i64 f.f3, .bool f.f4, .slice A6 f.f5.length c6], .agg #[.int .i64 t.f0, .bool t.f1.f0, .int .i64 t.f1.f1, .int .i64 t.f2, .int .i64 t.f3, .slice A5 t.f4.length c5]] w fun e w' => e = .returned (.bool (teB f t)) ∧ Below w.heap.size w w' := by
 have hu101 := Try.underlying101
 have hu43 := Try.underlying43
 have HF := Aside0.mk H
 have X := Aside0.mk (FB.new w #[.slice A0 l.length c0, .string f.f0, .slice A2 f.f1.length c2, .int .i64 f.f2, .int .i64 f.f3, .bool f.f4, .slice A6 f.f5.length c6] 101 #[.int .i64 t.f0, .bool t.f1.f0, .int .i64 t.f1.f1, .int .i64 t.f2, .int .i64 t.f3, .slice A5 t.f4.length c5] 43)
 have m0 := X.out.b1.cell 0
 have m1 := X.out.b1.cell 1
 have m2 := X.out.b1.cell 2
 have m3 := X.out.b1.cell 3
 have m4 := X.out.b1.cell 4
 have m5 := X.out.b1.cell 5
 have m6 := X.out.b1.cell 6
 have n0 := X.out.b2.cell 0
 have n1 := X.out.b2.cell 1
 have n2 := X.out.b2.cell 2
 have n3 := X.out.b2.cell 3
 have n4 := X.out.b2.cell 4
 have n5 := X.out.b2.cell 5
 simp only [List.getElem?_toArray, List.getElem?_cons_zero, List.getElem?_cons_succ] at m0 m1 m2 m3 m4 m5 m6 n0 n1 n2 n3 n4 n5
 have ht : teB f t = false := by simp [teB, h, h1, h2]
 rw [ht]
 have d1 : (t.f0 == 1) = false := by simp [h]
 have d2 : (t.f0 == 2) = true := by simp [h]
 clear H ht h
 go_enter Try.func32, Try.ntmps32
 go_wp2_with (first | (go_at_call 58; refine (op_said (HF.out.below X.out.hb) t.f1).mono ?_; rintro e w5 ⟨rfl, hb⟩; have XX := Aside0.mk (X.out.below hb); clear X; have X := XX; clear XX; have m0 := pwcb hb m0; have m1 := pwcb hb m1; have m2 := pwcb hb m2; have m3 := pwcb hb m3; have m4 := pwcb hb m4; have m5 := pwcb hb m5; have m6 := pwcb hb m6; have n0 := pwcb hb n0; have n1 := pwcb hb n1; have n2 := pwcb hb n2; have n3 := pwcb hb n3; have n4 := pwcb hb n4; have n5 := pwcb hb n5; clear hb) | (go_at_call 64; with_reducible refine (goes_said f A6 c6 w.heap.size t.f2 _ m6).mono ?_; rintro e w5 ⟨rfl, hb⟩; have XX := Aside0.mk (X.out.below hb); clear X; have X := XX; clear XX; have m0 := pwcb hb m0; have m1 := pwcb hb m1; have m2 := pwcb hb m2; have m3 := pwcb hb m3; have m4 := pwcb hb m4; have m5 := pwcb hb m5; have m6 := pwcb hb m6; have n0 := pwcb hb n0; have n1 := pwcb hb n1; have n2 := pwcb hb n2; have n3 := pwcb hb n3; have n4 := pwcb hb n4; have n5 := pwcb hb n5; clear hb) | (go_at_call 64; with_reducible refine (goes_said f A6 c6 w.heap.size t.f3 _ m6).mono ?_; rintro e w5 ⟨rfl, hb⟩; have XX := Aside0.mk (X.out.below hb); clear X; have X := XX; clear XX; have m0 := pwcb hb m0; have m1 := pwcb hb m1; have m2 := pwcb hb m2; have m3 := pwcb hb m3; have m4 := pwcb hb m4; have m5 := pwcb hb m5; have m6 := pwcb hb m6; have n0 := pwcb hb n0; have n1 := pwcb hb n1; have n2 := pwcb hb n2; have n3 := pwcb hb n3; have n4 := pwcb hb n4; have n5 := pwcb hb n5; clear hb))
 go_ret
 exact ⟨rfl, X.out.hb⟩
set_option maxRecDepth 100000 in
set_option maxHeartbeats 8000000 in
theorem term_cond2 (l : List S48) (f : S48) (A0 : Option Addr) (c0 : Nat) (A2 : Option Addr) (c2 : Nat) (A6 : Option Addr) (c6 : Nat) (t : S43) (A5 : Option Addr) (c5 : Nat) (w : World) (H : FA w l f A0 c0 A2 c2 A6 c6) (h : t.f0 = 2) (h1 : opB f.f1 t.f1 = true) (h2 : goB f t.f2 = true) :
  Calls Try.prog 32 #[.agg #[.slice A0 l.length c0, .string f.f0, .slice A2 f.f1.length c2, .int .i64 f.f2, .int .i64 f.f3, .bool f.f4, .slice A6 f.f5.length c6], .agg #[.int .i64 t.f0, .bool t.f1.f0, .int .i64 t.f1.f1, .int .i64 t.f2, .int .i64 t.f3, .slice A5 t.f4.length c5]] w fun e w' => e = .returned (.bool (teB f t)) ∧ Below w.heap.size w w' := by
 have hu101 := Try.underlying101
 have hu43 := Try.underlying43
 have HF := Aside0.mk H
 have X := Aside0.mk (FB.new w #[.slice A0 l.length c0, .string f.f0, .slice A2 f.f1.length c2, .int .i64 f.f2, .int .i64 f.f3, .bool f.f4, .slice A6 f.f5.length c6] 101 #[.int .i64 t.f0, .bool t.f1.f0, .int .i64 t.f1.f1, .int .i64 t.f2, .int .i64 t.f3, .slice A5 t.f4.length c5] 43)
 have m0 := X.out.b1.cell 0
 have m1 := X.out.b1.cell 1
 have m2 := X.out.b1.cell 2
 have m3 := X.out.b1.cell 3
 have m4 := X.out.b1.cell 4
 have m5 := X.out.b1.cell 5
 have m6 := X.out.b1.cell 6
 have n0 := X.out.b2.cell 0
 have n1 := X.out.b2.cell 1
 have n2 := X.out.b2.cell 2
 have n3 := X.out.b2.cell 3
 have n4 := X.out.b2.cell 4
 have n5 := X.out.b2.cell 5
 simp only [List.getElem?_toArray, List.getElem?_cons_zero, List.getElem?_cons_succ] at m0 m1 m2 m3 m4 m5 m6 n0 n1 n2 n3 n4 n5
 have ht : teB f t = goB f t.f3 := by simp [teB, h, h1, h2]
 rw [ht]
 have d1 : (t.f0 == 1) = false := by simp [h]
 have d2 : (t.f0 == 2) = true := by simp [h]
 clear H ht h
 go_enter Try.func32, Try.ntmps32
 go_wp2_with (first | (go_at_call 58; refine (op_said (HF.out.below X.out.hb) t.f1).mono ?_; rintro e w5 ⟨rfl, hb⟩; have XX := Aside0.mk (X.out.below hb); clear X; have X := XX; clear XX; have m0 := pwcb hb m0; have m1 := pwcb hb m1; have m2 := pwcb hb m2; have m3 := pwcb hb m3; have m4 := pwcb hb m4; have m5 := pwcb hb m5; have m6 := pwcb hb m6; have n0 := pwcb hb n0; have n1 := pwcb hb n1; have n2 := pwcb hb n2; have n3 := pwcb hb n3; have n4 := pwcb hb n4; have n5 := pwcb hb n5; clear hb) | (go_at_call 64; with_reducible refine (goes_said f A6 c6 w.heap.size t.f2 _ m6).mono ?_; rintro e w5 ⟨rfl, hb⟩; have XX := Aside0.mk (X.out.below hb); clear X; have X := XX; clear XX; have m0 := pwcb hb m0; have m1 := pwcb hb m1; have m2 := pwcb hb m2; have m3 := pwcb hb m3; have m4 := pwcb hb m4; have m5 := pwcb hb m5; have m6 := pwcb hb m6; have n0 := pwcb hb n0; have n1 := pwcb hb n1; have n2 := pwcb hb n2; have n3 := pwcb hb n3; have n4 := pwcb hb n4; have n5 := pwcb hb n5; clear hb) | (go_at_call 64; with_reducible refine (goes_said f A6 c6 w.heap.size t.f3 _ m6).mono ?_; rintro e w5 ⟨rfl, hb⟩; have XX := Aside0.mk (X.out.below hb); clear X; have X := XX; clear XX; have m0 := pwcb hb m0; have m1 := pwcb hb m1; have m2 := pwcb hb m2; have m3 := pwcb hb m3; have m4 := pwcb hb m4; have m5 := pwcb hb m5; have m6 := pwcb hb m6; have n0 := pwcb hb n0; have n1 := pwcb hb n1; have n2 := pwcb hb n2; have n3 := pwcb hb n3; have n4 := pwcb hb n4; have n5 := pwcb hb n5; clear hb))
 go_ret
 exact ⟨rfl, X.out.hb⟩
set_option maxRecDepth 100000 in
set_option maxHeartbeats 8000000 in
theorem term_other (l : List S48) (f : S48) (A0 : Option Addr) (c0 : Nat) (A2 : Option Addr) (c2 : Nat) (A6 : Option Addr) (c6 : Nat) (t : S43) (A5 : Option Addr) (c5 : Nat) (w : World) (H : FA w l f A0 c0 A2 c2 A6 c6) (h1 : ¬ t.f0 = 1) (h2 : ¬ t.f0 = 2) (h3 : ¬ t.f0 = 3) :
  Calls Try.prog 32 #[.agg #[.slice A0 l.length c0, .string f.f0, .slice A2 f.f1.length c2, .int .i64 f.f2, .int .i64 f.f3, .bool f.f4, .slice A6 f.f5.length c6], .agg #[.int .i64 t.f0, .bool t.f1.f0, .int .i64 t.f1.f1, .int .i64 t.f2, .int .i64 t.f3, .slice A5 t.f4.length c5]] w fun e w' => e = .returned (.bool (teB f t)) ∧ Below w.heap.size w w' := by
 have hu101 := Try.underlying101
 have hu43 := Try.underlying43
 have HF := Aside0.mk H
 have X := Aside0.mk (FB.new w #[.slice A0 l.length c0, .string f.f0, .slice A2 f.f1.length c2, .int .i64 f.f2, .int .i64 f.f3, .bool f.f4, .slice A6 f.f5.length c6] 101 #[.int .i64 t.f0, .bool t.f1.f0, .int .i64 t.f1.f1, .int .i64 t.f2, .int .i64 t.f3, .slice A5 t.f4.length c5] 43)
 have m0 := X.out.b1.cell 0
 have m1 := X.out.b1.cell 1
 have m2 := X.out.b1.cell 2
 have m3 := X.out.b1.cell 3
 have m4 := X.out.b1.cell 4
 have m5 := X.out.b1.cell 5
 have m6 := X.out.b1.cell 6
 have n0 := X.out.b2.cell 0
 have n1 := X.out.b2.cell 1
 have n2 := X.out.b2.cell 2
 have n3 := X.out.b2.cell 3
 have n4 := X.out.b2.cell 4
 have n5 := X.out.b2.cell 5
 simp only [List.getElem?_toArray, List.getElem?_cons_zero, List.getElem?_cons_succ] at m0 m1 m2 m3 m4 m5 m6 n0 n1 n2 n3 n4 n5
 have ht : teB f t = decide (t.f0 = 4) := by simp [teB, h1, h2, h3]
 rw [ht]
 have d1 : (t.f0 == 1) = false := by simp [h1]
 have d2 : (t.f0 == 2) = false := by simp [h2]
 have d3 : (t.f0 == 3) = false := by simp [h3]
 clear H ht h1 h2 h3
 go_enter Try.func32, Try.ntmps32
 go_wp2
 go_ret
 exact ⟨by first | rfl | simp [beq_eq_decide], X.out.hb⟩
set_option maxRecDepth 100000 in
set_option maxHeartbeats 8000000 in
theorem term_ret (l : List S48) (f : S48) (A0 : Option Addr) (c0 : Nat) (A2 : Option Addr) (c2 : Nat) (A6 : Option Addr) (c6 : Nat) (t : S43) (A5 : Option Addr) (c5 : Nat) (w : World) (H : FA w l f A0 c0 A2 c2 A6 c6) (h : t.f0 = 3) (h5 : k30.C w A5 t.f4.length t.f4) (n9 : t.f4.length < 4611686018427387904) :
  Calls Try.prog 32 #[.agg #[.slice A0 l.length c0, .string f.f0, .slice A2 f.f1.length c2, .int .i64 f.f2, .int .i64 f.f3, .bool f.f4, .slice A6 f.f5.length c6], .agg #[.int .i64 t.f0, .bool t.f1.f0, .int .i64 t.f1.f1, .int .i64 t.f2, .int .i64 t.f3, .slice A5 t.f4.length c5]] w fun e w' => e = .returned (.bool (teB f t)) ∧ Below w.heap.size w w' := by
 have hu101 := Try.underlying101
 have hu43 := Try.underlying43
 have HF := Aside0.mk H
 have X := Aside0.mk (FB.new w #[.slice A0 l.length c0, .string f.f0, .slice A2 f.f1.length c2, .int .i64 f.f2, .int .i64 f.f3, .bool f.f4, .slice A6 f.f5.length c6] 101 #[.int .i64 t.f0, .bool t.f1.f0, .int .i64 t.f1.f1, .int .i64 t.f2, .int .i64 t.f3, .slice A5 t.f4.length c5] 43)
 have m0 := X.out.b1.cell 0
 have m1 := X.out.b1.cell 1
 have m2 := X.out.b1.cell 2
 have m3 := X.out.b1.cell 3
 have m4 := X.out.b1.cell 4
 have m5 := X.out.b1.cell 5
 have m6 := X.out.b1.cell 6
 have n0 := X.out.b2.cell 0
 have n1 := X.out.b2.cell 1
 have n2 := X.out.b2.cell 2
 have n3 := X.out.b2.cell 3
 have n4 := X.out.b2.cell 4
 have n5 := X.out.b2.cell 5
 simp only [List.getElem?_toArray, List.getElem?_cons_zero, List.getElem?_cons_succ] at m0 m1 m2 m3 m4 m5 m6 n0 n1 n2 n3 n4 n5
 have H5 := Aside0.mk h5
 have d1 : (t.f0 == 1) = false := by simp [h]
 have d2 : (t.f0 == 2) = false := by simp [h]
 have d3 : (t.f0 == 3) = true := by simp [h]
 have HT := Aside0.mk (show teB f t = (t.f4.all (opB f.f1) && decide ((t.f4.length : Int) = f.f3)) by simp [teB, h])
 have X0 := X
 clear H h5 h
 go_enter Try.func32, Try.ntmps32
 go_wp2
 go_loopw [40] (fun v wr => ∃ i : Int, v = .int .i64 i ∧ 0 ≤ i ∧ i ≤ t.f4.length ∧ Aside0 (∀ j : Int, 0 ≤ j → j < i → opB f.f1 (rd_T30 t.f4 j) = true) ∧ Aside0 (FB w wr w.heap.size #[.slice A0 l.length c0, .string f.f0, .slice A2 f.f1.length c2, .int .i64 f.f2, .int .i64 f.f3, .bool f.f4, .slice A6 f.f5.length c6] 101 (w.heap.size + 1) #[.int .i64 t.f0, .bool t.f1.f0, .int .i64 t.f1.f1, .int .i64 t.f2, .int .i64 t.f3, .slice A5 t.f4.length c5] 43)) (fun v _ => t.f4.length - (intOf v).toNat)
 case atStart => exact ⟨0, rfl, by omega, by omega, ⟨fun j h1 h2 => by omega⟩, X0⟩
 case round =>
  clear m0 m1 m2 m3 m4 m5 m6 n0 n1 n2 n3 n4 n5 X X0
  obtain ⟨i, rfl, hi0, hi1, HOK, X⟩ := hrel
  have m0 := X.out.b1.cell 0
  have m1 := X.out.b1.cell 1
  have m2 := X.out.b1.cell 2
  have m3 := X.out.b1.cell 3
  have m4 := X.out.b1.cell 4
  have m5 := X.out.b1.cell 5
  have m6 := X.out.b1.cell 6
  have n0 := X.out.b2.cell 0
  have n1 := X.out.b2.cell 1
  have n2 := X.out.b2.cell 2
  have n3 := X.out.b2.cell 3
  have n4 := X.out.b2.cell 4
  have n5 := X.out.b2.cell 5
  simp only [List.getElem?_toArray, List.getElem?_cons_zero, List.getElem?_cons_succ] at m0 m1 m2 m3 m4 m5 m6 n0 n1 n2 n3 n4 n5
  by_cases hlt : i < t.f4.length
  ·obtain ⟨a16, e16, o0, o1⟩ := at_T30 (Kd.C_below H5.out X.out.hb) i hi0 hlt
   have hba : (a16.add (i.toNat * 2)).block < wr.heap.size := World.block_lt_of_cell? wr _ o0
   subst e16
   have y0 := fun o => pwcb (below_alloc (Below.refl _ wr) o) m0
   have y1 := fun o => pwcb (below_alloc (Below.refl _ wr) o) m1
   have y2 := fun o => pwcb (below_alloc (Below.refl _ wr) o) m2
   have y3 := fun o => pwcb (below_alloc (Below.refl _ wr) o) m3
   have y4 := fun o => pwcb (below_alloc (Below.refl _ wr) o) m4
   have y5 := fun o => pwcb (below_alloc (Below.refl _ wr) o) m5
   have y6 := fun o => pwcb (below_alloc (Below.refl _ wr) o) m6
   have HA := Aside0.mk (fun o => HF.out.below (below_alloc X.out.hb o))
   have HXA := Aside0.mk (fun o => X.out.below (below_alloc (Below.refl _ wr) o))
   cases hop : opB f.f1 (rd_T30 t.f4 i) with
   | true =>
    have HOK' := Aside0.mk (show ∀ j : Int, 0 ≤ j → j < i + 1 → opB f.f1 (rd_T30 t.f4 j) = true from fun j h1 h2 => by
     by_cases e : j = i
     ·rw [e]; exact hop
     ·exact HOK.out j h1 (by omega))
    go_wp2_with (go_at_call 58; refine (op_said (HA.out _) (rd_T30 t.f4 i)).mono ?_; rintro e w5 ⟨rfl, hb⟩)
    exact ⟨⟨i + 1, rfl, by omega, by omega, HOK', ⟨(HXA.out _).below hb⟩⟩, by simp [intOf]; omega⟩
   | false =>
    have hall := not_op hi0 hlt hop
    go_wp2_with (go_at_call 58; refine (op_said (HA.out _) (rd_T30 t.f4 i)).mono ?_; rintro e w5 ⟨rfl, hb⟩)
    go_ret
    exact ⟨by rw [HT.out, hall]; rfl, ((HXA.out _).below hb).hb⟩
  ·have hd : decide (i < (t.f4.length : Int)) = false := decide_eq_false hlt
   have ALL9 := Aside0.mk (all_op (loc := f.f1) (xs := t.f4) (fun j h1 h2 => HOK.out j h1 (by omega)))
   go_wp2
   go_ret
   exact ⟨by rw [HT.out, ALL9.out]; first | rfl | simp [beq_eq_decide], X.out.hb⟩
theorem term_said (l : List S48) (f : S48) (A0 : Option Addr) (c0 : Nat) (A2 : Option Addr) (c2 : Nat) (A6 : Option Addr) (c6 : Nat) (t : S43) (A5 : Option Addr) (c5 : Nat) (w : World) (H : FA w l f A0 c0 A2 c2 A6 c6) (h5 : k30.C w A5 t.f4.length t.f4) (n9 : t.f4.length < 4611686018427387904) :
  Calls Try.prog 32 #[.agg #[.slice A0 l.length c0, .string f.f0, .slice A2 f.f1.length c2, .int .i64 f.f2, .int .i64 f.f3, .bool f.f4, .slice A6 f.f5.length c6], .agg #[.int .i64 t.f0, .bool t.f1.f0, .int .i64 t.f1.f1, .int .i64 t.f2, .int .i64 t.f3, .slice A5 t.f4.length c5]] w fun e w' => e = .returned (.bool (teB f t)) ∧ Below w.heap.size w w' := by
 by_cases h1 : t.f0 = 1
 ·exact term_goto l f A0 c0 A2 c2 A6 c6 t A5 c5 w H h1
 by_cases h2 : t.f0 = 2
 ·cases o : opB f.f1 t.f1 with
  | false => exact term_cond0 l f A0 c0 A2 c2 A6 c6 t A5 c5 w H h2 o
  | true => cases g : goB f t.f2 with
   | false => exact term_cond1 l f A0 c0 A2 c2 A6 c6 t A5 c5 w H h2 o g
   | true => exact term_cond2 l f A0 c0 A2 c2 A6 c6 t A5 c5 w H h2 o g
 by_cases h3 : t.f0 = 3
 ·exact term_ret l f A0 c0 A2 c2 A6 c6 t A5 c5 w H h3 h5 n9
 ·exact term_other l f A0 c0 A2 c2 A6 c6 t A5 c5 w H h1 h2 h3
end Go.Proofs.Ytpphpcmbpbppoaa.Form
end
