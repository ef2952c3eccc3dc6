/- The walks of show.same, of slices.EqualFunc over trees, and of show.Alike: each call comes to what the plain functions say, in any world. -/
import Derived.Test.YtocjfdpknfnamaaDoorAlikeA
namespace Go.Proofs.YtocjfdpknfnamaaDoor.Alike
open Go.RowKit Go.Proofs.YtocjfdpknfnamaaDoor.PShowTypes Go.Proofs.YtocjfdpknfnamaaDoorW.PrintWords Go.Proofs.YtocjfdpknfnamaaDoorW.PrintLast Go.Proofs.YtocjfdpknfnamaaDoorW.PrintMore
set_option linter.unusedVariables false

theorem beq_false {a b : Int} (h : ¬ a = b) : (a == b) = false := by simpa using h
theorem toList_beq_false {a b : ByteArray} (h : ¬ a.toList = b.toList) : (a.toList == b.toList) = false := by simpa using h

set_option maxHeartbeats 1000000 in
set_option maxRecDepth 100000 in
theorem same_step (x : S24) (H : ∀ j, j < x.f3.length → SameSaid (rd_T24 x.f3 (j : Int))) : SameSaid x := by
  constructor
  intro y r A c A' c' w hr hx hc hy hc'
  have HX := Aside0.mk hx
  have HY := Aside0.mk hy
  have HC := Aside0.mk hc
  have HC' := Aside0.mk hc'
  have HH := Aside0.mk H
  clear hx hy hc hc' H
  have hu24 := Tryd.underlying24
  rw [same_def] at hr
  by_cases e0 : x.f0 = y.f0
  · have b0 : (x.f0 == y.f0) = true := beq_iff_eq.2 e0
    by_cases e1 : x.f1.toList = y.f1.toList
    · have b1 : (x.f1.toList == y.f1.toList) = true := beq_iff_eq.2 e1
      by_cases e2 : x.f2 = y.f2
      · have b2 : (x.f2 == y.f2) = true := beq_iff_eq.2 e2
        rw [b0, b1, b2, Bool.true_and, Bool.true_and, Bool.true_and] at hr
        have HR := Aside0.mk hr
        clear hr e0 e1 e2
        go_enter Tryd.func20, Tryd.ntmps20
        go_wp2_with (go_at_call 19; (with_reducible refine (eq24 _ _ _ _ _ _ r _ HR.out ?side1 HC.out ?side2 HC'.out HH.out).mono ?_); (case side1 => repeat (first | exact HX.out | (with_reducible refine Kd.C_alloc ?_ _))); (case side2 => repeat (first | exact HY.out | (with_reducible refine Kd.C_alloc ?_ _))); rintro e w2 ⟨rfl, hb⟩)
        go_ret
        exact ⟨rfl, below_step (below_alloc (below_alloc (Below.refl _ _) _) _) hb⟩
      · have b2 := beq_false e2
        rw [b0, b1, b2, Bool.true_and, Bool.true_and, Bool.false_and] at hr
        subst hr
        clear e0 e1 e2
        go_enter Tryd.func20, Tryd.ntmps20
        go_wp2
        go_ret
        exact ⟨rfl, below_alloc (below_alloc (Below.refl _ _) _) _⟩
    · have b1 := toList_beq_false e1
      rw [b0, b1, Bool.true_and, Bool.false_and] at hr
      subst hr
      clear e0 e1
      go_enter Tryd.func20, Tryd.ntmps20
      go_wp2
      go_ret
      exact ⟨rfl, below_alloc (below_alloc (Below.refl _ _) _) _⟩
  · have b0 := beq_false e0
    rw [b0, Bool.false_and] at hr
    subst hr
    clear e0
    go_enter Tryd.func20, Tryd.ntmps20
    go_wp2
    go_ret
    exact ⟨rfl, below_alloc (below_alloc (Below.refl _ _) _) _⟩

theorem rd24_mem {xs : List S24} {j : Nat} (h : j < xs.length) : rd_T24 xs (j : Int) ∈ xs := by
  unfold rd_T24
  rw [Int.toNat_natCast, List.getD_eq_getElem?_getD, List.getElem?_eq_getElem h]
  exact List.getElem_mem h
theorem rd27_mem {xs : List S27} {j : Nat} (h : j < xs.length) : rd_T27 xs (j : Int) ∈ xs := by
  unfold rd_T27
  rw [Int.toNat_natCast, List.getD_eq_getElem?_getD, List.getElem?_eq_getElem h]
  exact List.getElem_mem h

theorem same_said (x : S24) : SameSaid x := by
  have key : ∀ (n : Nat) (x : S24), SizeOf.sizeOf x < n → SameSaid x := by
    intro n
    induction n with
    | zero => intro x h; omega
    | succ n ih =>
      intro x h
      refine same_step x (fun j hj => ih _ ?_)
      have h1 := List.sizeOf_lt_of_mem (rd24_mem hj)
      cases x with
      | mk k n c e => simp only [S24.mk.sizeOf_spec] at h; simp only at h1 ⊢; omega
  exact key _ x (Nat.lt_succ_self _)

theorem types_said (xs ys : List S24) (A : Option Addr) (c : Nat) (A' : Option Addr) (c' : Nat) (r : Bool) (w : World) (hr : sames xs ys = r) (hx : k24.C w A xs.length xs) (hc : xs.length ≤ c) (hy : k24.C w A' ys.length ys) (hc' : ys.length ≤ c') :
    Calls Tryd.prog 19 #[.slice A xs.length c, .slice A' ys.length c', .func (.func 20) #[] #[]] w fun e w' => e = .returned (.bool r) ∧ Below w.heap.size w w' :=
  eq24 xs ys A c A' c' r w hr hx hc hy hc' (fun _ _ => same_said _)

theorem bcell {W w1 : World} (hb : Below W.heap.size W w1) : (∀ b o, b < W.heap.size → w1.cell? ⟨b, o, none⟩ = W.cell? ⟨b, o, none⟩) ∧ (∀ b o, b < W.heap.size → w1.frozen? ⟨b, o, none⟩ = W.frozen? ⟨b, o, none⟩) :=
  ⟨fun b o h => hb.cell (p := ⟨b, o, none⟩) h, fun b o h => hb.frozen (p := ⟨b, o, none⟩) h⟩

/-- A tree as the cells of a struct. -/
abbrev agg27 (x : S27) (A4 : Option Addr) (c4 : Nat) (A5 : Option Addr) (c5 : Nat) (A9 : Option Addr) (c9 : Nat) : Value :=
  .agg #[.int .i64 x.f0, .int .i64 x.f1, .int .i64 x.f2, .string x.f3, .slice A4 x.f4.length c4, .slice A5 x.f5.length c5, .int .i64 x.f6.f0, .string x.f6.f1, .int .i64 x.f6.f2, .slice A9 x.f6.f3.length c9]

/-- What a call of show.Alike comes to. -/
structure AlikeSaid (x : S27) : Prop where
  go : ∀ (y : S27) (r : Bool) (A4 : Option Addr) (c4 : Nat) (A5 : Option Addr) (c5 : Nat) (p6 : Int) (p7 : ByteArray) (p8 : Int) (A9 : Option Addr) (n9 c9 : Nat) (B4 : Option Addr) (d4 : Nat) (B5 : Option Addr) (d5 : Nat) (q6 : Int) (q7 : ByteArray) (q8 : Int) (B9 : Option Addr) (m9 d9 : Nat) (w : World), alike x y = r →
    k27.C w A4 x.f4.length x.f4 → x.f4.length ≤ c4 → k24.C w A5 x.f5.length x.f5 → x.f5.length ≤ c5 → k27.C w B4 y.f4.length y.f4 → y.f4.length ≤ d4 → k24.C w B5 y.f5.length y.f5 → y.f5.length ≤ d5 →
    Calls Tryd.prog 9 #[.agg #[.int .i64 x.f0, .int .i64 x.f1, .int .i64 x.f2, .string x.f3, .slice A4 x.f4.length c4, .slice A5 x.f5.length c5, .int .i64 p6, .string p7, .int .i64 p8, .slice A9 n9 c9],
      .agg #[.int .i64 y.f0, .int .i64 y.f1, .int .i64 y.f2, .string y.f3, .slice B4 y.f4.length d4, .slice B5 y.f5.length d5, .int .i64 q6, .string q7, .int .i64 q8, .slice B9 m9 d9]] w fun e w' => e = .returned (.bool r) ∧ Below w.heap.size w w'

set_option maxHeartbeats 2000000 in
set_option maxRecDepth 100000 in
theorem eq27 (xs ys : List S27) (A : Option Addr) (c : Nat) (A' : Option Addr) (c' : Nat) (r : Bool) (w : World) (hr : alikes xs ys = r) (hx : k27.C w A xs.length xs) (hc : xs.length ≤ c) (hy : k27.C w A' ys.length ys) (hc' : ys.length ≤ c')
    (H : ∀ j, j < xs.length → AlikeSaid (rd_T27 xs (j : Int))) :
    Calls Tryd.prog 21 #[.slice A xs.length c, .slice A' ys.length c', .func (.func 9) #[] #[]] w fun e w' => e = .returned (.bool r) ∧ Below w.heap.size w w' := by
  have hm := Kd.C_max hx
  have hm' := Kd.C_max hy
  have HX := Aside0.mk hx
  have HY := Aside0.mk hy
  have HH := Aside0.mk H
  have hu27 := Tryd.underlying27
  clear hx hy H
  by_cases hl : xs.length = ys.length
  · have hlb : ((xs.length : Int) != (ys.length : Int)) = false := by simp [hl]
    have HL := Aside0.mk hl
    clear hl
    have HR := Aside0.mk hr
    clear hr
    go_enter Tryd.func21, Tryd.ntmps21
    go_wp2_with fail
    go_loopw [17] (fun v w' => ∃ i : Int, v = .int .i64 i ∧ 0 ≤ i ∧ i ≤ xs.length ∧ Aside0 (∀ j : Nat, (j : Int) < i → alike (rd_T27 xs (j : Int)) (rd_T27 ys (j : Int)) = true) ∧ Aside0 (Below w.heap.size w w')) (fun i _ => xs.length - (intOf i).toNat)
    case atStart => exact ⟨0, rfl, by omega, by omega, ⟨fun j hj => by omega⟩, ⟨Below.refl _ _⟩⟩
    case round =>
      obtain ⟨i, rfl, hi0, hi1, HS, HB⟩ := hrel
      by_cases hlt : i < xs.length
      · obtain ⟨ad, A4, c4, A5, c5, A9, c9, e1, hx0, hx1, hx2, hx3, hx4, hx5, hx6, hx7, hx8, hx9, l4, g4, l5, g5, l9, g9⟩ := at_T27 HX.out i hi0 hlt
        obtain ⟨ad', B4, d4, B5, d5, B9, d9, e2, hy0, hy1, hy2, hy3, hy4, hy5, hy6, hy7, hy8, hy9, m4, q4, m5, q5, m9, q9⟩ := at_T27 HY.out i hi0 (by have := HL.out; omega)
        cases e1; cases e2
        replace hx0 := (HB.out.cell (World.block_lt_of_cell? w _ hx0)).trans hx0
        replace hx1 := (HB.out.cell (World.block_lt_of_cell? w _ hx1)).trans hx1
        replace hx2 := (HB.out.cell (World.block_lt_of_cell? w _ hx2)).trans hx2
        replace hx3 := (HB.out.cell (World.block_lt_of_cell? w _ hx3)).trans hx3
        replace hx4 := (HB.out.cell (World.block_lt_of_cell? w _ hx4)).trans hx4
        replace hx5 := (HB.out.cell (World.block_lt_of_cell? w _ hx5)).trans hx5
        replace hx6 := (HB.out.cell (World.block_lt_of_cell? w _ hx6)).trans hx6
        replace hx7 := (HB.out.cell (World.block_lt_of_cell? w _ hx7)).trans hx7
        replace hx8 := (HB.out.cell (World.block_lt_of_cell? w _ hx8)).trans hx8
        replace hx9 := (HB.out.cell (World.block_lt_of_cell? w _ hx9)).trans hx9
        replace hy0 := (HB.out.cell (World.block_lt_of_cell? w _ hy0)).trans hy0
        replace hy1 := (HB.out.cell (World.block_lt_of_cell? w _ hy1)).trans hy1
        replace hy2 := (HB.out.cell (World.block_lt_of_cell? w _ hy2)).trans hy2
        replace hy3 := (HB.out.cell (World.block_lt_of_cell? w _ hy3)).trans hy3
        replace hy4 := (HB.out.cell (World.block_lt_of_cell? w _ hy4)).trans hy4
        replace hy5 := (HB.out.cell (World.block_lt_of_cell? w _ hy5)).trans hy5
        replace hy6 := (HB.out.cell (World.block_lt_of_cell? w _ hy6)).trans hy6
        replace hy7 := (HB.out.cell (World.block_lt_of_cell? w _ hy7)).trans hy7
        replace hy8 := (HB.out.cell (World.block_lt_of_cell? w _ hy8)).trans hy8
        replace hy9 := (HB.out.cell (World.block_lt_of_cell? w _ hy9)).trans hy9
        have hlt' : i < ys.length := by have := HL.out; omega
        have hb2 : (ad'.add (i.toNat * 10)).block < wr.heap.size := World.block_lt_of_cell? wr _ hy0
        obtain ⟨k, hk⟩ : ∃ k : Nat, (k : Int) = i := ⟨i.toNat, by omega⟩
        have hkl : k < xs.length := by omega
        have HQ0 := HH.out k hkl
        rw [hk] at HQ0
        have HK := Aside0.mk hk
        clear hk hkl
        obtain ⟨q, hq⟩ : ∃ q, alike (rd_T27 xs i) (rd_T27 ys i) = q := ⟨_, rfl⟩
        have HQ1 := Aside0.mk hq
        clear hq
        have L1 := Aside0.mk l4
        have L2 := Aside0.mk g4
        have L3 := Aside0.mk l5
        have L4 := Aside0.mk g5
        have M1 := Aside0.mk m4
        have M2 := Aside0.mk q4
        have M3 := Aside0.mk m5
        have M4 := Aside0.mk q5
        clear l4 g4 l5 g5 l9 g9 m4 q4 m5 q5 m9 q9
        cases q with
        | true =>
          go_wp2_with (go_at_call 9; (with_reducible refine (HQ0.go _ true _ _ _ _ _ _ _ _ _ _ _ _ _ _ _ _ _ _ _ _ _ HQ1.out ?side1 L1.out ?side2 L3.out ?side3 M1.out ?side4 M3.out).mono ?_); (case side1 => repeat (first | exact Kd.C_below L2.out HB.out | (with_reducible refine Kd.C_alloc ?_ _))); (case side2 => repeat (first | exact Kd.C_below L4.out HB.out | (with_reducible refine Kd.C_alloc ?_ _))); (case side3 => repeat (first | exact Kd.C_below M2.out HB.out | (with_reducible refine Kd.C_alloc ?_ _))); (case side4 => repeat (first | exact Kd.C_below M4.out HB.out | (with_reducible refine Kd.C_alloc ?_ _))); rintro e w2 ⟨rfl, hb⟩)
          go_roundw
          case measure => simp [intOf]; omega
          case rel =>
            have hs : ∀ j : Nat, (j : Int) < i + 1 → alike (rd_T27 xs (j : Int)) (rd_T27 ys (j : Int)) = true := by
              intro j hj
              by_cases e : (j : Int) < i
              · exact HS.out j e
              · have e2 : (j : Int) = i := by omega
                rw [e2]; exact HQ1.out
            exact ⟨i + 1, rfl, by omega, by omega, ⟨hs⟩, ⟨below_step (below_alloc (below_alloc HB.out _) _) hb⟩⟩
        | false =>
          go_wp2_with (go_at_call 9; (with_reducible refine (HQ0.go _ false _ _ _ _ _ _ _ _ _ _ _ _ _ _ _ _ _ _ _ _ _ HQ1.out ?side1 L1.out ?side2 L3.out ?side3 M1.out ?side4 M3.out).mono ?_); (case side1 => repeat (first | exact Kd.C_below L2.out HB.out | (with_reducible refine Kd.C_alloc ?_ _))); (case side2 => repeat (first | exact Kd.C_below L4.out HB.out | (with_reducible refine Kd.C_alloc ?_ _))); (case side3 => repeat (first | exact Kd.C_below M2.out HB.out | (with_reducible refine Kd.C_alloc ?_ _))); (case side4 => repeat (first | exact Kd.C_below M4.out HB.out | (with_reducible refine Kd.C_alloc ?_ _))); rintro e w2 ⟨rfl, hb⟩)
          go_ret
          refine ⟨?_, below_step (below_alloc (below_alloc HB.out _) _) hb⟩
          have e : alikes xs ys = false := by
            rw [← Bool.not_eq_true, alikes_iff]
            rintro ⟨_, h⟩
            have := h i.toNat (by omega)
            rw [show ((i.toNat : Nat) : Int) = i by omega, HQ1.out] at this
            cases this
          rw [← HR.out, e]; rfl
      · have hd : decide (i < (xs.length : Int)) = false := decide_eq_false hlt
        go_wp2
        go_ret
        refine ⟨?_, HB.out⟩
        have e : alikes xs ys = true := (alikes_iff xs ys).2 ⟨HL.out, fun j hj => HS.out j (by omega)⟩
        rw [← HR.out, e]; rfl
  · have hlb : ((xs.length : Int) != (ys.length : Int)) = true := by simp; omega
    have e : alikes xs ys = false := by
      rw [← Bool.not_eq_true, alikes_iff]
      rintro ⟨h, _⟩
      exact hl h
    have HE := Aside0.mk (e.symm.trans hr)
    clear hl e hr
    go_enter Tryd.func21, Tryd.ntmps21
    go_wp2
    go_ret
    exact ⟨by rw [← HE.out]; rfl, Below.refl _ _⟩

set_option maxHeartbeats 2000000 in
set_option maxRecDepth 100000 in
theorem alike_step (x : S27) (H : ∀ j, j < x.f4.length → AlikeSaid (rd_T27 x.f4 (j : Int))) : AlikeSaid x := by
  constructor
  intro y r A4 c4 A5 c5 p6 p7 p8 A9 n9 c9 B4 d4 B5 d5 q6 q7 q8 B9 m9 d9 w hr g4 l4 g5 l5 q4 m4 q5 m5
  have L1 := Aside0.mk l4
  have L2 := Aside0.mk g4
  have L3 := Aside0.mk l5
  have L4 := Aside0.mk g5
  have M1 := Aside0.mk m4
  have M2 := Aside0.mk q4
  have M3 := Aside0.mk m5
  have M4 := Aside0.mk q5
  have HH := Aside0.mk H
  clear g4 l4 g5 l5 q4 m4 q5 m5 H
  have hu27 := Tryd.underlying27
  rw [alike_def] at hr
  by_cases e0 : x.f0 = y.f0
  · have b0 : (x.f0 == y.f0) = true := beq_iff_eq.2 e0
    by_cases e1 : x.f2 = y.f2
    · have b1 : (x.f2 == y.f2) = true := beq_iff_eq.2 e1
      by_cases e2 : x.f3.toList = y.f3.toList
      · have b2 : (x.f3.toList == y.f3.toList) = true := beq_iff_eq.2 e2
        rw [b0, b1, b2, Bool.true_and, Bool.true_and, Bool.true_and] at hr
        obtain ⟨t, ht⟩ : ∃ t, sames x.f5 y.f5 = t := ⟨_, rfl⟩
        rw [ht] at hr
        have HT := Aside0.mk ht
        clear ht e0 e1 e2
        cases t with
        | true =>
          rw [Bool.true_and] at hr
          have HR := Aside0.mk hr
          clear hr
          go_enter Tryd.func9, Tryd.ntmps9
          go_wp2_with (first | (go_at_call 19; (with_reducible refine (types_said _ _ _ _ _ _ true _ HT.out ?side1 L3.out ?side2 M3.out).mono ?_); (case side1 => repeat (first | exact L4.out | (with_reducible refine Kd.C_alloc ?_ _))); (case side2 => repeat (first | exact M4.out | (with_reducible refine Kd.C_alloc ?_ _))); rintro e w2 ⟨rfl, hb⟩; have HB := Aside0.mk (below_step (below_alloc (below_alloc (Below.refl w.heap.size w) _) _) hb); have hcc := (bcell hb).1; clear hb) | (go_at_call 21; (with_reducible refine (eq27 _ _ _ _ _ _ r _ HR.out ?side1 L1.out ?side2 M1.out HH.out).mono ?_); (case side1 => exact Kd.C_below L2.out HB.out); (case side2 => exact Kd.C_below M2.out HB.out); rintro e w3 ⟨rfl, hb⟩))
          go_ret
          exact ⟨rfl, below_step HB.out hb⟩
        | false =>
          rw [Bool.false_and] at hr
          subst hr
          go_enter Tryd.func9, Tryd.ntmps9
          go_wp2_with (go_at_call 19; (with_reducible refine (types_said _ _ _ _ _ _ false _ HT.out ?side1 L3.out ?side2 M3.out).mono ?_); (case side1 => repeat (first | exact L4.out | (with_reducible refine Kd.C_alloc ?_ _))); (case side2 => repeat (first | exact M4.out | (with_reducible refine Kd.C_alloc ?_ _))); rintro e w2 ⟨rfl, hb⟩)
          go_ret
          exact ⟨rfl, below_step (below_alloc (below_alloc (Below.refl _ _) _) _) hb⟩
      · have b2 := toList_beq_false e2
        rw [b0, b1, b2, Bool.true_and, Bool.true_and, Bool.false_and] at hr
        subst hr
        clear e0 e1 e2
        go_enter Tryd.func9, Tryd.ntmps9
        go_wp2
        go_ret
        exact ⟨rfl, below_alloc (below_alloc (Below.refl _ _) _) _⟩
    · have b1 := beq_false e1
      rw [b0, b1, Bool.true_and, Bool.false_and] at hr
      subst hr
      clear e0 e1
      go_enter Tryd.func9, Tryd.ntmps9
      go_wp2
      go_ret
      exact ⟨rfl, below_alloc (below_alloc (Below.refl _ _) _) _⟩
  · have b0 := beq_false e0
    rw [b0, Bool.false_and] at hr
    subst hr
    clear e0
    go_enter Tryd.func9, Tryd.ntmps9
    go_wp2
    go_ret
    exact ⟨rfl, below_alloc (below_alloc (Below.refl _ _) _) _⟩

theorem alike_said (x : S27) : AlikeSaid x := by
  have key : ∀ (n : Nat) (x : S27), SizeOf.sizeOf x < n → AlikeSaid x := by
    intro n
    induction n with
    | zero => intro x h; omega
    | succ n ih =>
      intro x h
      refine alike_step x (fun j hj => ih _ ?_)
      have h1 := List.sizeOf_lt_of_mem (rd27_mem hj)
      cases x with
      | mk _ _ _ _ _ _ _ => simp only [S27.mk.sizeOf_spec] at h; simp only at h1 ⊢; omega
  exact key _ x (Nat.lt_succ_self _)
end Go.Proofs.YtocjfdpknfnamaaDoor.Alike
