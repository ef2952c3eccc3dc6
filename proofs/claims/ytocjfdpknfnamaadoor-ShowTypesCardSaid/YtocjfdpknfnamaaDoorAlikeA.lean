/- Two types, or two trees, are alike: as plain functions; and the walks of show.same and slices.EqualFunc over types. -/
import Derived.Test.YtocjfdpknfnamaaDoorPShowTypesx0
import Derived.WalkLawsBesides
namespace Go.Proofs.YtocjfdpknfnamaaDoor.Alike
open Go.RowKit Go.Proofs.YtocjfdpknfnamaaDoor.PShowTypes Go.Proofs.YtocjfdpknfnamaaDoorW.PrintWords Go.Proofs.YtocjfdpknfnamaaDoorW.PrintLast Go.Proofs.YtocjfdpknfnamaaDoorW.PrintMore
set_option linter.unusedVariables false

mutual
def same : S24 → S24 → Bool
  | ⟨k, n, c, e⟩, b => k == b.f0 && (n.toList == b.f1.toList && (c == b.f2 && sames e b.f3))
def sames : List S24 → List S24 → Bool
  | [], [] => true
  | x :: xs, y :: ys => same x y && sames xs ys
  | [], _ :: _ => false
  | _ :: _, [] => false
end
mutual
def alike : S27 → S27 → Bool
  | ⟨k, _, n, s, l, t, _⟩, b => k == b.f0 && (n == b.f2 && (s.toList == b.f3.toList && (sames t b.f5 && alikes l b.f4)))
def alikes : List S27 → List S27 → Bool
  | [], [] => true
  | x :: xs, y :: ys => alike x y && alikes xs ys
  | [], _ :: _ => false
  | _ :: _, [] => false
end

theorem same_def (a b : S24) : same a b = (a.f0 == b.f0 && (a.f1.toList == b.f1.toList && (a.f2 == b.f2 && sames a.f3 b.f3))) := by
  cases a; simp only [same]
theorem alike_def (a b : S27) : alike a b = (a.f0 == b.f0 && (a.f2 == b.f2 && (a.f3.toList == b.f3.toList && (sames a.f5 b.f5 && alikes a.f4 b.f4)))) := by
  cases a; simp only [alike]

theorem sames_iff : ∀ (xs ys : List S24), sames xs ys = true ↔ xs.length = ys.length ∧ ∀ j, j < xs.length → same (rd_T24 xs (j : Int)) (rd_T24 ys (j : Int)) = true
  | [], [] => by simp [sames]
  | x :: xs, y :: ys => by
    simp only [sames, Bool.and_eq_true, sames_iff xs ys, List.length_cons, Nat.add_right_cancel_iff]
    constructor
    · rintro ⟨h0, hl, h⟩
      refine ⟨hl, fun j hj => ?_⟩
      cases j with
      | zero => exact h0
      | succ j => exact h j (by omega)
    · rintro ⟨hl, h⟩
      exact ⟨h 0 (by omega), hl, fun j hj => h (j + 1) (by omega)⟩
  | [], _ :: _ => by simp [sames]
  | _ :: _, [] => by simp [sames]
theorem alikes_iff : ∀ (xs ys : List S27), alikes xs ys = true ↔ xs.length = ys.length ∧ ∀ j, j < xs.length → alike (rd_T27 xs (j : Int)) (rd_T27 ys (j : Int)) = true
  | [], [] => by simp [alikes]
  | x :: xs, y :: ys => by
    simp only [alikes, Bool.and_eq_true, alikes_iff xs ys, List.length_cons, Nat.add_right_cancel_iff]
    constructor
    · rintro ⟨h0, hl, h⟩
      refine ⟨hl, fun j hj => ?_⟩
      cases j with
      | zero => exact h0
      | succ j => exact h j (by omega)
    · rintro ⟨hl, h⟩
      exact ⟨h 0 (by omega), hl, fun j hj => h (j + 1) (by omega)⟩
  | [], _ :: _ => by simp [alikes]
  | _ :: _, [] => by simp [alikes]

mutual
theorem same_self : ∀ a : S24, same a a = true
  | ⟨k, n, c, e⟩ => by simp [same, sames_self e]
theorem sames_self : ∀ l : List S24, sames l l = true
  | [] => by simp [sames]
  | x :: xs => by simp [sames, same_self x, sames_self xs]
end
mutual
theorem alike_self : ∀ a : S27, alike a a = true
  | ⟨k, _, n, s, l, t, _⟩ => by simp [alike, sames_self t, alikes_self l]
theorem alikes_self : ∀ l : List S27, alikes l l = true
  | [] => by simp [alikes]
  | x :: xs => by simp [alikes, alike_self x, alikes_self xs]
end

/-- What a call of show.same comes to. -/
structure SameSaid (x : S24) : Prop where
  go : ∀ (y : S24) (r : Bool) (A : Option Addr) (c : Nat) (A' : Option Addr) (c' : Nat) (w : World), same x y = r → k24.C w A x.f3.length x.f3 → x.f3.length ≤ c → k24.C w A' y.f3.length y.f3 → y.f3.length ≤ c' →
  Calls Tryd.prog 20 #[.agg #[.int .i64 x.f0, .string x.f1, .int .i64 x.f2, .slice A x.f3.length c], .agg #[.int .i64 y.f0, .string y.f1, .int .i64 y.f2, .slice A' y.f3.length c']] w fun e w' => e = .returned (.bool r) ∧ Below w.heap.size w w'

set_option maxHeartbeats 1000000 in
set_option maxRecDepth 100000 in
theorem eq24 (xs ys : List S24) (A : Option Addr) (c : Nat) (A' : Option Addr) (c' : Nat) (r : Bool) (w : World) (hr : sames xs ys = r) (hx : k24.C w A xs.length xs) (hc : xs.length ≤ c) (hy : k24.C w A' ys.length ys) (hc' : ys.length ≤ c')
    (H : ∀ j, j < xs.length → SameSaid (rd_T24 xs (j : Int))) :
    Calls Tryd.prog 19 #[.slice A xs.length c, .slice A' ys.length c', .func (.func 20) #[] #[]] w fun e w' => e = .returned (.bool r) ∧ Below w.heap.size w w' := by
  have hm := Kd.C_max hx
  have hm' := Kd.C_max hy
  have HX := Aside0.mk hx
  have HY := Aside0.mk hy
  have HH := Aside0.mk H
  have hu24 := Tryd.underlying24
  clear hx hy H
  by_cases hl : xs.length = ys.length
  · have hlb : ((xs.length : Int) != (ys.length : Int)) = false := by simp [hl]
    have HL := Aside0.mk hl
    clear hl
    have HR := Aside0.mk hr
    clear hr
    go_enter Tryd.func19, Tryd.ntmps19
    go_wp2_with fail
    go_loopw [17] (fun v w' => ∃ i : Int, v = .int .i64 i ∧ 0 ≤ i ∧ i ≤ xs.length ∧ Aside0 (∀ j : Nat, (j : Int) < i → same (rd_T24 xs (j : Int)) (rd_T24 ys (j : Int)) = true) ∧ Aside0 (Below w.heap.size w w')) (fun i _ => xs.length - (intOf i).toNat)
    case atStart => exact ⟨0, rfl, by omega, by omega, ⟨fun j hj => by omega⟩, ⟨Below.refl _ _⟩⟩
    case round =>
      obtain ⟨i, rfl, hi0, hi1, HS, HB⟩ := hrel
      by_cases hlt : i < xs.length
      · obtain ⟨ad, A3, c3, e1, hx0, hx1, hx2, hx3, hl3, hi3⟩ := at_T24 HX.out i hi0 hlt
        obtain ⟨ad', B3, d3, e2, hy0, hy1, hy2, hy3, hm3, hj3⟩ := at_T24 HY.out i hi0 (by have := HL.out; omega)
        cases e1; cases e2
        replace hx0 := (HB.out.cell (World.block_lt_of_cell? w _ hx0)).trans hx0
        replace hx1 := (HB.out.cell (World.block_lt_of_cell? w _ hx1)).trans hx1
        replace hx2 := (HB.out.cell (World.block_lt_of_cell? w _ hx2)).trans hx2
        replace hx3 := (HB.out.cell (World.block_lt_of_cell? w _ hx3)).trans hx3
        replace hy0 := (HB.out.cell (World.block_lt_of_cell? w _ hy0)).trans hy0
        replace hy1 := (HB.out.cell (World.block_lt_of_cell? w _ hy1)).trans hy1
        replace hy2 := (HB.out.cell (World.block_lt_of_cell? w _ hy2)).trans hy2
        replace hy3 := (HB.out.cell (World.block_lt_of_cell? w _ hy3)).trans hy3
        have hlt' : i < ys.length := by have := HL.out; omega
        have hb2 : (ad'.add (i.toNat * 4)).block < wr.heap.size := World.block_lt_of_cell? wr _ hy0
        obtain ⟨k, hk⟩ : ∃ k : Nat, (k : Int) = i := ⟨i.toNat, by omega⟩
        have hkl : k < xs.length := by omega
        have HQ0 := HH.out k hkl
        rw [hk] at HQ0
        have HK := Aside0.mk hk
        clear hk hkl
        obtain ⟨q, hq⟩ : ∃ q, same (rd_T24 xs i) (rd_T24 ys i) = q := ⟨_, rfl⟩
        have HQ1 := Aside0.mk hq
        clear hq
        have L1 := Aside0.mk hl3
        have L2 := Aside0.mk hi3
        have L3 := Aside0.mk hm3
        have L4 := Aside0.mk hj3
        clear hl3 hi3 hm3 hj3
        cases q with
        | true =>
          go_wp2_with (go_at_call 20; (with_reducible refine (HQ0.go _ true _ _ _ _ _ HQ1.out ?side1 L1.out ?side2 L3.out).mono ?_); (case side1 => repeat (first | exact Kd.C_below L2.out HB.out | (with_reducible refine Kd.C_alloc ?_ _))); (case side2 => repeat (first | exact Kd.C_below L4.out HB.out | (with_reducible refine Kd.C_alloc ?_ _))); rintro e w2 ⟨rfl, hb⟩)
          go_roundw
          case measure => simp [intOf]; omega
          case rel =>
            have hs : ∀ j : Nat, (j : Int) < i + 1 → same (rd_T24 xs (j : Int)) (rd_T24 ys (j : Int)) = true := by
              intro j hj
              by_cases e : (j : Int) < i
              · exact HS.out j e
              · have e2 : (j : Int) = i := by omega
                rw [e2]; exact HQ1.out
            exact ⟨i + 1, rfl, by omega, by omega, ⟨hs⟩, ⟨below_step (below_alloc (below_alloc HB.out _) _) hb⟩⟩
        | false =>
          go_wp2_with (go_at_call 20; (with_reducible refine (HQ0.go _ false _ _ _ _ _ HQ1.out ?side1 L1.out ?side2 L3.out).mono ?_); (case side1 => repeat (first | exact Kd.C_below L2.out HB.out | (with_reducible refine Kd.C_alloc ?_ _))); (case side2 => repeat (first | exact Kd.C_below L4.out HB.out | (with_reducible refine Kd.C_alloc ?_ _))); rintro e w2 ⟨rfl, hb⟩)
          go_ret
          refine ⟨?_, below_step (below_alloc (below_alloc HB.out _) _) hb⟩
          have e : sames xs ys = false := by
            rw [← Bool.not_eq_true, sames_iff]
            rintro ⟨_, h⟩
            have := h i.toNat (by omega)
            rw [show ((i.toNat : Nat) : Int) = i by omega, HQ1.out] at this
            cases this
          rw [← HR.out, e]; rfl
      · have hd : decide (i < (xs.length : Int)) = false := decide_eq_false hlt
        go_wp2
        go_ret
        refine ⟨?_, HB.out⟩
        have e : sames xs ys = true := (sames_iff xs ys).2 ⟨HL.out, fun j hj => HS.out j (by omega)⟩
        rw [← HR.out, e]; rfl
  · have hlb : ((xs.length : Int) != (ys.length : Int)) = true := by simp; omega
    have e : sames xs ys = false := by
      rw [← Bool.not_eq_true, sames_iff]
      rintro ⟨h, _⟩
      exact hl h
    have HE := Aside0.mk (e.symm.trans hr)
    clear hl e hr
    go_enter Tryd.func19, Tryd.ntmps19
    go_wp2
    go_ret
    exact ⟨by rw [← HE.out]; rfl, Below.refl _ _⟩
end Go.Proofs.YtocjfdpknfnamaaDoor.Alike
