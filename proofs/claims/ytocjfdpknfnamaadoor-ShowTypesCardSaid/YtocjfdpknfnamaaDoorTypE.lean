/- The plain law of ShowTypes, third part: the reference's trees are alike where show's are. -/
import Derived.Test.YtocjfdpknfnamaaDoorTypD
namespace Go.Proofs.YtocjfdpknfnamaaDoor.Typ
open Go.RowKit Go.Proofs.YtocjfdpknfnamaaDoor.PShowTypes Go.Proofs.YtocjfdpknfnamaaDoorW.PrintWords Go.Proofs.YtocjfdpknfnamaaDoorW.PrintLast Go.Proofs.YtocjfdpknfnamaaDoorW.PrintMore
open Go.Proofs.YtocjfdpknfnamaaDoor.Alike
set_option linter.unusedVariables false

abbrev refS (k : Nat) (x y : S24) : Option Bool := ferruleref04_same.f k x.f0 x.f1 x.f2 x.f3 y.f0 y.f1 y.f2 y.f3
abbrev refSL (k : Nat) (i : Int) (x y : S24) : Option Bool := ferruleref04_same.l0 k i x.f0 x.f1 x.f2 x.f3 y.f0 y.f1 y.f2 y.f3
theorem refS_le {k k' : Nat} (h : k ≤ k') {x y : S24} {r : Bool} (hr : refS k x y = some r) : refS k' x y = some r :=
  at_rounds (fun k => (ferruleref04_same.mono_l k).1 _ _ _ _ _ _ _ _) h hr
theorem refSL_le {k k' : Nat} (h : k ≤ k') {i : Int} {x y : S24} {r : Bool} (hr : refSL k i x y = some r) : refSL k' i x y = some r :=
  at_rounds (fun k => (ferruleref04_same.mono_l k).2.2 _ _ _ _ _ _ _ _ _) h hr
theorem loopS (x y : S24) (hl : x.f3.length = y.f3.length) (hm : x.f3.length ≤ 9223372036854775807)
    (H : ∀ j : Nat, j < x.f3.length → ∃ k, refS k (rd_T24 x.f3 (j : Int)) (rd_T24 y.f3 (j : Int)) = some (same (rd_T24 x.f3 (j : Int)) (rd_T24 y.f3 (j : Int)))) (d : Nat) :
    ∀ i : Nat, i + d = x.f3.length → ∃ k b, refSL k (i : Int) x y = some b ∧ (b = true ↔ ∀ j : Nat, i ≤ j → j < x.f3.length → same (rd_T24 x.f3 (j : Int)) (rd_T24 y.f3 (j : Int)) = true) := by
  induction d with
  | zero =>
    intro i hi
    refine ⟨1, true, ?_, by simp; intro j h1 h2; omega⟩
    simp only [refSL]
    rw [ferruleref04_same.l0, if_neg (by omega)]
  | succ d ih =>
    intro i hi
    obtain ⟨k1, h1⟩ := H i (by omega)
    have hw : wrap64 ((i : Int) + 1) = ((i + 1 : Nat) : Int) := by unfold wrap64; omega
    cases hb : same (rd_T24 x.f3 (i : Int)) (rd_T24 y.f3 (i : Int)) with
    | false =>
      refine ⟨k1 + 1, false, ?_, ?_⟩
      · simp only [refSL]
        simp only [refS] at h1
        rw [ferruleref04_same.l0, if_pos (by omega), if_pos (by omega), if_pos (by omega), h1, hb]; rfl
      · constructor
        · intro h; cases h
        · intro h; rw [h i (Nat.le_refl _) (by omega)] at hb; exact hb.symm
    | true =>
      obtain ⟨k2, b, h2, h3⟩ := ih (i + 1) (by omega)
      refine ⟨max k1 k2 + 1, b, ?_, ?_⟩
      · have e1 := refS_le (Nat.le_max_left k1 k2) h1
        have e2 := refSL_le (Nat.le_max_right k1 k2) h2
        simp only [refSL] at e2 ⊢
        simp only [refS] at e1
        rw [ferruleref04_same.l0, if_pos (by omega), if_pos (by omega), if_pos (by omega), e1, hb, hw]
        simp only [Option.bind_some]
        rw [if_pos trivial]
        exact e2
      · rw [h3]
        constructor
        · intro h j h4 h5
          by_cases e : j = i
          · subst e; exact hb
          · exact h j (by omega) h5
        · intro h j h4 h5; exact h j (by omega) h5

theorem ref_same : ∀ (n : Nat) (x y : S24), SizeOf.sizeOf x < n → Named x → ∃ k, refS k x y = some (same x y) := by
  intro n
  induction n with
  | zero => intro x y h; omega
  | succ n ih =>
    intro x y h hn
    cases hn with
    | mk _ h1 h2 h3 hm h4 =>
    rw [same_def]
    have leave : ∀ k : Nat, ferruleref04_same.j0 (k + 1) true x.f0 x.f1 x.f2 x.f3 y.f0 y.f1 y.f2 y.f3 = some false := fun k => by
      rw [ferruleref04_same.j0, if_pos rfl]
    by_cases e0 : x.f0 = y.f0
    · by_cases e1 : x.f1.toList = y.f1.toList
      · by_cases e2 : x.f2 = y.f2
        · have b0 : (x.f0 == y.f0 && (x.f1.toList == y.f1.toList && (x.f2 == y.f2 && sames x.f3 y.f3))) = sames x.f3 y.f3 := by simp [e0, e1, e2]
          rw [b0]
          by_cases hl : x.f3.length = y.f3.length
          · obtain ⟨k, b, hk, hb⟩ := loopS x y hl hm (fun j hj => ih _ _ (by
              have h1 := List.sizeOf_lt_of_mem (rd24_mem hj)
              cases x with
              | mk k n c e => simp only [S24.mk.sizeOf_spec] at h; simp only at h1 ⊢; omega) (h4 _ (rd24_mem hj))) x.f3.length 0 (by omega)
            refine ⟨k + 2, ?_⟩
            simp only [refS]
            rw [ferruleref04_same.f, if_pos e0, if_pos e1, if_pos e2, ferruleref04_same.j0, if_neg (by simp; omega)]
            simp only [refSL] at hk
            rw [show (0 : Int) = ((0 : Nat) : Int) from rfl, hk]
            congr 1
            rw [Bool.eq_iff_iff, hb, sames_iff]
            constructor
            · intro h; exact ⟨hl, fun j hj => h j (by omega) hj⟩
            · intro h j _ hj; exact h.2 j hj
          · refine ⟨2, ?_⟩
            simp only [refS]
            rw [ferruleref04_same.f, if_pos e0, if_pos e1, if_pos e2, show ((x.f3.length : Int) != (y.f3.length : Int)) = true by simp; omega, leave]
            congr 1
            symm
            rw [← Bool.not_eq_true, sames_iff]
            rintro ⟨h, _⟩; exact hl h
        · refine ⟨2, ?_⟩
          simp only [refS]
          rw [ferruleref04_same.f, if_pos e0, if_pos e1, if_neg e2, leave]
          simp [e2]
      · refine ⟨2, ?_⟩
        simp only [refS]
        rw [ferruleref04_same.f, if_pos e0, if_neg e1, leave]
        simp [e1]
    · refine ⟨2, ?_⟩
      simp only [refS]
      rw [ferruleref04_same.f, if_neg e0, leave]
      simp [e0]

/-! ### trees -/
inductive NamedE : S27 → Prop
  | mk (x : S27) : x.f4.length ≤ 9223372036854775807 → x.f5.length ≤ 9223372036854775807 → (∀ y ∈ x.f5, Named y) → (∀ y ∈ x.f4, NamedE y) → NamedE x
abbrev refA (k : Nat) (x y : S27) : Option Bool := ferruleref04_Alike.f k x.f0 x.f1 x.f2 x.f3 x.f4 x.f5 x.f6.f0 x.f6.f1 x.f6.f2 x.f6.f3 y.f0 y.f1 y.f2 y.f3 y.f4 y.f5 y.f6.f0 y.f6.f1 y.f6.f2 y.f6.f3
abbrev refAL (k : Nat) (i : Int) (x y : S27) : Option Bool := ferruleref04_Alike.l0 k i x.f0 x.f1 x.f2 x.f3 x.f4 x.f5 x.f6.f0 x.f6.f1 x.f6.f2 x.f6.f3 y.f0 y.f1 y.f2 y.f3 y.f4 y.f5 y.f6.f0 y.f6.f1 y.f6.f2 y.f6.f3
abbrev refAM (k : Nat) (i : Int) (x y : S27) : Option Bool := ferruleref04_Alike.l1 k i x.f0 x.f1 x.f2 x.f3 x.f4 x.f5 x.f6.f0 x.f6.f1 x.f6.f2 x.f6.f3 y.f0 y.f1 y.f2 y.f3 y.f4 y.f5 y.f6.f0 y.f6.f1 y.f6.f2 y.f6.f3
theorem refA_le {k k' : Nat} (h : k ≤ k') {x y : S27} {r : Bool} (hr : refA k x y = some r) : refA k' x y = some r :=
  at_rounds (fun k => (ferruleref04_Alike.mono_l k).1 _ _ _ _ _ _ _ _ _ _ _ _ _ _ _ _ _ _ _ _) h hr
theorem refAL_le {k k' : Nat} (h : k ≤ k') {i : Int} {x y : S27} {r : Bool} (hr : refAL k i x y = some r) : refAL k' i x y = some r :=
  at_rounds (fun k => (ferruleref04_Alike.mono_l k).2.2.1 _ _ _ _ _ _ _ _ _ _ _ _ _ _ _ _ _ _ _ _ _) h hr
theorem refAM_le {k k' : Nat} (h : k ≤ k') {i : Int} {x y : S27} {r : Bool} (hr : refAM k i x y = some r) : refAM k' i x y = some r :=
  at_rounds (fun k => (ferruleref04_Alike.mono_l k).2.2.2 _ _ _ _ _ _ _ _ _ _ _ _ _ _ _ _ _ _ _ _ _) h hr
theorem loopM (x y : S27) (hl : x.f4.length = y.f4.length) (hm : x.f4.length ≤ 9223372036854775807)
    (H : ∀ j : Nat, j < x.f4.length → ∃ k, refA k (rd_T27 x.f4 (j : Int)) (rd_T27 y.f4 (j : Int)) = some (alike (rd_T27 x.f4 (j : Int)) (rd_T27 y.f4 (j : Int)))) (d : Nat) :
    ∀ i : Nat, i + d = x.f4.length → ∃ k b, refAM k (i : Int) x y = some b ∧ (b = true ↔ ∀ j : Nat, i ≤ j → j < x.f4.length → alike (rd_T27 x.f4 (j : Int)) (rd_T27 y.f4 (j : Int)) = true) := by
  induction d with
  | zero =>
    intro i hi
    refine ⟨1, true, ?_, by simp; intro j h1 h2; omega⟩
    simp only [refAM]
    rw [ferruleref04_Alike.l1, if_neg (by omega)]
  | succ d ih =>
    intro i hi
    obtain ⟨k1, h1⟩ := H i (by omega)
    have hw : wrap64 ((i : Int) + 1) = ((i + 1 : Nat) : Int) := by unfold wrap64; omega
    cases hb : alike (rd_T27 x.f4 (i : Int)) (rd_T27 y.f4 (i : Int)) with
    | false =>
      refine ⟨k1 + 1, false, ?_, ?_⟩
      · simp only [refAM]
        simp only [refA] at h1
        rw [ferruleref04_Alike.l1, if_pos (by omega), if_pos (by omega), if_pos (by omega), h1, hb]; rfl
      · constructor
        · intro h; cases h
        · intro h; rw [h i (Nat.le_refl _) (by omega)] at hb; exact hb.symm
    | true =>
      obtain ⟨k2, b, h2, h3⟩ := ih (i + 1) (by omega)
      refine ⟨max k1 k2 + 1, b, ?_, ?_⟩
      · have e1 := refA_le (Nat.le_max_left k1 k2) h1
        have e2 := refAM_le (Nat.le_max_right k1 k2) h2
        simp only [refAM] at e2 ⊢
        simp only [refA] at e1
        rw [ferruleref04_Alike.l1, if_pos (by omega), if_pos (by omega), if_pos (by omega), e1, hb, hw]
        simp only [Option.bind_some]
        rw [if_pos trivial]
        exact e2
      · rw [h3]
        constructor
        · intro h j h4 h5
          by_cases e : j = i
          · subst e; exact hb
          · exact h j (by omega) h5
        · intro h j h4 h5; exact h j (by omega) h5
/-- The types' loop: it leaves with false, or goes on to the kids' loop. -/
theorem loopL (x y : S27) (hl : x.f5.length = y.f5.length) (hm : x.f5.length ≤ 9223372036854775807) (hn : ∀ z ∈ x.f5, Named z) (km : Nat) (bm : Bool) (hM : refAM km 0 x y = some bm) (d : Nat) :
    ∀ i : Nat, i + d = x.f5.length → ∃ k b, refAL k (i : Int) x y = some b ∧ (b = true ↔ (∀ j : Nat, i ≤ j → j < x.f5.length → same (rd_T24 x.f5 (j : Int)) (rd_T24 y.f5 (j : Int)) = true) ∧ bm = true) := by
  induction d with
  | zero =>
    intro i hi
    refine ⟨km + 1, bm, ?_, ?_⟩
    · simp only [refAL]
      rw [ferruleref04_Alike.l0, if_neg (by omega)]
      exact hM
    · constructor
      · intro h; exact ⟨fun j h1 h2 => by omega, h⟩
      · exact fun h => h.2
  | succ d ih =>
    intro i hi
    obtain ⟨k1, h1⟩ := ref_same _ (rd_T24 x.f5 (i : Int)) (rd_T24 y.f5 (i : Int)) (Nat.lt_succ_self _) (hn _ (rd24_mem (by omega)))
    have hw : wrap64 ((i : Int) + 1) = ((i + 1 : Nat) : Int) := by unfold wrap64; omega
    cases hb : same (rd_T24 x.f5 (i : Int)) (rd_T24 y.f5 (i : Int)) with
    | false =>
      refine ⟨k1 + 1, false, ?_, ?_⟩
      · simp only [refAL]
        simp only [refS] at h1
        rw [ferruleref04_Alike.l0, if_pos (by omega), if_pos (by omega), if_pos (by omega), h1, hb]; rfl
      · constructor
        · intro h; cases h
        · intro h; rw [h.1 i (Nat.le_refl _) (by omega)] at hb; exact hb.symm
    | true =>
      obtain ⟨k2, b, h2, h3⟩ := ih (i + 1) (by omega)
      refine ⟨max k1 k2 + 1, b, ?_, ?_⟩
      · have e1 := refS_le (Nat.le_max_left k1 k2) h1
        have e2 := refAL_le (Nat.le_max_right k1 k2) h2
        simp only [refAL] at e2 ⊢
        simp only [refS] at e1
        rw [ferruleref04_Alike.l0, if_pos (by omega), if_pos (by omega), if_pos (by omega), e1, hb, hw]
        simp only [Option.bind_some]
        rw [if_pos trivial]
        exact e2
      · rw [h3]
        constructor
        · rintro ⟨h, hb2⟩
          refine ⟨fun j h4 h5 => ?_, hb2⟩
          by_cases e : j = i
          · subst e; exact hb
          · exact h j (by omega) h5
        · rintro ⟨h, hb2⟩; exact ⟨fun j h4 h5 => h j (by omega) h5, hb2⟩

theorem ref_alike : ∀ (n : Nat) (x y : S27), SizeOf.sizeOf x < n → NamedE x → ∃ k, refA k x y = some (alike x y) := by
  intro n
  induction n with
  | zero => intro x y h; omega
  | succ n ih =>
    intro x y h hn
    cases hn with
    | mk _ hm4 hm5 hn5 hn4 =>
    rw [alike_def]
    have leave : ∀ k : Nat, ferruleref04_Alike.j0 (k + 1) true x.f0 x.f1 x.f2 x.f3 x.f4 x.f5 x.f6.f0 x.f6.f1 x.f6.f2 x.f6.f3 y.f0 y.f1 y.f2 y.f3 y.f4 y.f5 y.f6.f0 y.f6.f1 y.f6.f2 y.f6.f3 = some false := fun k => by
      rw [ferruleref04_Alike.j0, if_pos rfl]
    by_cases e0 : x.f0 = y.f0
    · by_cases e1 : x.f2 = y.f2
      · by_cases e2 : x.f3.toList = y.f3.toList
        · have b0 : (x.f0 == y.f0 && (x.f2 == y.f2 && (x.f3.toList == y.f3.toList && (sames x.f5 y.f5 && alikes x.f4 y.f4)))) = (sames x.f5 y.f5 && alikes x.f4 y.f4) := by simp [e0, e1, e2]
          rw [b0]
          by_cases hl5 : x.f5.length = y.f5.length
          · by_cases hl : x.f4.length = y.f4.length
            · obtain ⟨km, bm, hkm, hbm⟩ := loopM x y hl hm4 (fun j hj => ih _ _ (by
                have h1 := List.sizeOf_lt_of_mem (rd27_mem hj)
                cases x with
                | mk k a n s e t u => simp only [S27.mk.sizeOf_spec] at h; simp only at h1 ⊢; omega) (hn4 _ (rd27_mem hj))) x.f4.length 0 (by omega)
              obtain ⟨k, b, hk, hb⟩ := loopL x y hl5 hm5 hn5 km bm hkm x.f5.length 0 (by omega)
              refine ⟨k + 2, ?_⟩
              simp only [refA]
              rw [ferruleref04_Alike.f, if_pos e0, if_pos e1, if_pos e2, if_pos (by omega), ferruleref04_Alike.j0, if_neg (by simp; omega)]
              simp only [refAL] at hk
              rw [show (0 : Int) = ((0 : Nat) : Int) from rfl, hk]
              congr 1
              rw [Bool.eq_iff_iff, hb, hbm, Bool.and_eq_true, sames_iff, alikes_iff]
              constructor
              · rintro ⟨h, h'⟩; exact ⟨⟨hl5, fun j hj => h j (by omega) hj⟩, ⟨hl, fun j hj => h' j (by omega) hj⟩⟩
              · rintro ⟨h, h'⟩; exact ⟨fun j _ hj => h.2 j hj, fun j _ hj => h'.2 j hj⟩
            · refine ⟨2, ?_⟩
              simp only [refA]
              rw [ferruleref04_Alike.f, if_pos e0, if_pos e1, if_pos e2, if_pos (by omega), show ((x.f4.length : Int) != (y.f4.length : Int)) = true by simp; omega, leave]
              congr 1
              symm
              rw [← Bool.not_eq_true, Bool.and_eq_true, alikes_iff]
              rintro ⟨_, h, _⟩; exact hl h
          · refine ⟨2, ?_⟩
            simp only [refA]
            rw [ferruleref04_Alike.f, if_pos e0, if_pos e1, if_pos e2, if_neg (by omega), leave]
            congr 1
            symm
            rw [← Bool.not_eq_true, Bool.and_eq_true, sames_iff]
            rintro ⟨⟨h, _⟩, _⟩; exact hl5 h
        · refine ⟨2, ?_⟩
          simp only [refA]
          rw [ferruleref04_Alike.f, if_pos e0, if_pos e1, if_neg e2, leave]
          simp [e2]
      · refine ⟨2, ?_⟩
        simp only [refA]
        rw [ferruleref04_Alike.f, if_pos e0, if_neg e1, leave]
        simp [e1]
    · refine ⟨2, ?_⟩
      simp only [refA]
      rw [ferruleref04_Alike.f, if_neg e0, leave]
      simp [e0]
end Go.Proofs.YtocjfdpknfnamaaDoor.Typ
