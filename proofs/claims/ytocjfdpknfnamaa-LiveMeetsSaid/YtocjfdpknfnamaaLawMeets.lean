/- The law LiveMeets holds for any two ranges, without condition. -/
import Derived.Test.YtocjfdpknfnamaaRows
import Derived.Test.YtocjfdpknfnamaaPLiveMeetsx2
import Derived.WalkKit
import Derived.ProofKit
import Derived.OpenShut
import Derived.ShutString
import Derived.ChangeOld
import Derived.Below
import Derived.SizedLaws
import Derived.Lib.SmallJoins
namespace Go.Proofs.Ytocjfdpknfnamaa.liveMeets
open Go.ChangeShapes Go.WideShapes Go.ChangeAt Go.RowKit Go.Joins
open Go.Proofs.Ytocjfdpknfnamaa.PLiveMeets
set_option linter.unusedVariables false

theorem meet_is (a0 a1 : Int) (a2 : Bool) (b0 b1 : Int) (b2 : Bool) : live_Meet.f a0 a1 a2 b0 b1 b2 = some (decide (a0 ≠ -1 ∧ b0 ≠ -1 ∧ ((a0 < b1 ∧ b0 < a1) ∨ a0 = b0))) := by
  unfold live_Meet.f
  by_cases h1 : a0 = -1
  · simp [h1]
  by_cases h2 : b0 = -1
  · simp [h1, h2]
  rw [if_neg h1, if_neg h2]
  have e : (a0 == b0) = decide (a0 = b0) := rfl
  by_cases h3 : a0 < b1
  · rw [if_pos h3]
    by_cases h4 : b0 < a1
    · rw [if_pos h4, decide_eq_true (⟨h1, h2, Or.inl ⟨h3, h4⟩⟩)]
    · rw [if_neg h4, e]; congr 1; rw [decide_eq_decide]; omega
  · rw [if_neg h3, e]; congr 1; rw [decide_eq_decide]; omega

theorem pure (a0 a1 : Int) (a2 : Bool) (b0 b1 : Int) (b2 : Bool) : ferrulelaw19_LiveMeets.f 1 a0 a1 a2 b0 b1 b2 = some true := by
  have e : ferrulelaw19_LiveMeets.j0 1 false = some true := by decide
  unfold ferrulelaw19_LiveMeets.f
  simp only [meet_is]
  simp only [Option.bind_some]
  have sym : (decide (a0 ≠ -1 ∧ b0 ≠ -1 ∧ ((a0 < b1 ∧ b0 < a1) ∨ a0 = b0)) != decide (b0 ≠ -1 ∧ a0 ≠ -1 ∧ ((b0 < a1 ∧ a0 < b1) ∨ b0 = a0))) = false := by
    rw [bne_eq_false_iff_eq, decide_eq_decide]; omega
  rw [sym, if_neg (by decide)]
  by_cases h : a0 = -1
  · rw [if_pos h, decide_eq_false (by omega)]; exact e
  · rw [if_neg h, if_pos (decide_eq_true ⟨h, h, Or.inr trivial⟩)]; exact e

theorem own : ownKnob Try.prog.godebug = none := by kernel_rfl
theorem laidOut : laidOutB Try.prog = true := by kernel_rfl
theorem cells23 : Try.prog.cellsOf 23 = 3 := by kernel_rfl

theorem walk (a0 a1 : Int) (a2 : Bool) (b0 b1 : Int) (b2 : Bool) (w : World) :
    Calls Try.prog 3 #[.agg #[.int .i64 a0, .int .i64 a1, .bool a2], .agg #[.int .i64 b0, .int .i64 b1, .bool b2]] w fun e w' => e = .returned (.bool true) ∧ Below w.heap.size w w' :=
  ferrulelaw19_LiveMeets.calls 1 a0 a1 a2 b0 b1 b2 true w (pure a0 a1 a2 b0 b1 b2)

set_option maxRecDepth 100000 in
theorem lifted (os : Os) (started : os.Started) (H : Type) (enc : TypeId × Value → H) :
    ReturnsInHanded {} Try.checked os 3 .any (Rows.liveMeetsSpec.pre6 enc Try.prog Try.f3 Rows.liveMeetsRow.domain false) (Rows.liveMeetsSpec.post enc Try.prog Try.f3 false true false false) := by
  refine returnsInHanded_of_change_sized (C := Try.checked) own started (by kernel_rfl) Try.func3
    (ChangeSpec.witness6 (enc := enc) (C := Try.checked) false ⟨#[], #[.agg #[.int .i64 0, .int .i64 0, .bool false], .agg #[.int .i64 0, .int .i64 0, .bool false]], []⟩ 8 (by kernel_rfl) (by kernel_rfl) (by kernel_rfl) (by kernel_rfl)) ?_
  intro W base args ds gs before hval0 hW hcnd hsz0 _
  have hval : ∀ (j : Nat) t v, Try.f3.params[j]? = some t → args[j]? = some v → Value.okWide Try.prog W .any base t v := hval0
  have hW' := hW
  obtain ⟨p, q, hA0, hV, rfl, hfz, hnd⟩ := hW
  have hA : DataW.TrodAll enc Try.prog W 0 (fun _ => true) true Try.f3.params.toList args.toList ds p := hA0
  rw [Try.params3] at hA hval
  obtain ⟨v0, vs0, d0, ds0, p0, q0, hargs, rfl, rfl, h0, r0⟩ := trodAll_cons hA
  obtain ⟨v1, vs1, d1, ds1, p1, q1, rfl, rfl, rfl, h1, r1⟩ := trodAll_cons r0
  obtain ⟨rfl, rfl, rfl⟩ := trodAll_nil r1
  obtain rfl : args = #[v0, v1] := by cases args; simp_all
  obtain ⟨rfl, rfl⟩ := trodVars_none hV
  have open1 : ∀ (j : Nat) (v : Value) (d : DataW H) (p : List MemPlace), Value.okWide Try.prog W .any base 23 v → DataW.Trod enc Try.prog W 0 (fun _ => true) true 23 v d p →
      ∃ (x y : Int) (z : Bool), v = .agg #[.int .i64 x, .int .i64 y, .bool z] := by
    intro j v d p hv h
    obtain ⟨c0, c1, c2, y0, y1, y2, m, rfl, rfl, rfl, hy0, hy1, hy2⟩ := open_agg3 Try.underlying23 (by kernel_rfl) cells23 hv h
    obtain ⟨x, e0, rfl, _⟩ := DataW.trod_int Try.underlying3 hy0
    obtain ⟨y, e1, rfl, _⟩ := DataW.trod_int Try.underlying3 hy1
    obtain ⟨z, e2, rfl⟩ := DataW.trod_bool Try.underlying4 hy2
    simp at e0 e1 e2
    subst e0 e1 e2
    exact ⟨x, y, z, rfl⟩
  obtain ⟨x0, y0, z0, rfl⟩ := open1 0 v0 d0 p0 (hval 0 23 v0 rfl rfl) h0
  obtain ⟨x1, y1, z1, rfl⟩ := open1 1 v1 d1 p1 (hval 1 23 v1 rfl rfl) h1
  clear hA0 hval0 hsz0
  have hlt : ∀ x ∈ p0 ++ (p1 ++ []), x.block < W.heap.size := fun x hx => hW'.lt x (by simpa using hx)
  refine (walk x0 y0 z0 x1 y1 z1 W).mono fun e W' ⟨he, bel⟩ => ?_
  subst he
  exact ⟨_, rfl, _, _, _, [], p0 ++ (p1 ++ []), [], hW', trodAll_mk1 (shut_bool Try.underlying4 _), (trodAll_cons_mk (Below.trod laidOut (by kernel_rfl) (of_decide_eq_true (by kernel_rfl)) h0 bel (fun x hx => hlt x (by simp [hx]))) (trodAll_cons_mk (Below.trod laidOut (by kernel_rfl) (of_decide_eq_true (by kernel_rfl)) h1 bel (fun x hx => hlt x (by simp [hx]))) trodAll_mk0)), rfl, bel.frame _, fun h => by cases h⟩
theorem over : Rows.liveMeetsRow.holds Try.pinned (OpenSpec.ofChange Rows.liveMeetsSpec) :=
  OpenClaim.holds_of_wide 3 Try.f3 rfl rfl rfl rfl rfl rfl rfl ⟨rfl, rfl, rfl, rfl, rfl⟩ rfl rfl rfl rfl rfl (by kernel_rfl) Try.func3 (by kernel_rfl)
    (of_decide_eq_true (by kernel_rfl)) (by unfold Func.isWrapper; first | (rw [if_pos (by decide +kernel)]; kernel_rfl) | (rw [if_neg (by decide +kernel)]; exact ⟨rfl, rfl⟩))
    (fun os started H enc _ => lifted os started H enc)
theorem proved : Rows.LiveMeetsSaid := over
#print axioms proved
end Go.Proofs.Ytocjfdpknfnamaa.liveMeets
namespace Go.Proofs.Ytocjfdpknfnamaa
/-- The row, under a short name, for the claim. -/
theorem liveMeets_holds : Rows.LiveMeetsSaid := liveMeets.proved
end Go.Proofs.Ytocjfdpknfnamaa
