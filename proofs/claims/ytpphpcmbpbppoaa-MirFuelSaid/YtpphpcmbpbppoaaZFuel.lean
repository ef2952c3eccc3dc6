/- The law MirFuel holds for any functions, any input and any fuel, without condition. -/
import Derived.Test.YtpphpcmbpbppoaaZFuel16
import Derived.Test.YtpphpcmbpbppoaaRows
import Derived.WalkKit
import Derived.ProofKit
import Derived.OpenShut
import Derived.ShutString
import Derived.ChangeOld
import Derived.Below
import Derived.SizedLaws
import Derived.WideKeyPair
namespace Go.Proofs.Ytpphpcmbpbppoaa.mirFuel
open Go.ChangeShapes Go.WideShapes Go.ChangeAt Go.RowKit
open Go.Proofs.Ytpphpcmbpbppoaa.Opens Go.Proofs.Ytpphpcmbpbppoaa.OpenK
open Go.Proofs.Ytpphpcmbpbppoaa.Form (SzL SzF)
set_option linter.unusedVariables false
theorem own : ownKnob Try.prog.godebug = none := by kernel_rfl
theorem laidOut : laidOutB Try.prog = true := by kernel_rfl
theorem pairKey : WideMaps.ArrKey Try.prog 24 3 2 := ⟨Try.underlying24, by kernel_rfl, by kernel_rfl, by kernel_rfl⟩
set_option maxRecDepth 100000 in
theorem lifted (os : Os) (started : os.Started) (H : Type) (enc : TypeId × Value → H) :
    ReturnsInHanded {} Try.checked os 3 .any (Rows.mirFuelSpec.pre6 enc Try.prog Try.f3 Rows.mirFuelRow.domain false) (Rows.mirFuelSpec.post enc Try.prog Try.f3 false true false false) := by
  refine returnsInHanded_of_change_sized (C := Try.checked) own started (by kernel_rfl) Try.func3
    (ChangeSpec.witness6 (enc := enc) (C := Try.checked) false ⟨#[], #[.slice none 0 0, .slice none 0 0, .agg #[.int .i64 0, .int .i64 0]], []⟩ 8 (by kernel_rfl) (by kernel_rfl) (by kernel_rfl) (by kernel_rfl)) ?_
  intro W base args ds gs before hval0 hW hcnd hsz0 _
  have hsz : (DataW.weightsEach Try.prog (Try.f3.params.toList ++ Rows.mirFuelSpec.plain.varTypes Try.prog) (ds ++ gs)).all (· ≤ reachBytes) = true := hsz0
  have hval : ∀ (j : Nat) t v, Try.f3.params[j]? = some t → args[j]? = some v → Value.okWide Try.prog W .any base t v := hval0
  have hW' := hW
  obtain ⟨p, q, hA0, hV, rfl, hfz, hnd⟩ := hW
  have hA : DataW.TrodAll enc Try.prog W 0 (fun _ => true) true Try.f3.params.toList args.toList ds p := hA0
  rw [Try.params3] at hA hval hsz
  obtain ⟨v0, vs0, d0, ds0, p0, q0, hargs, rfl, rfl, h0, r0⟩ := trodAll_cons hA
  obtain ⟨v1, vs1, d1, ds1, p1, q1, rfl, rfl, rfl, h1, r1⟩ := trodAll_cons r0
  obtain ⟨v2, vs2, d2, ds2, p2, q2, rfl, rfl, rfl, h2, r2⟩ := trodAll_cons r1
  obtain ⟨rfl, rfl, rfl⟩ := trodAll_nil r2
  obtain rfl : args = #[v0, v1, v2] := by cases args; simp_all
  obtain ⟨rfl, rfl⟩ := trodVars_none hV
  have k0 := h0
  have k1 := h1
  have k2 := h2
  have lt0 : ∀ x ∈ p0, x.block < W.heap.size := by obtain ⟨m, hm⟩ := k0; exact DataW.trod_lt m _ _ _ hm
  have lt1 : ∀ x ∈ p1, x.block < W.heap.size := by obtain ⟨m, hm⟩ := k1; exact DataW.trod_lt m _ _ _ hm
  have lt2 : ∀ x ∈ p2, x.block < W.heap.size := by obtain ⟨m, hm⟩ := k2; exact DataW.trod_lt m _ _ _ hm
  -- the functions
  obtain ⟨A, n, c, rfl⟩ := okWide_slice Try.underlying22 (hval 0 22 v0 rfl rfl)
  obtain ⟨fuel, hf⟩ := h0
  obtain ⟨l, hK, hok, _⟩ := (of_slice (n := fuel) Try.underlying22 c48.symm (fun i hi => opens48 i)).get hf (fun z hz => by
    have := List.all_eq_true.1 hsz z (DataW.weights_mem_each (j := 0) (t := 22) rfl rfl z hz)
    simpa using this)
  obtain ⟨A', c', hsl, hl, hC⟩ := hK
  obtain ⟨rfl, rfl, rfl⟩ : A = A' ∧ n = l.length ∧ c = c' := by
    have : [Value.slice A n c] = [Value.slice A' l.length c'] := hsl
    simpa using this
  have SZ : SzL l := ⟨len_of hok.2 b48, hok.1⟩
  -- the input
  obtain ⟨a1, len1, cap1, rfl⟩ := okWide_slice Try.underlying23 (hval 1 23 v1 rfl rfl)
  obtain ⟨z1, w1⟩ : ∃ zs : List Int, (a1 = none ∧ len1 = 0 ∧ cap1 = 0 ∧ zs = []) ∨ ∃ x, a1 = some x ∧ len1 ≤ cap1 ∧ cap1 ≤ maxLen ∧ zs.length = cap1 ∧ (∀ i, i < zs.length → W.cell? (x.add i) = some (.int .i64 (zs.getD i 0))) ∧ ∀ n ∈ zs, (Lit.int .i64 n).wf = true := by
    obtain ⟨fuel, hf⟩ := h1
    rcases open_ints Try.underlying23 Try.underlying3 (by kernel_rfl) hf with ⟨hcs, _⟩ | ⟨x, l, c, zs, hcs, _, hl, hm, hz, _, hcell, hwz⟩
    · simp [Value.cells] at hcs
      obtain ⟨rfl, rfl, rfl⟩ := hcs
      exact ⟨[], .inl ⟨rfl, rfl, rfl, rfl⟩⟩
    · simp [Value.cells] at hcs
      obtain ⟨rfl, rfl, rfl⟩ := hcs
      exact ⟨zs, .inr ⟨_, rfl, hl, hm, by simpa using hz, hcell, hwz⟩⟩
  obtain ⟨inp, rfl, hr1, hm1, hw1, hc1⟩ := Go.Proofs.YtpphpcmbpbppoaaW.PrintWords.ReadsInt.ofRowC w1
  -- the fuel
  obtain ⟨x0, x1, rfl⟩ := WideMaps.okWide_pair pairKey (hval 2 24 v2 rfl rfl)
  obtain ⟨fuel2, hf2⟩ := h2
  obtain ⟨ys, m, rfl, _, hl2, hn2, hy⟩ := DataW.trod_array Try.underlying24 hf2
  have e0 := hy 0 (by omega)
  have e1 := hy 1 (by omega)
  rw [show Try.prog.cellsOf 3 = 1 by kernel_rfl] at e0 e1
  have g0 : ∃ y, DataW.trod enc Try.prog W 0 (fun _ => true) true m 3 [x0] = some y := ⟨ys[0]'(by omega), by simpa [Value.cells, hn2] using e0⟩
  have g1 : ∃ y, DataW.trod enc Try.prog W 0 (fun _ => true) true m 3 [x1] = some y := ⟨ys[1]'(by omega), by simpa [Value.cells, hn2] using e1⟩
  obtain ⟨y0, g0⟩ := g0
  obtain ⟨y1, g1⟩ := g1
  obtain ⟨f0, e2, _, _⟩ := DataW.trod_int Try.underlying3 g0
  obtain ⟨f1, e3, _, _⟩ := DataW.trod_int Try.underlying3 g1
  obtain rfl : x0 = .int .i64 f0 := by simpa using e2
  obtain rfl : x1 = .int .i64 f1 := by simpa using e3
  clear hA0 hval0 hsz0
  refine (Mach.fuel_walk l A c a1 inp cap1 f0 f1 W hC hl hr1 hc1 SZ).mono fun e W' ⟨he, bel⟩ => ?_
  subst he
  exact ⟨_, rfl, _, _, _, [], _, [], hW', trodAll_mk1 (shut_bool Try.underlying4 _), (trodAll_cons_mk (Below.trod laidOut (by kernel_rfl) (of_decide_eq_true (by kernel_rfl)) k0 bel lt0) (trodAll_cons_mk (Below.trod laidOut (by kernel_rfl) (of_decide_eq_true (by kernel_rfl)) k1 bel lt1) (trodAll_cons_mk (Below.trod laidOut (by kernel_rfl) (of_decide_eq_true (by kernel_rfl)) k2 bel lt2) trodAll_mk0))), rfl, bel.frame _, fun h => by cases h⟩
theorem over : Rows.mirFuelRow.holds Try.pinned (OpenSpec.ofChange Rows.mirFuelSpec) :=
  OpenClaim.holds_of_wide 3 Try.f3 rfl rfl rfl rfl rfl rfl rfl ⟨rfl, rfl, rfl, rfl, rfl⟩ rfl rfl rfl rfl rfl (by kernel_rfl) Try.func3 (by kernel_rfl)
    (of_decide_eq_true (by kernel_rfl)) (by unfold Func.isWrapper; first | (rw [if_pos (by decide +kernel)]; kernel_rfl) | (rw [if_neg (by decide +kernel)]; exact ⟨rfl, rfl⟩))
    (fun os started H enc _ => lifted os started H enc)
theorem proved : Rows.MirFuelSaid := over
#print axioms proved
end Go.Proofs.Ytpphpcmbpbppoaa.mirFuel
namespace Go.Proofs.Ytpphpcmbpbppoaa
/-- The row, under a short name, for the claim. -/
theorem mirFuel_holds : Rows.MirFuelSaid := mirFuel.proved
end Go.Proofs.Ytpphpcmbpbppoaa
