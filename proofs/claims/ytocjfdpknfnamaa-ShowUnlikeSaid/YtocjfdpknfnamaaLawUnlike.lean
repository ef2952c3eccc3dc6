/- The law ShowUnlike holds for any tree and any number, without condition. -/
import Derived.Test.YtocjfdpknfnamaaUnlikeW
import Derived.Test.YtocjfdpknfnamaaOpens
import Derived.WalkKit
import Derived.ProofKit
import Derived.OpenShut
import Derived.ShutString
import Derived.ChangeOld
import Derived.Below
import Derived.SizedLaws
namespace Go.Proofs.Ytocjfdpknfnamaa.showUnlike
open Go.ChangeShapes Go.WideShapes Go.ChangeAt Go.RowKit
open Go.Proofs.Ytocjfdpknfnamaa.PShowUnlike Go.Proofs.YtocjfdpknfnamaaW.PrintWords Go.Proofs.YtocjfdpknfnamaaW.PrintLast Go.Proofs.YtocjfdpknfnamaaW.PrintMore
open Go.Proofs.Ytocjfdpknfnamaa.Opens
set_option linter.unusedVariables false

/-! ### how deep a tree is: the walk down ends -/
def Fit : Nat → S30 → Prop
  | 0, x => x.f4.length ≤ 9223372036854775807
  | m + 1, x => x.f4.length ≤ 9223372036854775807 ∧ ∀ j : Nat, j < x.f4.length → Fit m (rd_T30 x.f4 (j : Int))
theorem fit_of (m : Nat) : ∀ (x : S30) (w : World) (A : Option Addr), k30.C w A x.f4.length x.f4 → Fit m x := by
  induction m with
  | zero => intro x w A h; exact Kd.C_max h
  | succ m ih =>
    intro x w A h
    refine ⟨Kd.C_max h, fun j hj => ?_⟩
    obtain ⟨ad, A4, c4, A5, c5, A9, c9, _, _, _, _, _, _, _, _, _, _, _, _, g4, _, _, _, _⟩ := at_T30 h (j : Int) (by omega) (by omega)
    exact ih _ w A4 g4

abbrev bel (k : Nat) (x : S30) (most : Int) : Option Int := ferrulelaw04_below.f k x.f0 x.f1 x.f2 x.f3 x.f4 x.f5 x.f6.f0 x.f6.f1 x.f6.f2 x.f6.f3 most
abbrev loop (k : Nat) (x : S30) (most n i : Int) : Option Int := ferrulelaw04_below.l0 k most n i x.f0 x.f1 x.f2 x.f3 x.f4 x.f5 x.f6.f0 x.f6.f1 x.f6.f2 x.f6.f3

theorem bel_le {k k' : Nat} (h : k ≤ k') (x : S30) (most r : Int) (hr : bel k x most = some r) : bel k' x most = some r :=
  at_rounds (fun k => (ferrulelaw04_below.mono_l k).1 _ _ _ _ _ _ _ _ _ _ _) h hr
theorem loop_le {k k' : Nat} (h : k ≤ k') (x : S30) (most n i r : Int) (hr : loop k x most n i = some r) : loop k' x most n i = some r :=
  at_rounds (fun k => (ferrulelaw04_below.mono_l k).2 _ _ _ _ _ _ _ _ _ _ _ _ _) h hr

theorem loop_ends (m : Nat) (hm20 : m ≤ 20) (x : S30) (hl : x.f4.length ≤ 9223372036854775807)
    (ih : ∀ j : Nat, j < x.f4.length → 0 < m → ∃ k r, bel k (rd_T30 x.f4 (j : Int)) ((m : Int) - 1) = some r) (d : Nat) :
    ∀ (i : Nat) (n : Int), i + d = x.f4.length → 0 ≤ n → ∃ k r, loop k x m n (i : Int) = some r := by
  induction d with
  | zero =>
    intro i n hi hn
    refine ⟨1, mn n m, ?_⟩
    simp only [loop, ferrulelaw04_below.l0]
    rw [if_neg (by omega)]
  | succ d ihd =>
    intro i n hi hn
    by_cases hlt : n < (m : Int)
    · obtain ⟨k1, t, h1⟩ := ih i (by omega) (by omega)
      have hw : wrap64 ((m : Int) - 1) = (m : Int) - 1 := by unfold wrap64; omega
      have hi1 : wrap64 ((i : Int) + 1) = ((i + 1 : Nat) : Int) := by unfold wrap64; omega
      have hn1 : 0 ≤ mx n (wrap64 (1 + t)) := by unfold mx; split <;> omega
      obtain ⟨k2, r, h2⟩ := ihd (i + 1) (mx n (wrap64 (1 + t))) (by omega) hn1
      refine ⟨max k1 k2 + 1, r, ?_⟩
      have e1 := bel_le (Nat.le_max_left k1 k2) _ _ _ h1
      have e2 := loop_le (Nat.le_max_right k1 k2) _ _ _ _ _ h2
      simp only [loop, ferrulelaw04_below.l0]
      rw [if_pos (by omega), if_pos hlt, if_pos (by omega), hw, hi1]
      simp only [bel, loop] at e1 e2
      rw [e1]
      exact e2
    · refine ⟨1, mn n m, ?_⟩
      simp only [loop, ferrulelaw04_below.l0]
      rw [if_pos (by omega), if_neg hlt]

theorem Fit.len {m : Nat} {x : S30} (h : Fit m x) : x.f4.length ≤ 9223372036854775807 := by
  cases m with
  | zero => exact h
  | succ m => exact h.1
theorem bel_ends (m : Nat) : m ≤ 20 → ∀ x : S30, Fit m x → ∃ k r, bel k x (m : Int) = some r := by
  induction m with
  | zero =>
    intro hm x hf
    have hl := hf.len
    obtain ⟨k, r, h⟩ := loop_ends 0 hm x hl (fun _ _ h => absurd h (by omega)) x.f4.length 0 0 (by omega) (by omega)
    exact ⟨k + 1, r, by simp only [bel, ferrulelaw04_below.f]; exact h⟩
  | succ m ih =>
    intro hm x hf
    have hl := hf.len
    obtain ⟨k, r, h⟩ := loop_ends (m + 1) hm x hl (fun j hj _ => by
      have hx := hf.2 j hj
      have e : (((m + 1 : Nat) : Int) - 1) = (m : Int) := by omega
      rw [e]
      exact ih (by omega) _ hx) x.f4.length 0 0 (by omega) (by omega)
    exact ⟨k + 1, r, by simp only [bel, ferrulelaw04_below.f]; exact h⟩

theorem deep_ends (x : S30) (w : World) (A : Option Addr) (h : k30.C w A x.f4.length x.f4) : ∃ k r, ferrulelaw04_deep.f k x.f0 x.f1 x.f2 x.f3 x.f4 x.f5 x.f6.f0 x.f6.f1 x.f6.f2 x.f6.f3 = some r := by
  obtain ⟨k, r, hr⟩ := bel_ends 20 (Nat.le_refl _) x (fit_of 20 x w A h)
  refine ⟨k, r, ?_⟩
  unfold ferrulelaw04_deep.f
  simp only [bel] at hr
  rw [show ((20 : Nat) : Int) = 20 from rfl] at hr
  rw [hr]; rfl

/-! ### what is read -/
theorem c3 : Try.prog.cellsOf 3 = 1 := by kernel_rfl
theorem c9 : Try.prog.cellsOf 9 = 1 := by kernel_rfl
theorem c25 : Try.prog.cellsOf 25 = 1 := by kernel_rfl
theorem c26 : Try.prog.cellsOf 26 = 1 := by kernel_rfl
theorem c28 : Try.prog.cellsOf 28 = 4 := by kernel_rfl
theorem c30 : Try.prog.cellsOf 30 = 10 := by kernel_rfl
theorem b30 : Try.prog.bytesOf 30 = 144 := by kernel_rfl

theorem opens28 (n : Nat) : Opens Try.prog 28 n k28 (fun _ => True) (fun _ => 0) := by
  induction n using Nat.strongRecOn with
  | _ n ih =>
  refine of_map (fun y : Int × ByteArray × Int × List S28 => ⟨y.1, y.2.1, y.2.2.1, y.2.2.2⟩) ?_ (fun _ _ => trivial) (fun _ => Nat.zero_le _)
    (of_struct (k := Kd.pair (Kd.int .i64) (Kd.pair Kd.string (Kd.pair (Kd.int .i64) (Kd.slice 28 k28)))) Try.underlying28 c28 (fun j hj =>
      fs_cons (of_int Try.underlying3 j) rfl c3 (fs_cons (of_string Try.underlying9 j) rfl c9 (fs_cons (of_int Try.underlying3 j) rfl c3
        (fs_one (of_slice Try.underlying26 c28.symm (fun i hi => ih i (by omega))) rfl c26)))))
  rintro w ⟨a, b, c, l⟩ cs ⟨_, _, rfl, rfl, _, _, rfl, rfl, _, _, rfl, rfl, A, cp, rfl, hl, hC⟩
  exact k28_mk w ⟨a, b, c, l⟩ hl hC

/-- What is known of a tree's root. -/
def Root (x : S30) : Prop := (Lit.int .i64 x.f2).wf = true ∧ x.f3.size ≤ 140737488351232 ∧ x.f4.length * 144 ≤ 140737488351232
theorem opens30 (n : Nat) : Opens Try.prog 30 n k30 Root (fun _ => 0) := by
  induction n using Nat.strongRecOn with
  | _ n ih =>
  refine of_map (fun y : Int × Int × Int × ByteArray × List S30 × List S28 × S28 => ⟨y.1, y.2.1, y.2.2.1, y.2.2.2.1, y.2.2.2.2.1, y.2.2.2.2.2.1, y.2.2.2.2.2.2⟩) ?_ ?_ (fun _ => Nat.zero_le _)
    (of_struct (k := Kd.pair (Kd.int .i64) (Kd.pair (Kd.int .i64) (Kd.pair (Kd.int .i64) (Kd.pair Kd.string (Kd.pair (Kd.slice 30 k30) (Kd.pair (Kd.slice 28 k28) k28)))))) Try.underlying30 c30 (fun j hj =>
      fs_cons (of_int Try.underlying3 j) rfl c3 (fs_cons (of_int Try.underlying3 j) rfl c3 (fs_cons (of_int Try.underlying3 j) rfl c3 (fs_cons (of_string Try.underlying9 j) rfl c9
        (fs_cons (of_slice Try.underlying25 c30.symm (fun i hi => ih i (by omega))) rfl c25 (fs_cons (of_slice Try.underlying26 c28.symm (fun i hi => opens28 i)) rfl c26 (fs_one (opens28 j) rfl c28))))))))
  · rintro w ⟨a, b, c, s, l, t, y⟩ cs ⟨_, _, rfl, rfl, _, _, rfl, rfl, _, _, rfl, rfl, _, _, rfl, rfl, _, _, rfl, ⟨A4, c4, rfl, l4, g4⟩, _, _, rfl, ⟨A5, c5, rfl, l5, g5⟩, hy⟩
    obtain ⟨A9, c9, rfl, l9, g9⟩ := k28_open hy
    exact k30_mk w ⟨a, b, c, s, l, t, y⟩ l4 g4 l5 g5 l9 g9
  · rintro ⟨a, b, c, s, l, t, y⟩ ⟨_, _, hc, hs, ⟨_, hl⟩, _⟩
    rw [b30] at hl
    exact ⟨hc, hs, hl⟩

/-! ### the row -/
theorem own : ownKnob Try.prog.godebug = none := by kernel_rfl
theorem laidOut : laidOutB Try.prog = true := by kernel_rfl
set_option maxRecDepth 100000 in
theorem lifted (os : Os) (started : os.Started) (H : Type) (enc : TypeId × Value → H) :
    ReturnsInHanded {} Try.checked os 4 .any (Rows.showUnlikeSpec.pre6 enc Try.prog Try.f4 Rows.showUnlikeRow.domain false) (Rows.showUnlikeSpec.post enc Try.prog Try.f4 false true false false) := by
  refine returnsInHanded_of_change_sized (C := Try.checked) own started (by kernel_rfl) Try.func4
    (ChangeSpec.witness6 (enc := enc) (C := Try.checked) false ⟨#[], #[.agg #[.int .i64 0, .int .i64 0, .int .i64 0, .string ByteArray.empty, .slice none 0 0, .slice none 0 0, .int .i64 0, .string ByteArray.empty, .int .i64 0, .slice none 0 0], .int .i64 0], []⟩ 8 (by kernel_rfl) (by kernel_rfl) (by kernel_rfl) (by kernel_rfl)) ?_
  intro W base args ds gs before hval0 hW hcnd hsz0 _
  have hsz : (DataW.weightsEach Try.prog (Try.f4.params.toList ++ Rows.showUnlikeSpec.plain.varTypes Try.prog) (ds ++ gs)).all (· ≤ reachBytes) = true := hsz0
  have hval : ∀ (j : Nat) t v, Try.f4.params[j]? = some t → args[j]? = some v → Value.okWide Try.prog W .any base t v := hval0
  have hW' := hW
  obtain ⟨p, q, hA0, hV, rfl, hfz, hnd⟩ := hW
  have hA : DataW.TrodAll enc Try.prog W 0 (fun _ => true) true Try.f4.params.toList args.toList ds p := hA0
  rw [Try.params4] at hA hval hsz
  obtain ⟨v0, vs0, d0, ds0, p0, q0, hargs, rfl, rfl, h0, r0⟩ := trodAll_cons hA
  obtain ⟨v1, vs1, d1, ds1, p1, q1, rfl, rfl, rfl, h1, r1⟩ := trodAll_cons r0
  obtain ⟨rfl, rfl, rfl⟩ := trodAll_nil r1
  obtain rfl : args = #[v0, v1] := by cases args; simp_all
  obtain ⟨rfl, rfl⟩ := trodVars_none hV
  obtain ⟨n, rfl, rfl, rfl, wn⟩ := open_int Try.underlying3 (hval 1 3 v1 rfl rfl) h1
  obtain ⟨cs, rfl, hcs⟩ := okWide_struct Try.underlying30 (hval 0 30 v0 rfl rfl)
  have h0k := h0
  obtain ⟨fuel, hf⟩ := h0
  obtain ⟨x, hK, ⟨hx2, hx3, hx4⟩, _⟩ := (opens30 fuel).get hf (fun z hz => by
    have := List.all_eq_true.1 hsz z (DataW.weights_mem_each (j := 0) (t := 30) rfl rfl z hz)
    simpa using this)
  obtain ⟨A4, c4, A5, c5, A9, c9, hcells, l4, g4, l5, g5, l9, g9⟩ := k30_open hK
  obtain rfl : cs = #[.int .i64 x.f0, .int .i64 x.f1, .int .i64 x.f2, .string x.f3, .slice A4 x.f4.length c4, .slice A5 x.f5.length c5, .int .i64 x.f6.f0, .string x.f6.f1, .int .i64 x.f6.f2, .slice A9 x.f6.f3.length c9] := by
    have : cs.toList = _ := hcells
    cases cs; simp_all
  obtain ⟨k, dp, hd⟩ := deep_ends x W A4 g4
  have hlt : ∀ y ∈ p0 ++ ([] ++ []), y.block < W.heap.size := fun y hy => hW'.lt y (by simpa using hy)
  clear hA0 hval0 hsz0
  refine (Alike.unlike_any x n k dp A4 c4 A5 c5 A9 c9 W g4 l4 g5 l5 g9 l9 hd hx4 hx2 hx3).mono fun e W' ⟨he, bel⟩ => ?_
  subst he
  exact ⟨_, rfl, _, _, _, [], p0 ++ ([] ++ []), [], hW', trodAll_mk1 (shut_bool Try.underlying4 _), (trodAll_cons_mk (Below.trod laidOut (by kernel_rfl) (of_decide_eq_true (by kernel_rfl)) h0k bel (fun y hy => hlt y (by simp [hy]))) (trodAll_cons_mk (shut_int Try.underlying3 wn) trodAll_mk0)), rfl, bel.frame _, fun h => by cases h⟩
theorem over : Rows.showUnlikeRow.holds Try.pinned (OpenSpec.ofChange Rows.showUnlikeSpec) :=
  OpenClaim.holds_of_wide 4 Try.f4 rfl rfl rfl rfl rfl rfl rfl ⟨rfl, rfl, rfl, rfl, rfl⟩ rfl rfl rfl rfl rfl (by kernel_rfl) Try.func4 (by kernel_rfl)
    (of_decide_eq_true (by kernel_rfl)) (by unfold Func.isWrapper; first | (rw [if_pos (by decide +kernel)]; kernel_rfl) | (rw [if_neg (by decide +kernel)]; exact ⟨rfl, rfl⟩))
    (fun os started H enc _ => lifted os started H enc)
theorem proved : Rows.ShowUnlikeSaid := over
#print axioms proved
end Go.Proofs.Ytocjfdpknfnamaa.showUnlike
namespace Go.Proofs.Ytocjfdpknfnamaa
/-- The row, under a short name, for the claim. -/
theorem showUnlike_holds : Rows.ShowUnlikeSaid := showUnlike.proved
end Go.Proofs.Ytocjfdpknfnamaa
