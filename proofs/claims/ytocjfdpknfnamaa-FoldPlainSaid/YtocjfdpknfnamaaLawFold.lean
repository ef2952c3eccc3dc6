/- The law FoldPlain holds for any list of functions, without condition. -/
import Derived.Test.YtocjfdpknfnamaaPureFold
import Derived.Test.YtocjfdpknfnamaaOpens
import Derived.WalkKit
import Derived.ProofKit
import Derived.OpenShut
import Derived.ShutString
import Derived.ChangeOld
import Derived.Below
import Derived.SizedLaws
namespace Go.Proofs.Ytocjfdpknfnamaa.foldPlain
open Go.ChangeShapes Go.WideShapes Go.ChangeAt Go.RowKit
open Go.Proofs.Ytocjfdpknfnamaa.QFoldPlain Go.Proofs.YtocjfdpknfnamaaW.PrintWords Go.Proofs.YtocjfdpknfnamaaW.PrintLast Go.Proofs.YtocjfdpknfnamaaW.PrintMore
open Go.Proofs.Ytocjfdpknfnamaa.Opens
set_option linter.unusedVariables false

/-! ### what is read -/
theorem c3 : Try.prog.cellsOf 3 = 1 := by kernel_rfl
theorem c4 : Try.prog.cellsOf 4 = 1 := by kernel_rfl
theorem c9 : Try.prog.cellsOf 9 = 1 := by kernel_rfl
theorem c26 : Try.prog.cellsOf 26 = 1 := by kernel_rfl
theorem c28 : Try.prog.cellsOf 28 = 4 := by kernel_rfl
theorem c37 : Try.prog.cellsOf 37 = 1 := by kernel_rfl
theorem c38 : Try.prog.cellsOf 38 = 1 := by kernel_rfl
theorem c40 : Try.prog.cellsOf 40 = 6 := by kernel_rfl
theorem c54 : Try.prog.cellsOf 54 = 1 := by kernel_rfl
theorem c56 : Try.prog.cellsOf 56 = 2 := by kernel_rfl
theorem c57 : Try.prog.cellsOf 57 = 1 := by kernel_rfl
theorem c59 : Try.prog.cellsOf 59 = 6 := by kernel_rfl
theorem c61 : Try.prog.cellsOf 61 = 7 := by kernel_rfl
theorem c65 : Try.prog.cellsOf 65 = 1 := by kernel_rfl
theorem c67 : Try.prog.cellsOf 67 = 2 := by kernel_rfl
theorem c69 : Try.prog.cellsOf 69 = 18 := by kernel_rfl
theorem c72 : Try.prog.cellsOf 72 = 3 := by kernel_rfl
theorem opens72 (n : Nat) : Opens Try.prog 72 n k72 (fun _ => True) (fun _ => 0) :=
  imp (of_iso (fun y => ⟨y.1, y.2.1, y.2.2⟩) (fun _ => rfl) (of_struct Try.underlying72 c72 (fun j hj => fs_cons (of_int Try.underlying3 j) rfl c3 (fs_cons (of_int Try.underlying3 j) rfl c3 (fs_one (of_int Try.underlying3 j) rfl c3))))) (fun _ _ => trivial) (fun _ => Nat.zero_le _)
theorem opens56 (n : Nat) : Opens Try.prog 56 n k56 (fun _ => True) (fun _ => 0) :=
  imp (of_iso (fun y => ⟨y.1, y.2⟩) (fun _ => rfl) (of_struct Try.underlying56 c56 (fun j hj => fs_cons (of_bool Try.underlying4 j) rfl c4 (fs_one (of_int Try.underlying3 j) rfl c3)))) (fun _ _ => trivial) (fun _ => Nat.zero_le _)
theorem opens67 (n : Nat) : Opens Try.prog 67 n k67 (fun _ => True) (fun _ => 0) :=
  imp (of_iso (fun y => ⟨y.1, y.2⟩) (fun _ => rfl) (of_struct Try.underlying67 c67 (fun j hj => fs_cons (of_int Try.underlying3 j) rfl c3 (fs_one (of_slice Try.underlying65 c72.symm (fun i hi => opens72 i)) rfl c65)))) (fun _ _ => trivial) (fun _ => Nat.zero_le _)
theorem upto28 (n : Nat) : Opens Try.prog 28 n (Kd.upto F28 4 [28] n) (fun _ => True) (fun _ => 0) := by
  induction n using Nat.strongRecOn with
  | _ n ih =>
  cases n with
  | zero => exact of_zero
  | succ n => exact imp (of_iso (fun y => ⟨y.1, y.2.1, y.2.2.1, y.2.2.2⟩) (fun _ => rfl) (of_struct Try.underlying28 c28 (fun j hj => fs_cons (of_int Try.underlying3 j) rfl c3 (fs_cons (of_string Try.underlying9 j) rfl c9 (fs_cons (of_int Try.underlying3 j) rfl c3 (fs_one (of_slice Try.underlying26 ((sz28 n).trans c28.symm) (fun i hi => upto_mono mono28 sz28 (show i ≤ n by omega) (ih i (by omega)))) rfl c26)))))) (fun _ _ => trivial) (fun _ => Nat.zero_le _)
theorem opens28 (n : Nat) : Opens Try.prog 28 n k28 (fun _ => True) (fun _ => 0) := of_fix n (upto28 n)
theorem opens69 (n : Nat) : Opens Try.prog 69 n k69 (fun _ => True) (fun _ => 0) :=
  imp (of_iso (fun y => ⟨y.1, y.2.1, y.2.2.1, y.2.2.2.1, y.2.2.2.2.1, y.2.2.2.2.2.1, y.2.2.2.2.2.2.1, y.2.2.2.2.2.2.2.1, y.2.2.2.2.2.2.2.2.1, y.2.2.2.2.2.2.2.2.2.1, y.2.2.2.2.2.2.2.2.2.2⟩) (fun _ => rfl) (of_struct Try.underlying69 c69 (fun j hj => fs_cons (of_int Try.underlying3 j) rfl c3 (fs_cons (of_int Try.underlying3 j) rfl c3 (fs_cons (opens56 j) rfl c56 (fs_cons (opens56 j) rfl c56 (fs_cons (opens67 j) rfl c67 (fs_cons (opens67 j) rfl c67 (fs_cons (of_int Try.underlying3 j) rfl c3 (fs_cons (of_string Try.underlying9 j) rfl c9 (fs_cons (opens28 j) rfl c28 (fs_cons (of_slice Try.underlying57 c56.symm (fun i hi => opens56 i)) rfl c57 (fs_one (of_slice Try.underlying37 c3.symm (fun i hi => (of_int Try.underlying3 i))) rfl c37))))))))))))) (fun _ _ => trivial) (fun _ => Nat.zero_le _)
theorem opens59 (n : Nat) : Opens Try.prog 59 n k59 (fun _ => True) (fun _ => 0) :=
  imp (of_iso (fun y => ⟨y.1, y.2.1, y.2.2.1, y.2.2.2.1, y.2.2.2.2⟩) (fun _ => rfl) (of_struct Try.underlying59 c59 (fun j hj => fs_cons (of_int Try.underlying3 j) rfl c3 (fs_cons (opens56 j) rfl c56 (fs_cons (of_int Try.underlying3 j) rfl c3 (fs_cons (of_int Try.underlying3 j) rfl c3 (fs_one (of_slice Try.underlying57 c56.symm (fun i hi => opens56 i)) rfl c57))))))) (fun _ _ => trivial) (fun _ => Nat.zero_le _)
theorem opens61 (n : Nat) : Opens Try.prog 61 n k61 (fun _ => True) (fun _ => 0) :=
  imp (of_iso (fun y => ⟨y.1, y.2⟩) (fun _ => rfl) (of_struct Try.underlying61 c61 (fun j hj => fs_cons (of_slice Try.underlying54 c69.symm (fun i hi => opens69 i)) rfl c54 (fs_one (opens59 j) rfl c59)))) (fun _ _ => trivial) (fun _ => Nat.zero_le _)
theorem opens40 (n : Nat) : Opens Try.prog 40 n k40 (fun _ => True) (fun _ => 0) :=
  imp (of_iso (fun y => ⟨y.1, y.2.1, y.2.2.1, y.2.2.2.1, y.2.2.2.2.1, y.2.2.2.2.2⟩) (fun _ => rfl) (of_struct Try.underlying40 c40 (fun j hj => fs_cons (of_string Try.underlying9 j) rfl c9 (fs_cons (of_slice Try.underlying37 c3.symm (fun i hi => (of_int Try.underlying3 i))) rfl c37 (fs_cons (of_int Try.underlying3 j) rfl c3 (fs_cons (of_int Try.underlying3 j) rfl c3 (fs_cons (of_bool Try.underlying4 j) rfl c4 (fs_one (of_slice Try.underlying38 c61.symm (fun i hi => opens61 i)) rfl c38)))))))) (fun _ _ => trivial) (fun _ => Nat.zero_le _)


/-! ### the row -/
theorem own : ownKnob Try.prog.godebug = none := by kernel_rfl
theorem laidOut : laidOutB Try.prog = true := by kernel_rfl
set_option maxRecDepth 100000 in
theorem lifted (os : Os) (started : os.Started) (H : Type) (enc : TypeId × Value → H) :
    ReturnsInHanded {} Try.checked os 5 .any (Rows.foldPlainSpec.pre6 enc Try.prog Try.f5 Rows.foldPlainRow.domain false) (Rows.foldPlainSpec.post enc Try.prog Try.f5 false true false false) := by
  refine returnsInHanded_of_change_sized (C := Try.checked) own started (by kernel_rfl) Try.func5
    (ChangeSpec.witness6 (enc := enc) (C := Try.checked) false ⟨#[], #[.slice none 0 0], []⟩ 8 (by kernel_rfl) (by kernel_rfl) (by kernel_rfl) (by kernel_rfl)) ?_
  intro W base args ds gs before hval0 hW hcnd hsz0 _
  have hsz : (DataW.weightsEach Try.prog (Try.f5.params.toList ++ Rows.foldPlainSpec.plain.varTypes Try.prog) (ds ++ gs)).all (· ≤ reachBytes) = true := hsz0
  have hval : ∀ (j : Nat) t v, Try.f5.params[j]? = some t → args[j]? = some v → Value.okWide Try.prog W .any base t v := hval0
  have hW' := hW
  obtain ⟨p, q, hA0, hV, rfl, hfz, hnd⟩ := hW
  have hA : DataW.TrodAll enc Try.prog W 0 (fun _ => true) true Try.f5.params.toList args.toList ds p := hA0
  rw [Try.params5] at hA hval hsz
  obtain ⟨v0, vs0, d0, ds0, p0, q0, hargs, rfl, rfl, h0, r0⟩ := trodAll_cons hA
  obtain ⟨rfl, rfl, rfl⟩ := trodAll_nil r0
  obtain rfl : args = #[v0] := by cases args; simp_all
  obtain ⟨rfl, rfl⟩ := trodVars_none hV
  obtain ⟨A, n, c, rfl⟩ := okWide_slice Try.underlying34 (hval 0 34 v0 rfl rfl)
  have h0k := h0
  obtain ⟨fuel, hf⟩ := h0
  obtain ⟨xs, hK, _, _⟩ := (of_slice (n := fuel) Try.underlying34 c40.symm (fun i hi => opens40 i)).get hf (fun z hz => by
    have := List.all_eq_true.1 hsz z (DataW.weights_mem_each (j := 0) (t := 34) rfl rfl z hz)
    simpa using this)
  obtain ⟨A', c', hsl, hl, hC⟩ := hK
  obtain ⟨rfl, rfl, rfl⟩ : A = A' ∧ n = xs.length ∧ c = c' := by
    have : [Value.slice A n c] = [Value.slice A' xs.length c'] := hsl
    simpa using this
  obtain ⟨k, hd⟩ := Fold.law xs (fun i hi => Fold.fit_of hC i hi)
  have hlt : ∀ y ∈ p0 ++ ([] ++ []), y.block < W.heap.size := fun y hy => hW'.lt y (by simpa using hy)
  clear hA0 hval0 hsz0
  refine (ferrulelaw15_FoldPlain.calls k A c xs true W hC hl hd).mono fun e W' ⟨he, bel⟩ => ?_
  subst he
  exact ⟨_, rfl, _, _, _, [], p0 ++ ([] ++ []), [], hW', trodAll_mk1 (shut_bool Try.underlying4 _), (trodAll_cons_mk (Below.trod laidOut (by kernel_rfl) (of_decide_eq_true (by kernel_rfl)) h0k bel (fun y hy => hlt y (by simp [hy]))) trodAll_mk0), rfl, bel.frame _, fun h => by cases h⟩
theorem over : Rows.foldPlainRow.holds Try.pinned (OpenSpec.ofChange Rows.foldPlainSpec) :=
  OpenClaim.holds_of_wide 5 Try.f5 rfl rfl rfl rfl rfl rfl rfl ⟨rfl, rfl, rfl, rfl, rfl⟩ rfl rfl rfl rfl rfl (by kernel_rfl) Try.func5 (by kernel_rfl)
    (of_decide_eq_true (by kernel_rfl)) (by unfold Func.isWrapper; first | (rw [if_pos (by decide +kernel)]; kernel_rfl) | (rw [if_neg (by decide +kernel)]; exact ⟨rfl, rfl⟩))
    (fun os started H enc _ => lifted os started H enc)
theorem proved : Rows.FoldPlainSaid := over
#print axioms proved
end Go.Proofs.Ytocjfdpknfnamaa.foldPlain
namespace Go.Proofs.Ytocjfdpknfnamaa
/-- The row, under a short name, for the claim. -/
theorem foldPlain_holds : Rows.FoldPlainSaid := foldPlain.proved
end Go.Proofs.Ytocjfdpknfnamaa
