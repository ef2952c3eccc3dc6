/- fold.Plain as a plain function; and the walk of fold.places: a call tells where an instruction's places are, in new memory. -/
import Derived.Test.YtocjfdpknfnamaaQFoldPlain0
import Derived.WalkLawsBesides
import Derived.WalkSpells
import Derived.StillTailTactics
namespace Go.Proofs.Ytocjfdpknfnamaa.Fold
open Go.RowKit Go.Proofs.Ytocjfdpknfnamaa.QFoldPlain Go.Proofs.YtocjfdpknfnamaaW.PrintWords Go.Proofs.YtocjfdpknfnamaaW.PrintLast Go.Proofs.YtocjfdpknfnamaaW.PrintMore
set_option linter.unusedVariables false

/-- Pointers that are not nil. -/
def kptr : Kd Addr := Kd.scalar (fun a => .pointer (some a)) (fun _ => rfl)
def at6 (ad : Addr) : Addr := ⟨ad.block, ad.off + 6, none⟩
def at8 (ad : Addr) : Addr := ⟨ad.block, ad.off + 8, none⟩
def addrs (op : Int) (ad : Addr) : List Addr :=
  if op = 3 ∨ op = 4 ∨ op = 6 ∨ op = 9 then [at6 ad] else if op = 5 then [at6 ad, at8 ad] else []

theorem ptrs_lit (w : World) (base : Nat) (ps : List Addr) (hb : base ≤ w.heap.size) (hm : ps.length ≤ 9223372036854775807) :
    kptr.R 70 (w.alloc (.cells (ps.map fun a => Value.pointer (some a)).toArray 70)) base (fun _ => True) (.slice (some ⟨w.heap.size, 0, none⟩) ps.length ps.length) ps := by
  refine ⟨fun _ _ => trivial, ps.map fun a => Value.pointer (some a), ?_, ?_⟩
  · have h2 := World.ownsRow_lit (base := base) (e := 70) (size := 1) w (ps.map fun a => Value.pointer (some a)).toArray ps.length hb (by simpa [maxLen] using hm) (by simp)
    simpa [kptr, Kd.scalar] using h2
  · refine ⟨by simp [kptr, Kd.scalar], fun j p hj => ?_⟩
    obtain ⟨hjl, hp⟩ := List.getElem?_eq_some_iff.1 hj
    show _ = [Value.pointer (some p)]
    simp only [kptr, Kd.scalar, Nat.mul_one]
    rw [List.drop_eq_getElem_cons (by simpa using hjl)]
    simp [hp]

set_option maxHeartbeats 1000000 in
set_option maxRecDepth 100000 in
theorem places_one (ad : Addr) (op : Int) (w : World) (hc : w.cell? ad = some (.int .i64 op)) (h : op = 3 ∨ op = 4 ∨ op = 6 ∨ op = 9) :
    Calls Try.prog 21 #[.pointer (some ad)] w fun e w' => ∃ v, e = .returned v ∧ kptr.R 70 w' w.heap.size (fun _ => True) v [at6 ad] ∧ Below w.heap.size w w' := by
  rcases h with rfl | rfl | rfl | rfl
  all_goals
    go_enter Try.func21, Try.ntmps21
    go_wp2
    refine bodyPost_ret (v := .slice (some ⟨w.heap.size, 0, none⟩) 1 1) (by simp [results, Try.results21, go_sem]) rfl ⟨_, rfl, ptrs_lit w w.heap.size [at6 ad] (Nat.le_refl _) (by simp), below_alloc (Below.refl _ _) _⟩

set_option maxHeartbeats 1000000 in
set_option maxRecDepth 100000 in
theorem places_two (ad : Addr) (w : World) (hc : w.cell? ad = some (.int .i64 5)) :
    Calls Try.prog 21 #[.pointer (some ad)] w fun e w' => ∃ v, e = .returned v ∧ kptr.R 70 w' w.heap.size (fun _ => True) v [at6 ad, at8 ad] ∧ Below w.heap.size w w' := by
  go_enter Try.func21, Try.ntmps21
  go_wp2
  go_still_tail 6, (by kernel_rfl)
  go_wp2
  exact bodyPost_ret (v := .slice (some ⟨w.heap.size, 0, none⟩) 2 2) (by simp [results, Try.results21, go_sem]) rfl ⟨_, rfl, Kd.R_below (ptrs_lit w w.heap.size [at6 ad, at8 ad] (Nat.le_refl _) (by simp)) (below_drew (Below.refl _ _)), below_drew (below_alloc (Below.refl _ _) _)⟩

set_option maxHeartbeats 1000000 in
set_option maxRecDepth 100000 in
theorem places_none (ad : Addr) (op : Int) (w : World) (hc : w.cell? ad = some (.int .i64 op)) (h3 : (op == 3) = false) (h4 : (op == 4) = false) (h5 : (op == 5) = false) (h6 : (op == 6) = false) (h9 : (op == 9) = false) :
    Calls Try.prog 21 #[.pointer (some ad)] w fun e w' => ∃ v, e = .returned v ∧ kptr.R 70 w' w.heap.size (fun _ => True) v [] ∧ Below w.heap.size w w' := by
  go_enter Try.func21, Try.ntmps21
  go_wp2
  refine bodyPost_ret (v := .slice none 0 0) (by simp [results, Try.results21, go_sem]) rfl ⟨_, rfl, Kd.R_nil _ _ _ _ _, Below.refl _ _⟩

theorem places_any (ad : Addr) (op : Int) (w : World) (hc : w.cell? ad = some (.int .i64 op)) :
    Calls Try.prog 21 #[.pointer (some ad)] w fun e w' => ∃ v, e = .returned v ∧ kptr.R 70 w' w.heap.size (fun _ => True) v (addrs op ad) ∧ Below w.heap.size w w' := by
  unfold addrs
  by_cases h : op = 3 ∨ op = 4 ∨ op = 6 ∨ op = 9
  · rw [if_pos h]; exact places_one ad op w hc h
  · rw [if_neg h]
    by_cases h5 : op = 5
    · rw [if_pos h5]; subst h5; exact places_two ad w hc
    · rw [if_neg h5]
      have e : ∀ n : Int, ¬ op = n → (op == n) = false := fun n h => by simpa using h
      exact places_none ad op w hc (e 3 (fun x => h (.inl x))) (e 4 (fun x => h (.inr (.inl x)))) (e 5 h5) (e 6 (fun x => h (.inr (.inr (.inl x))))) (e 9 (fun x => h (.inr (.inr (.inr x)))))
end Go.Proofs.Ytocjfdpknfnamaa.Fold
