/- The walk of the law ShowUnlike: whatever the tree and the number are, the call returns true, and nothing that was in memory turns. -/
import Derived.Test.YtocjfdpknfnamaaAlikeB
import Derived.Laws.CopyOwn
import Derived.WalkSpells
import Derived.OpenShut
namespace Go.Proofs.Ytocjfdpknfnamaa.Alike
open Go.RowKit Go.Proofs.Ytocjfdpknfnamaa.PShowUnlike Go.Proofs.YtocjfdpknfnamaaW.PrintWords Go.Proofs.YtocjfdpknfnamaaW.PrintLast Go.Proofs.YtocjfdpknfnamaaW.PrintMore
set_option linter.unusedVariables false
set_option linter.unusedSimpArgs false

def T3 : Bool × List (List Nat × List Nat) := (true, [([], []), ([], []), ([], []), ([], []), ([], []), ([], []), ([], []), ([], []), ([4, 0, 0, 4, 5, 6, 7], [0, 4]), ([5, 1, 8, 0, 1, 4, 5, 6, 7, 8], [1, 5]), ([6, 2, 9, 0, 1, 2, 4, 5, 6, 7, 8, 9], [2, 6]), ([7, 3, 10, 0, 1, 2, 3, 4, 5, 6, 7, 8, 9, 10], [3, 7])])
def B3 : List Nat := [0, 0, 0, 0, 0, 0, 0, 0, 241, 499, 1015, 2047]
theorem tab3 : rtab .any (opsOf Try.f4 3) = T3 := by kernel_rfl
theorem bits3 : waitsOk T3.2 B3 = true := by kernel_rfl

theorem far_of {w w1 : World} {g : Nat} {t : TypeId} {cs : Array Value} {p : Addr} {u : Value} (h : w.heap[g]? = some (.cells cs t (0, 0))) (hp : g ≠ p.block) (e : w1 = w.setCell p u) : w1.heap[g]? = some (.cells cs t (0, 0)) := by
  rw [e]; exact blk_far h hp u
theorem put_of {w w1 : World} {g i : Nat} {t : TypeId} {cs cs' : Array Value} {u : Value} (h : w.heap[g]? = some (.cells cs t (0, 0))) (e : w1 = w.setCell ⟨g, i, none⟩ u) (ec : cs.setIfInBounds i u = cs') : w1.heap[g]? = some (.cells cs' t (0, 0)) := by
  rw [e]; exact blk_put h i u ec
theorem below_of {w0 w w1 : World} {g j : Nat} {v : Value} (h : Below w0.heap.size w0 w) (hg : w0.heap.size ≤ g) (e : w1 = w.setCell ⟨g, j, none⟩ v) : Below w0.heap.size w0 w1 := by
  rw [e]; exact below_set h hg

theorem ne_own {v : Value} {n g : Nat} (h : ∃ b, v.ownBlock = some b ∧ n ≤ b) (hg : g < n) : some g ≠ v.ownBlock := by
  obtain ⟨b, e, hb⟩ := h
  rw [e]; intro he; injection he with he; omega
theorem ne_own2 {v v1 : Value} {n g : Nat} (h : v1.ownBlock = v.ownBlock ∨ ∃ b, v1.ownBlock = some b ∧ n ≤ b) (h0 : some g ≠ v.ownBlock) (hg : g < n) : some g ≠ v1.ownBlock := by
  rcases h with h | h
  · rw [h]; exact h0
  · exact ne_own h hg
/-- The kid that is put behind a tree's kids. -/
def zU : S30 := ⟨3, 0, 0, ByteArray.empty, [], [], ⟨0, ByteArray.empty, 0, []⟩⟩
theorem zU_reads (w : World) : k30.K w zU [.int .i64 3, .int .i64 0, .int .i64 0, .string ByteArray.empty, .slice none 0 0, .slice none 0 0, .int .i64 0, .string ByteArray.empty, .int .i64 0, .slice none 0 0] :=
  k30_mk w zU (A4 := none) (c4 := 0) (Nat.le_refl 0) (Kd.C_nil k30 w) (A5 := none) (c5 := 0) (Nat.le_refl 0) (Kd.C_nil k28 w) (A9 := none) (c9 := 0) (Nat.le_refl 0) (Kd.C_nil k28 w)

theorem run_storeVar_at {P : Program} (w : World) (g o : Nat) (t ty : TypeId) (cur cells : Array Value) (hg : w.heap[g]? = some (.cells cur t (0, 0))) (hi : (P.info? ty).map (·.size) = some cells.size)
    (hfit : o + cells.size ≤ cur.size) (h1 : cells.all (·.oneCell') = true) :
    (storeVar ty ⟨g, o, none⟩ (.agg cells)).run P w = .ok () (w.setRow g (cur.toList.take o ++ cells.toList ++ cur.toList.drop (o + cells.size)).toArray) := by
  have := run_storeCells_at P g o t cells.toList 0 cur w hg (by simpa using hfit) (fun v hv => (Array.all_eq_true_iff_forall_mem.1 h1) v (by simpa using hv))
  cases hq : P.info? ty with
  | none => simp [hq] at hi
  | some i =>
    have hs : cells.size = i.size := by simp [hq] at hi; omega
    have hs2 : cells.toList.length = cells.size := Array.length_toList
    simp only [Nat.add_zero, hs2] at this
    simp [storeVar, sizeOf, typeInfo, hq, Value.cells, hs] at this ⊢
    exact this
theorem wpList_store_at {P : Program} {ops : Array Oper} {rest : List Oper} {o : Oper} {a : Act} {w : World} {Q : Exit → Act → World → Prop} (hgd : o.guard = none) (ty : TypeId) (x y : Operand) (ho : o.op = .store ty x y)
    (g i : Nat) (cells : Array Value) (hx : a.eval x = .pointer (some ⟨g, i, none⟩)) (hy : a.eval y = .agg cells)
    (t : TypeId) (cur : Array Value) (hg : w.heap[g]? = some (.cells cur t (0, 0))) (hi : (P.info? ty).map (·.size) = some cells.size)
    (hfit : i + cells.size ≤ cur.size) (h1 : cells.all (·.oneCell') = true)
    (h : ∀ w1, w1 = w.setRow g (cur.toList.take i ++ cells.toList ++ cur.toList.drop (i + cells.size)).toArray → wpList P ops Q rest (a.put o.dst undef) w1) : wpList P ops Q (o :: rest) a w :=
  wpList_plain hgd fun _ hK => by
    unfold Oper.wp execOp
    simp only [ho, hx, hy, Instr.storeAt, Instr.sureAddr, Sem.run_bind, Sem.run_pure, Result.andThen_ok, run_storeVar_at w g i t ty cur cells hg hi hfit h1]
    exact hK _ _ (h _ rfl)
theorem row_far {w w1 : World} {g g' : Nat} {t : TypeId} {cs ys : Array Value} (h : w.heap[g]? = some (.cells cs t (0, 0))) (hp : g ≠ g') (e : w1 = w.setRow g' ys) : w1.heap[g]? = some (.cells cs t (0, 0)) := by
  rw [e]; exact (setRow_other _ _ _ _ hp).trans h
theorem row_put {w w1 : World} {g : Nat} {t : TypeId} {cs cs' ys : Array Value} (h : w.heap[g]? = some (.cells cs t (0, 0))) (e : w1 = w.setRow g ys) (ec : ys = cs') : w1.heap[g]? = some (.cells cs' t (0, 0)) := by
  rw [e, ec]; exact setRow_heap _ _ _ _ _ _ h
theorem row_below {w0 w w1 : World} {g : Nat} {ys : Array Value} (h : Below w0.heap.size w0 w) (hg : w0.heap.size ≤ g) (e : w1 = w.setRow g ys) : Below w0.heap.size w0 w1 := by
  rw [e]; exact below_setRow h hg _

theorem r_far {α : Type} {d : Kd α} {e base : Nat} {ok : Nat → Prop} {w w1 : World} {v u : Value} {xs : List α} {p : Addr} (h : d.R e w base ok v xs) (e1 : w1 = w.setCell p u) (hok : ∀ k, ok k → k ≠ p.block) : d.R e w1 base ok v xs := by
  rw [e1]; exact Kd.R_far h hok u
theorem r_row {α : Type} {d : Kd α} {e base : Nat} {ok : Nat → Prop} {w w1 : World} {v : Value} {xs : List α} {g : Nat} {ys : Array Value} (h : d.R e w base ok v xs) (e1 : w1 = w.setRow g ys) (hok : ∀ k, ok k → k ≠ g) : d.R e w1 base ok v xs := by
  rw [e1]; exact Kd.R_step h (fun k hk _ => setRow_other _ _ _ _ (hok k hk))
theorem cells10 {w : World} {g : Nat} {t : TypeId} {v0 v1 v2 v3 v4 v5 v6 v7 v8 v9 : Value} (h : w.heap[g]? = some (.cells #[v0, v1, v2, v3, v4, v5, v6, v7, v8, v9] t (0, 0))) :
    w.cell? ⟨g, 0, none⟩ = some v0 ∧ w.cell? ⟨g, 1, none⟩ = some v1 ∧ w.cell? ⟨g, 2, none⟩ = some v2 ∧ w.cell? ⟨g, 3, none⟩ = some v3 ∧ w.cell? ⟨g, 4, none⟩ = some v4 ∧ w.cell? ⟨g, 5, none⟩ = some v5 ∧ w.cell? ⟨g, 6, none⟩ = some v6 ∧ w.cell? ⟨g, 7, none⟩ = some v7 ∧ w.cell? ⟨g, 8, none⟩ = some v8 ∧ w.cell? ⟨g, 9, none⟩ = some v9 :=
  ⟨(blk_cell h 0).trans rfl, (blk_cell h 1).trans rfl, (blk_cell h 2).trans rfl, (blk_cell h 3).trans rfl, (blk_cell h 4).trans rfl, (blk_cell h 5).trans rfl, (blk_cell h 6).trans rfl, (blk_cell h 7).trans rfl, (blk_cell h 8).trans rfl, (blk_cell h 9).trans rfl⟩
theorem alike_num (x : S30) (h0 : -9223372036854775808 ≤ x.f2) (h1 : x.f2 ≤ 9223372036854775807) : alike x ⟨x.f0, x.f1, wrap64 (x.f2 + 1), x.f3, x.f4, x.f5, x.f6⟩ = false := by
  rw [alike_def]
  have : (x.f2 == wrap64 (x.f2 + 1)) = false := by apply beq_false; unfold wrap64; omega
  simp only [this, Bool.false_and, Bool.and_false]
theorem alike_text (x : S30) : alike ⟨x.f0, x.f1, x.f2, x.f3 ++ ⟨#[122]⟩, x.f4, x.f5, x.f6⟩ x = false := by
  rw [alike_def]
  have : ((x.f3 ++ ⟨#[122]⟩ : ByteArray).toList == x.f3.toList) = false := by
    apply toList_beq_false
    intro h
    have h2 := congrArg List.length h
    rw [ByteArray.toList_eq, ByteArray.toList_eq] at h2
    simp at h2
  simp only [this, Bool.false_and, Bool.and_false]
theorem alikes_len {xs ys : List S30} (h : xs.length ≠ ys.length) : alikes xs ys = false := by
  rw [← Bool.not_eq_true, alikes_iff]; rintro ⟨h1, _⟩; exact h h1
theorem alike_more (x : S30) (ys : List S30) (h : x.f4 ++ [zU] = ys) : alike x ⟨x.f0, x.f1, x.f2, x.f3, ys, x.f5, x.f6⟩ = false := by
  rw [alike_def]
  have : alikes x.f4 ys = false := alikes_len (by rw [← h]; simp)
  simp only [this, Bool.and_false]
theorem alike_more' (x : S30) (ys : List S30) (h : x.f4 ++ [zU] = ys) : alike ⟨x.f0, x.f1, x.f2, x.f3, ys, x.f5, x.f6⟩ x = false := by
  rw [alike_def]
  have : alikes ys x.f4 = false := alikes_len (by rw [← h]; simp)
  simp only [this, Bool.and_false]
theorem alike_at (x : S30) (n : Int) (t : S28) : alike x ⟨x.f0, n, x.f2, x.f3, x.f4, x.f5, t⟩ = true := by
  have := alike_self x; rw [alike_def] at this ⊢; exact this
theorem alike_at' (x : S30) (n : Int) (t : S28) : alike ⟨x.f0, n, x.f2, x.f3, x.f4, x.f5, t⟩ x = true := by
  have := alike_self x; rw [alike_def] at this ⊢; exact this

set_option maxHeartbeats 4000000 in
set_option maxRecDepth 100000 in
theorem unlike_any (x : S30) (at_ : Int) (k : Nat) (dp : Int) (A4 : Option Addr) (c4 : Nat) (A5 : Option Addr) (c5 : Nat) (A9 : Option Addr) (c9 : Nat) (w : World)
    (g4 : k30.C w A4 x.f4.length x.f4) (l4 : x.f4.length ≤ c4) (g5 : k28.C w A5 x.f5.length x.f5) (l5 : x.f5.length ≤ c5) (g9 : k28.C w A9 x.f6.f3.length x.f6.f3) (l9 : x.f6.f3.length ≤ c9)
    (hd : ferrulelaw04_deep.f k x.f0 x.f1 x.f2 x.f3 x.f4 x.f5 x.f6.f0 x.f6.f1 x.f6.f2 x.f6.f3 = some dp) (hk : x.f4.length * 144 ≤ 140737488351232) (hn : (Lit.int .i64 x.f2).wf = true) (hst : x.f3.size ≤ 140737488351232) :
    Calls Try.prog 4 #[.agg #[.int .i64 x.f0, .int .i64 x.f1, .int .i64 x.f2, .string x.f3, .slice A4 x.f4.length c4, .slice A5 x.f5.length c5, .int .i64 x.f6.f0, .string x.f6.f1, .int .i64 x.f6.f2, .slice A9 x.f6.f3.length c9], .int .i64 at_] w fun e w' => e = .returned (.bool true) ∧ Below w.heap.size w w' := by
  have L1 := Aside0.mk l4
  have L2 := Aside0.mk g4
  have L3 := Aside0.mk l5
  have L4 := Aside0.mk g5
  have L5 := Aside0.mk l9
  have L6 := Aside0.mk g9
  have HD := Aside0.mk hd
  have HK1 : Aside0 ((([] : List S30).length + x.f4.length) * 144 ≤ 140737488355328) := ⟨by simp; omega⟩
  have HK2 : Aside0 ((x.f4.length + 1) * 144 ≤ 140737488355328) := ⟨by omega⟩
  have HN : Aside0 (-9223372036854775808 ≤ x.f2 ∧ x.f2 ≤ 9223372036854775807) := ⟨bounds_i64 hn⟩
  clear hk hn
  clear l4 g4 l5 g5 l9 g9 hd
  have hu30 := Try.underlying30
  by_cases h15 : dp ≥ 15
  · go_enter Try.func4, Try.ntmps4
    go_wp2_with (go_at_call 9; (with_reducible refine (ferrulelaw04_deep.calls k _ _ _ _ _ _ _ _ _ _ _ _ _ _ _ _ dp _ ?side1 L1.out ?side2 L3.out ?side3 L5.out HD.out).mono ?_); (case side1 => exact Kd.C_alloc L2.out _); (case side2 => exact Kd.C_alloc L4.out _); (case side3 => exact Kd.C_alloc L6.out _); rintro e w2 ⟨rfl, hb⟩)
    go_ret
    exact ⟨rfl, below_step (below_alloc (Below.refl _ _) _) hb⟩
  · have h15b : decide (dp ≥ 15) = false := decide_eq_false h15
    go_enter Try.func4, Try.ntmps4
    go_wp2_with (go_at_call 9; (with_reducible refine (ferrulelaw04_deep.calls k _ _ _ _ _ _ _ _ _ _ _ _ _ _ _ _ dp _ ?side1 L1.out ?side2 L3.out ?side3 L5.out HD.out).mono ?_); (case side1 => exact Kd.C_alloc L2.out _); (case side2 => exact Kd.C_alloc L4.out _); (case side3 => exact Kd.C_alloc L6.out _); rintro e w2 ⟨rfl, hb⟩)
    have HB : Aside0 (Below w.heap.size w w2.drew) := ⟨below_drew (below_step (below_alloc (Below.refl _ _) _) hb)⟩
    have BX : Aside0 (w2.drew.heap[w.heap.size]? = some (.cells #[.int .i64 x.f0, .int .i64 x.f1, .int .i64 x.f2, .string x.f3, .slice A4 x.f4.length c4, .slice A5 x.f5.length c5, .int .i64 x.f6.f0, .string x.f6.f1, .int .i64 x.f6.f2, .slice A9 x.f6.f3.length c9] 30 (0, 0))) := ⟨blk_drew (blk_below (blk_new w _) hb)⟩
    have DD : Aside0 (True) := ⟨trivial⟩
    clear hb
    refine start_ (n := 12) (S := fun w' => True) (ds := []) #[false, false, false, false, false, false, false, false, false, false, false, false] (by kernel_rfl) rfl rfl trivial (fun hHeld => ?_)
    refine with_tabW tab3 bits3 (fun HT_ HW_ => ?_)
    refine inv_at [0, 1, 2, 3, 4, 5, 6, 7, 8, 9, 10, 11] (fun a0_ b a w' => ∃ (g4 : Nat) (g5 : Nat) (g6 : Nat) (g7 : Nat) (m4_ : Value) (m5_ : Value) (m6_ : Value) (m7_ : Value), a = putSel a0_ b [(0, 12, .agg #[.int .i64 x.f0, .int .i64 x.f1, .int .i64 x.f2, .string x.f3, .slice A4 x.f4.length c4, .slice A5 x.f5.length c5, .int .i64 x.f6.f0, .string x.f6.f1, .int .i64 x.f6.f2, .slice A9 x.f6.f3.length c9]), (1, 13, .agg #[.int .i64 x.f0, .int .i64 x.f1, .int .i64 x.f2, .string x.f3, .slice A4 x.f4.length c4, .slice A5 x.f5.length c5, .int .i64 x.f6.f0, .string x.f6.f1, .int .i64 x.f6.f2, .slice A9 x.f6.f3.length c9]), (2, 14, .agg #[.int .i64 x.f0, .int .i64 x.f1, .int .i64 x.f2, .string x.f3, .slice A4 x.f4.length c4, .slice A5 x.f5.length c5, .int .i64 x.f6.f0, .string x.f6.f1, .int .i64 x.f6.f2, .slice A9 x.f6.f3.length c9]), (3, 15, .agg #[.int .i64 x.f0, .int .i64 x.f1, .int .i64 x.f2, .string x.f3, .slice A4 x.f4.length c4, .slice A5 x.f5.length c5, .int .i64 x.f6.f0, .string x.f6.f1, .int .i64 x.f6.f2, .slice A9 x.f6.f3.length c9]), (4, 5, m4_), (5, 6, m5_), (6, 7, m6_), (7, 8, m7_)] ∧ (Below w.heap.size w w') ∧ (w'.heap[w.heap.size]? = some (.cells #[.int .i64 x.f0, .int .i64 x.f1, .int .i64 x.f2, .string x.f3, .slice A4 x.f4.length c4, .slice A5 x.f5.length c5, .int .i64 x.f6.f0, .string x.f6.f1, .int .i64 x.f6.f2, .slice A9 x.f6.f3.length c9] 30 (0, 0))) ∧ ((b 4 = true → b 5 = true → g4 ≠ g5) ∧ (b 4 = true → b 6 = true → g4 ≠ g6) ∧ (b 4 = true → b 7 = true → g4 ≠ g7) ∧ (b 5 = true → b 6 = true → g5 ≠ g6) ∧ (b 5 = true → b 7 = true → g5 ≠ g7) ∧ (b 6 = true → b 7 = true → g6 ≠ g7)) ∧ (b 4 = true → w.heap.size < g4 ∧ g4 < w'.heap.size) ∧ (b 4 = true → b 8 = false → w'.heap[g4]? = some (.cells #[.int .i64 0, .int .i64 0, .int .i64 0, .string ByteArray.empty, .slice none 0 0, .slice none 0 0, .int .i64 0, .string ByteArray.empty, .int .i64 0, .slice none 0 0] 30 (0, 0))) ∧ (b 8 = true → w'.heap[g4]? = some (.cells #[.int .i64 x.f0, .int .i64 x.f1, .int .i64 x.f2, .string x.f3, .slice A4 x.f4.length c4, .slice A5 x.f5.length c5, .int .i64 x.f6.f0, .string x.f6.f1, .int .i64 x.f6.f2, .slice A9 x.f6.f3.length c9] 30 (0, 0))) ∧ (b 5 = true → w.heap.size < g5 ∧ g5 < w'.heap.size) ∧ (b 5 = true → b 9 = false → w'.heap[g5]? = some (.cells #[.int .i64 0, .int .i64 0, .int .i64 0, .string ByteArray.empty, .slice none 0 0, .slice none 0 0, .int .i64 0, .string ByteArray.empty, .int .i64 0, .slice none 0 0] 30 (0, 0))) ∧ (b 9 = true → w'.heap[g5]? = some (.cells #[.int .i64 x.f0, .int .i64 x.f1, .int .i64 x.f2, .string x.f3, .slice A4 x.f4.length c4, .slice A5 x.f5.length c5, .int .i64 x.f6.f0, .string x.f6.f1, .int .i64 x.f6.f2, .slice A9 x.f6.f3.length c9] 30 (0, 0))) ∧ (b 6 = true → w.heap.size < g6 ∧ g6 < w'.heap.size) ∧ (b 6 = true → b 10 = false → w'.heap[g6]? = some (.cells #[.int .i64 0, .int .i64 0, .int .i64 0, .string ByteArray.empty, .slice none 0 0, .slice none 0 0, .int .i64 0, .string ByteArray.empty, .int .i64 0, .slice none 0 0] 30 (0, 0))) ∧ (b 10 = true → w'.heap[g6]? = some (.cells #[.int .i64 x.f0, .int .i64 x.f1, .int .i64 x.f2, .string x.f3, .slice A4 x.f4.length c4, .slice A5 x.f5.length c5, .int .i64 x.f6.f0, .string x.f6.f1, .int .i64 x.f6.f2, .slice A9 x.f6.f3.length c9] 30 (0, 0))) ∧ (b 7 = true → w.heap.size < g7 ∧ g7 < w'.heap.size) ∧ (b 7 = true → b 11 = false → w'.heap[g7]? = some (.cells #[.int .i64 0, .int .i64 0, .int .i64 0, .string ByteArray.empty, .slice none 0 0, .slice none 0 0, .int .i64 0, .string ByteArray.empty, .int .i64 0, .slice none 0 0] 30 (0, 0))) ∧ (b 11 = true → w'.heap[g7]? = some (.cells #[.int .i64 x.f0, .int .i64 x.f1, .int .i64 x.f2, .string x.f3, .slice A4 x.f4.length c4, .slice A5 x.f5.length c5, .int .i64 x.f6.f0, .string x.f6.f1, .int .i64 x.f6.f2, .slice A9 x.f6.f3.length c9] 30 (0, 0))) ∧ (b 4 = true → (m4_ : Value) = .pointer (some ⟨g4, 0, none⟩)) ∧ (b 5 = true → (m5_ : Value) = .pointer (some ⟨g5, 0, none⟩)) ∧ (b 6 = true → (m6_ : Value) = .pointer (some ⟨g6, 0, none⟩)) ∧ (b 7 = true → (m7_ : Value) = .pointer (some ⟨g7, 0, none⟩))) HT_.out HW_.out (by kernel_rfl) (by kernel_rfl) ?_ ?_ ?_
    · exact ⟨0, 0, 0, 0, .bool false, .bool false, .bool false, .bool false, by simp only [putSel, Bool.false_eq_true, if_false], HB.out, BX.out, ⟨fun h => absurd h (by decide), fun h => absurd h (by decide), fun h => absurd h (by decide), fun h => absurd h (by decide), fun h => absurd h (by decide), fun h => absurd h (by decide)⟩, fun h_ => absurd h_ (by decide), fun h_ => absurd h_ (by decide), fun h_ => absurd h_ (by decide), fun h_ => absurd h_ (by decide), fun h_ => absurd h_ (by decide), fun h_ => absurd h_ (by decide), fun h_ => absurd h_ (by decide), fun h_ => absurd h_ (by decide), fun h_ => absurd h_ (by decide), fun h_ => absurd h_ (by decide), fun h_ => absurd h_ (by decide), fun h_ => absurd h_ (by decide), fun h_ => absurd h_ (by decide), fun h_ => absurd h_ (by decide), fun h_ => absurd h_ (by decide), fun h_ => absurd h_ (by decide)⟩
    · skip
      clear BX DD HB
      refine steps_cons ?_ ?_
      · rintro b a w' ⟨g4, g5, g6, g7, m4_, m5_, m6_, m7_, ha, Q_HB, Q_BX, Q_DD, Q_G4, Q_C4, Q_S4, Q_G5, Q_C5, Q_S5, Q_G6, Q_C6, Q_S6, Q_G7, Q_C7, Q_S7, Q_X4_, Q_X5_, Q_X6_, Q_X7_⟩ hb_ hon hoff
        refine ⟨_, rfl, fun K hK => ?_⟩
        have e2 : a.tmps[2]? = some (.pointer (some ⟨w.heap.size, 0, none⟩)) := by rw [ha]; exact (putSel_off rfl).trans rfl
        replace ha := Aside0.mk ha
        have HB := Aside0.mk Q_HB
        have BX := Aside0.mk Q_BX
        have DD := Aside0.mk Q_DD
        have hz0 : w'.cell? ⟨w.heap.size, 0, none⟩ = some (.int .i64 x.f0) := (blk_cell BX.out 0).trans rfl
        have hz1 : w'.cell? ⟨w.heap.size, 1, none⟩ = some (.int .i64 x.f1) := (blk_cell BX.out 1).trans rfl
        have hz2 : w'.cell? ⟨w.heap.size, 2, none⟩ = some (.int .i64 x.f2) := (blk_cell BX.out 2).trans rfl
        have hz3 : w'.cell? ⟨w.heap.size, 3, none⟩ = some (.string x.f3) := (blk_cell BX.out 3).trans rfl
        have hz4 : w'.cell? ⟨w.heap.size, 4, none⟩ = some (.slice A4 x.f4.length c4) := (blk_cell BX.out 4).trans rfl
        have hz5 : w'.cell? ⟨w.heap.size, 5, none⟩ = some (.slice A5 x.f5.length c5) := (blk_cell BX.out 5).trans rfl
        have hz6 : w'.cell? ⟨w.heap.size, 6, none⟩ = some (.int .i64 x.f6.f0) := (blk_cell BX.out 6).trans rfl
        have hz7 : w'.cell? ⟨w.heap.size, 7, none⟩ = some (.string x.f6.f1) := (blk_cell BX.out 7).trans rfl
        have hz8 : w'.cell? ⟨w.heap.size, 8, none⟩ = some (.int .i64 x.f6.f2) := (blk_cell BX.out 8).trans rfl
        have hz9 : w'.cell? ⟨w.heap.size, 9, none⟩ = some (.slice A9 x.f6.f3.length c9) := (blk_cell BX.out 9).trans rfl
        refine value_ (w1 := w') (v := .agg #[.int .i64 x.f0, .int .i64 x.f1, .int .i64 x.f2, .string x.f3, .slice A4 x.f4.length c4, .slice A5 x.f5.length c5, .int .i64 x.f6.f0, .string x.f6.f1, .int .i64 x.f6.f2, .slice A9 x.f6.f3.length c9]) (by rfl) rfl ?_ ?_
        · go_simp
          (try simp only [i64_w])
          try rfl
        refine hK.out _ _ ⟨g4, g5, g6, g7, m4_, m5_, m6_, m7_, (by rw [ha.out]; exact putSel_upk 0 hb_ rfl rfl rfl), Q_HB, Q_BX, Q_DD, Q_G4, Q_C4, fun h0_ => absurd ((hoff 8 (by kernel_rfl)).symm.trans h0_) (by decide), Q_G5, Q_C5, fun h0_ => absurd ((hoff 9 (by kernel_rfl)).symm.trans h0_) (by decide), Q_G6, Q_C6, fun h0_ => absurd ((hoff 10 (by kernel_rfl)).symm.trans h0_) (by decide), Q_G7, Q_C7, fun h0_ => absurd ((hoff 11 (by kernel_rfl)).symm.trans h0_) (by decide), Q_X4_, Q_X5_, Q_X6_, Q_X7_⟩
      refine steps_cons ?_ ?_
      · rintro b a w' ⟨g4, g5, g6, g7, m4_, m5_, m6_, m7_, ha, Q_HB, Q_BX, Q_DD, Q_G4, Q_C4, Q_S4, Q_G5, Q_C5, Q_S5, Q_G6, Q_C6, Q_S6, Q_G7, Q_C7, Q_S7, Q_X4_, Q_X5_, Q_X6_, Q_X7_⟩ hb_ hon hoff
        refine ⟨_, rfl, fun K hK => ?_⟩
        have e2 : a.tmps[2]? = some (.pointer (some ⟨w.heap.size, 0, none⟩)) := by rw [ha]; exact (putSel_off rfl).trans rfl
        replace ha := Aside0.mk ha
        have HB := Aside0.mk Q_HB
        have BX := Aside0.mk Q_BX
        have DD := Aside0.mk Q_DD
        have hz0 : w'.cell? ⟨w.heap.size, 0, none⟩ = some (.int .i64 x.f0) := (blk_cell BX.out 0).trans rfl
        have hz1 : w'.cell? ⟨w.heap.size, 1, none⟩ = some (.int .i64 x.f1) := (blk_cell BX.out 1).trans rfl
        have hz2 : w'.cell? ⟨w.heap.size, 2, none⟩ = some (.int .i64 x.f2) := (blk_cell BX.out 2).trans rfl
        have hz3 : w'.cell? ⟨w.heap.size, 3, none⟩ = some (.string x.f3) := (blk_cell BX.out 3).trans rfl
        have hz4 : w'.cell? ⟨w.heap.size, 4, none⟩ = some (.slice A4 x.f4.length c4) := (blk_cell BX.out 4).trans rfl
        have hz5 : w'.cell? ⟨w.heap.size, 5, none⟩ = some (.slice A5 x.f5.length c5) := (blk_cell BX.out 5).trans rfl
        have hz6 : w'.cell? ⟨w.heap.size, 6, none⟩ = some (.int .i64 x.f6.f0) := (blk_cell BX.out 6).trans rfl
        have hz7 : w'.cell? ⟨w.heap.size, 7, none⟩ = some (.string x.f6.f1) := (blk_cell BX.out 7).trans rfl
        have hz8 : w'.cell? ⟨w.heap.size, 8, none⟩ = some (.int .i64 x.f6.f2) := (blk_cell BX.out 8).trans rfl
        have hz9 : w'.cell? ⟨w.heap.size, 9, none⟩ = some (.slice A9 x.f6.f3.length c9) := (blk_cell BX.out 9).trans rfl
        refine value_ (w1 := w') (v := .agg #[.int .i64 x.f0, .int .i64 x.f1, .int .i64 x.f2, .string x.f3, .slice A4 x.f4.length c4, .slice A5 x.f5.length c5, .int .i64 x.f6.f0, .string x.f6.f1, .int .i64 x.f6.f2, .slice A9 x.f6.f3.length c9]) (by rfl) rfl ?_ ?_
        · go_simp
          (try simp only [i64_w])
          try rfl
        refine hK.out _ _ ⟨g4, g5, g6, g7, m4_, m5_, m6_, m7_, (by rw [ha.out]; exact putSel_upk 1 hb_ rfl rfl rfl), Q_HB, Q_BX, Q_DD, Q_G4, Q_C4, Q_S4, Q_G5, Q_C5, fun h0_ => absurd ((hoff 9 (by kernel_rfl)).symm.trans h0_) (by decide), Q_G6, Q_C6, fun h0_ => absurd ((hoff 10 (by kernel_rfl)).symm.trans h0_) (by decide), Q_G7, Q_C7, fun h0_ => absurd ((hoff 11 (by kernel_rfl)).symm.trans h0_) (by decide), Q_X4_, Q_X5_, Q_X6_, Q_X7_⟩
      refine steps_cons ?_ ?_
      · rintro b a w' ⟨g4, g5, g6, g7, m4_, m5_, m6_, m7_, ha, Q_HB, Q_BX, Q_DD, Q_G4, Q_C4, Q_S4, Q_G5, Q_C5, Q_S5, Q_G6, Q_C6, Q_S6, Q_G7, Q_C7, Q_S7, Q_X4_, Q_X5_, Q_X6_, Q_X7_⟩ hb_ hon hoff
        refine ⟨_, rfl, fun K hK => ?_⟩
        have e2 : a.tmps[2]? = some (.pointer (some ⟨w.heap.size, 0, none⟩)) := by rw [ha]; exact (putSel_off rfl).trans rfl
        replace ha := Aside0.mk ha
        have HB := Aside0.mk Q_HB
        have BX := Aside0.mk Q_BX
        have DD := Aside0.mk Q_DD
        have hz0 : w'.cell? ⟨w.heap.size, 0, none⟩ = some (.int .i64 x.f0) := (blk_cell BX.out 0).trans rfl
        have hz1 : w'.cell? ⟨w.heap.size, 1, none⟩ = some (.int .i64 x.f1) := (blk_cell BX.out 1).trans rfl
        have hz2 : w'.cell? ⟨w.heap.size, 2, none⟩ = some (.int .i64 x.f2) := (blk_cell BX.out 2).trans rfl
        have hz3 : w'.cell? ⟨w.heap.size, 3, none⟩ = some (.string x.f3) := (blk_cell BX.out 3).trans rfl
        have hz4 : w'.cell? ⟨w.heap.size, 4, none⟩ = some (.slice A4 x.f4.length c4) := (blk_cell BX.out 4).trans rfl
        have hz5 : w'.cell? ⟨w.heap.size, 5, none⟩ = some (.slice A5 x.f5.length c5) := (blk_cell BX.out 5).trans rfl
        have hz6 : w'.cell? ⟨w.heap.size, 6, none⟩ = some (.int .i64 x.f6.f0) := (blk_cell BX.out 6).trans rfl
        have hz7 : w'.cell? ⟨w.heap.size, 7, none⟩ = some (.string x.f6.f1) := (blk_cell BX.out 7).trans rfl
        have hz8 : w'.cell? ⟨w.heap.size, 8, none⟩ = some (.int .i64 x.f6.f2) := (blk_cell BX.out 8).trans rfl
        have hz9 : w'.cell? ⟨w.heap.size, 9, none⟩ = some (.slice A9 x.f6.f3.length c9) := (blk_cell BX.out 9).trans rfl
        refine value_ (w1 := w') (v := .agg #[.int .i64 x.f0, .int .i64 x.f1, .int .i64 x.f2, .string x.f3, .slice A4 x.f4.length c4, .slice A5 x.f5.length c5, .int .i64 x.f6.f0, .string x.f6.f1, .int .i64 x.f6.f2, .slice A9 x.f6.f3.length c9]) (by rfl) rfl ?_ ?_
        · go_simp
          (try simp only [i64_w])
          try rfl
        refine hK.out _ _ ⟨g4, g5, g6, g7, m4_, m5_, m6_, m7_, (by rw [ha.out]; exact putSel_upk 2 hb_ rfl rfl rfl), Q_HB, Q_BX, Q_DD, Q_G4, Q_C4, Q_S4, Q_G5, Q_C5, Q_S5, Q_G6, Q_C6, fun h0_ => absurd ((hoff 10 (by kernel_rfl)).symm.trans h0_) (by decide), Q_G7, Q_C7, fun h0_ => absurd ((hoff 11 (by kernel_rfl)).symm.trans h0_) (by decide), Q_X4_, Q_X5_, Q_X6_, Q_X7_⟩
      refine steps_cons ?_ ?_
      · rintro b a w' ⟨g4, g5, g6, g7, m4_, m5_, m6_, m7_, ha, Q_HB, Q_BX, Q_DD, Q_G4, Q_C4, Q_S4, Q_G5, Q_C5, Q_S5, Q_G6, Q_C6, Q_S6, Q_G7, Q_C7, Q_S7, Q_X4_, Q_X5_, Q_X6_, Q_X7_⟩ hb_ hon hoff
        refine ⟨_, rfl, fun K hK => ?_⟩
        have e2 : a.tmps[2]? = some (.pointer (some ⟨w.heap.size, 0, none⟩)) := by rw [ha]; exact (putSel_off rfl).trans rfl
        replace ha := Aside0.mk ha
        have HB := Aside0.mk Q_HB
        have BX := Aside0.mk Q_BX
        have DD := Aside0.mk Q_DD
        have hz0 : w'.cell? ⟨w.heap.size, 0, none⟩ = some (.int .i64 x.f0) := (blk_cell BX.out 0).trans rfl
        have hz1 : w'.cell? ⟨w.heap.size, 1, none⟩ = some (.int .i64 x.f1) := (blk_cell BX.out 1).trans rfl
        have hz2 : w'.cell? ⟨w.heap.size, 2, none⟩ = some (.int .i64 x.f2) := (blk_cell BX.out 2).trans rfl
        have hz3 : w'.cell? ⟨w.heap.size, 3, none⟩ = some (.string x.f3) := (blk_cell BX.out 3).trans rfl
        have hz4 : w'.cell? ⟨w.heap.size, 4, none⟩ = some (.slice A4 x.f4.length c4) := (blk_cell BX.out 4).trans rfl
        have hz5 : w'.cell? ⟨w.heap.size, 5, none⟩ = some (.slice A5 x.f5.length c5) := (blk_cell BX.out 5).trans rfl
        have hz6 : w'.cell? ⟨w.heap.size, 6, none⟩ = some (.int .i64 x.f6.f0) := (blk_cell BX.out 6).trans rfl
        have hz7 : w'.cell? ⟨w.heap.size, 7, none⟩ = some (.string x.f6.f1) := (blk_cell BX.out 7).trans rfl
        have hz8 : w'.cell? ⟨w.heap.size, 8, none⟩ = some (.int .i64 x.f6.f2) := (blk_cell BX.out 8).trans rfl
        have hz9 : w'.cell? ⟨w.heap.size, 9, none⟩ = some (.slice A9 x.f6.f3.length c9) := (blk_cell BX.out 9).trans rfl
        refine value_ (w1 := w') (v := .agg #[.int .i64 x.f0, .int .i64 x.f1, .int .i64 x.f2, .string x.f3, .slice A4 x.f4.length c4, .slice A5 x.f5.length c5, .int .i64 x.f6.f0, .string x.f6.f1, .int .i64 x.f6.f2, .slice A9 x.f6.f3.length c9]) (by rfl) rfl ?_ ?_
        · go_simp
          (try simp only [i64_w])
          try rfl
        refine hK.out _ _ ⟨g4, g5, g6, g7, m4_, m5_, m6_, m7_, (by rw [ha.out]; exact putSel_upk 3 hb_ rfl rfl rfl), Q_HB, Q_BX, Q_DD, Q_G4, Q_C4, Q_S4, Q_G5, Q_C5, Q_S5, Q_G6, Q_C6, Q_S6, Q_G7, Q_C7, fun h0_ => absurd ((hoff 11 (by kernel_rfl)).symm.trans h0_) (by decide), Q_X4_, Q_X5_, Q_X6_, Q_X7_⟩
      refine steps_cons ?_ ?_
      · rintro b a w' ⟨g4, g5, g6, g7, m4_, m5_, m6_, m7_, ha, Q_HB, Q_BX, Q_DD, Q_G4, Q_C4, Q_S4, Q_G5, Q_C5, Q_S5, Q_G6, Q_C6, Q_S6, Q_G7, Q_C7, Q_S7, Q_X4_, Q_X5_, Q_X6_, Q_X7_⟩ hb_ hon hoff
        refine ⟨_, rfl, fun K hK => ?_⟩
        replace ha := Aside0.mk ha
        have HB := Aside0.mk Q_HB
        have BX := Aside0.mk Q_BX
        have DD := Aside0.mk Q_DD
        have hlt_ : w.heap.size < w'.heap.size := blk_lt BX.out
        refine box_step (by rfl) (N := 5) rfl (cs := #[.int .i64 0, .int .i64 0, .int .i64 0, .string ByteArray.empty, .slice none 0 0, .slice none 0 0, .int .i64 0, .string ByteArray.empty, .int .i64 0, .slice none 0 0]) (t := 30) ?hr ?_
        (case hr => first | (go_simp; done) | (go_simp; rfl))
        intro g_ hg_ w1 hbox hb
        have hsz_ := hb.size
        have hl1_ := blk_lt hbox
        refine hK.out _ _ ⟨g_, g5, g6, g7, (.pointer (some ⟨g_, 0, none⟩)), m5_, m6_, m7_, (by rw [ha.out]; exact putSel_upk 4 hb_ rfl rfl rfl), below_step HB.out hb, blk_below BX.out hb, ⟨fun _ h => by have := (Q_G5 ((up_ne (by decide)).symm.trans h)).2; omega, fun _ h => by have := (Q_G6 ((up_ne (by decide)).symm.trans h)).2; omega, fun _ h => by have := (Q_G7 ((up_ne (by decide)).symm.trans h)).2; omega, fun h h2 => DD.out.2.2.2.1 ((up_ne (by decide)).symm.trans h) ((up_ne (by decide)).symm.trans h2), fun h h2 => DD.out.2.2.2.2.1 ((up_ne (by decide)).symm.trans h) ((up_ne (by decide)).symm.trans h2), fun h h2 => DD.out.2.2.2.2.2 ((up_ne (by decide)).symm.trans h) ((up_ne (by decide)).symm.trans h2)⟩, fun _ => ⟨by omega, by omega⟩, fun _ _ => hbox, fun h0_ => absurd ((hoff 8 (by kernel_rfl)).symm.trans h0_) (by decide), fun h0_ => ⟨(Q_G5 h0_).1, by have := (Q_G5 h0_).2; omega⟩, fun h0_ h1_ => blk_below (Q_C5 h0_ h1_) hb, fun h0_ => absurd ((hoff 9 (by kernel_rfl)).symm.trans h0_) (by decide), fun h0_ => ⟨(Q_G6 h0_).1, by have := (Q_G6 h0_).2; omega⟩, fun h0_ h1_ => blk_below (Q_C6 h0_ h1_) hb, fun h0_ => absurd ((hoff 10 (by kernel_rfl)).symm.trans h0_) (by decide), fun h0_ => ⟨(Q_G7 h0_).1, by have := (Q_G7 h0_).2; omega⟩, fun h0_ h1_ => blk_below (Q_C7 h0_ h1_) hb, fun h0_ => absurd ((hoff 11 (by kernel_rfl)).symm.trans h0_) (by decide), fun _ => rfl, Q_X5_, Q_X6_, Q_X7_⟩
      refine steps_cons ?_ ?_
      · rintro b a w' ⟨g4, g5, g6, g7, m4_, m5_, m6_, m7_, ha, Q_HB, Q_BX, Q_DD, Q_G4, Q_C4, Q_S4, Q_G5, Q_C5, Q_S5, Q_G6, Q_C6, Q_S6, Q_G7, Q_C7, Q_S7, Q_X4_, Q_X5_, Q_X6_, Q_X7_⟩ hb_ hon hoff
        refine ⟨_, rfl, fun K hK => ?_⟩
        replace ha := Aside0.mk ha
        have HB := Aside0.mk Q_HB
        have BX := Aside0.mk Q_BX
        have DD := Aside0.mk Q_DD
        have hlt_ : w.heap.size < w'.heap.size := blk_lt BX.out
        refine box_step (by rfl) (N := 6) rfl (cs := #[.int .i64 0, .int .i64 0, .int .i64 0, .string ByteArray.empty, .slice none 0 0, .slice none 0 0, .int .i64 0, .string ByteArray.empty, .int .i64 0, .slice none 0 0]) (t := 30) ?hr ?_
        (case hr => first | (go_simp; done) | (go_simp; rfl))
        intro g_ hg_ w1 hbox hb
        have hsz_ := hb.size
        have hl1_ := blk_lt hbox
        refine hK.out _ _ ⟨g4, g_, g6, g7, m4_, (.pointer (some ⟨g_, 0, none⟩)), m6_, m7_, (by rw [ha.out]; exact putSel_upk 5 hb_ rfl rfl rfl), below_step HB.out hb, blk_below BX.out hb, ⟨fun h _ => by have := (Q_G4 ((up_ne (by decide)).symm.trans h)).2; omega, fun h h2 => DD.out.2.1 ((up_ne (by decide)).symm.trans h) ((up_ne (by decide)).symm.trans h2), fun h h2 => DD.out.2.2.1 ((up_ne (by decide)).symm.trans h) ((up_ne (by decide)).symm.trans h2), fun _ h => by have := (Q_G6 ((up_ne (by decide)).symm.trans h)).2; omega, fun _ h => by have := (Q_G7 ((up_ne (by decide)).symm.trans h)).2; omega, fun h h2 => DD.out.2.2.2.2.2 ((up_ne (by decide)).symm.trans h) ((up_ne (by decide)).symm.trans h2)⟩, fun h0_ => ⟨(Q_G4 h0_).1, by have := (Q_G4 h0_).2; omega⟩, fun h0_ h1_ => blk_below (Q_C4 h0_ h1_) hb, fun h0_ => absurd ((hoff 8 (by kernel_rfl)).symm.trans h0_) (by decide), fun _ => ⟨by omega, by omega⟩, fun _ _ => hbox, fun h0_ => absurd ((hoff 9 (by kernel_rfl)).symm.trans h0_) (by decide), fun h0_ => ⟨(Q_G6 h0_).1, by have := (Q_G6 h0_).2; omega⟩, fun h0_ h1_ => blk_below (Q_C6 h0_ h1_) hb, fun h0_ => absurd ((hoff 10 (by kernel_rfl)).symm.trans h0_) (by decide), fun h0_ => ⟨(Q_G7 h0_).1, by have := (Q_G7 h0_).2; omega⟩, fun h0_ h1_ => blk_below (Q_C7 h0_ h1_) hb, fun h0_ => absurd ((hoff 11 (by kernel_rfl)).symm.trans h0_) (by decide), Q_X4_, fun _ => rfl, Q_X6_, Q_X7_⟩
      refine steps_cons ?_ ?_
      · rintro b a w' ⟨g4, g5, g6, g7, m4_, m5_, m6_, m7_, ha, Q_HB, Q_BX, Q_DD, Q_G4, Q_C4, Q_S4, Q_G5, Q_C5, Q_S5, Q_G6, Q_C6, Q_S6, Q_G7, Q_C7, Q_S7, Q_X4_, Q_X5_, Q_X6_, Q_X7_⟩ hb_ hon hoff
        refine ⟨_, rfl, fun K hK => ?_⟩
        replace ha := Aside0.mk ha
        have HB := Aside0.mk Q_HB
        have BX := Aside0.mk Q_BX
        have DD := Aside0.mk Q_DD
        have hlt_ : w.heap.size < w'.heap.size := blk_lt BX.out
        refine box_step (by rfl) (N := 7) rfl (cs := #[.int .i64 0, .int .i64 0, .int .i64 0, .string ByteArray.empty, .slice none 0 0, .slice none 0 0, .int .i64 0, .string ByteArray.empty, .int .i64 0, .slice none 0 0]) (t := 30) ?hr ?_
        (case hr => first | (go_simp; done) | (go_simp; rfl))
        intro g_ hg_ w1 hbox hb
        have hsz_ := hb.size
        have hl1_ := blk_lt hbox
        refine hK.out _ _ ⟨g4, g5, g_, g7, m4_, m5_, (.pointer (some ⟨g_, 0, none⟩)), m7_, (by rw [ha.out]; exact putSel_upk 6 hb_ rfl rfl rfl), below_step HB.out hb, blk_below BX.out hb, ⟨fun h h2 => DD.out.1 ((up_ne (by decide)).symm.trans h) ((up_ne (by decide)).symm.trans h2), fun h _ => by have := (Q_G4 ((up_ne (by decide)).symm.trans h)).2; omega, fun h h2 => DD.out.2.2.1 ((up_ne (by decide)).symm.trans h) ((up_ne (by decide)).symm.trans h2), fun h _ => by have := (Q_G5 ((up_ne (by decide)).symm.trans h)).2; omega, fun h h2 => DD.out.2.2.2.2.1 ((up_ne (by decide)).symm.trans h) ((up_ne (by decide)).symm.trans h2), fun _ h => by have := (Q_G7 ((up_ne (by decide)).symm.trans h)).2; omega⟩, fun h0_ => ⟨(Q_G4 h0_).1, by have := (Q_G4 h0_).2; omega⟩, fun h0_ h1_ => blk_below (Q_C4 h0_ h1_) hb, fun h0_ => absurd ((hoff 8 (by kernel_rfl)).symm.trans h0_) (by decide), fun h0_ => ⟨(Q_G5 h0_).1, by have := (Q_G5 h0_).2; omega⟩, fun h0_ h1_ => blk_below (Q_C5 h0_ h1_) hb, fun h0_ => absurd ((hoff 9 (by kernel_rfl)).symm.trans h0_) (by decide), fun _ => ⟨by omega, by omega⟩, fun _ _ => hbox, fun h0_ => absurd ((hoff 10 (by kernel_rfl)).symm.trans h0_) (by decide), fun h0_ => ⟨(Q_G7 h0_).1, by have := (Q_G7 h0_).2; omega⟩, fun h0_ h1_ => blk_below (Q_C7 h0_ h1_) hb, fun h0_ => absurd ((hoff 11 (by kernel_rfl)).symm.trans h0_) (by decide), Q_X4_, Q_X5_, fun _ => rfl, Q_X7_⟩
      refine steps_cons ?_ ?_
      · rintro b a w' ⟨g4, g5, g6, g7, m4_, m5_, m6_, m7_, ha, Q_HB, Q_BX, Q_DD, Q_G4, Q_C4, Q_S4, Q_G5, Q_C5, Q_S5, Q_G6, Q_C6, Q_S6, Q_G7, Q_C7, Q_S7, Q_X4_, Q_X5_, Q_X6_, Q_X7_⟩ hb_ hon hoff
        refine ⟨_, rfl, fun K hK => ?_⟩
        replace ha := Aside0.mk ha
        have HB := Aside0.mk Q_HB
        have BX := Aside0.mk Q_BX
        have DD := Aside0.mk Q_DD
        have hlt_ : w.heap.size < w'.heap.size := blk_lt BX.out
        refine box_step (by rfl) (N := 8) rfl (cs := #[.int .i64 0, .int .i64 0, .int .i64 0, .string ByteArray.empty, .slice none 0 0, .slice none 0 0, .int .i64 0, .string ByteArray.empty, .int .i64 0, .slice none 0 0]) (t := 30) ?hr ?_
        (case hr => first | (go_simp; done) | (go_simp; rfl))
        intro g_ hg_ w1 hbox hb
        have hsz_ := hb.size
        have hl1_ := blk_lt hbox
        refine hK.out _ _ ⟨g4, g5, g6, g_, m4_, m5_, m6_, (.pointer (some ⟨g_, 0, none⟩)), (by rw [ha.out]; exact putSel_upk 7 hb_ rfl rfl rfl), below_step HB.out hb, blk_below BX.out hb, ⟨fun h h2 => DD.out.1 ((up_ne (by decide)).symm.trans h) ((up_ne (by decide)).symm.trans h2), fun h h2 => DD.out.2.1 ((up_ne (by decide)).symm.trans h) ((up_ne (by decide)).symm.trans h2), fun h _ => by have := (Q_G4 ((up_ne (by decide)).symm.trans h)).2; omega, fun h h2 => DD.out.2.2.2.1 ((up_ne (by decide)).symm.trans h) ((up_ne (by decide)).symm.trans h2), fun h _ => by have := (Q_G5 ((up_ne (by decide)).symm.trans h)).2; omega, fun h _ => by have := (Q_G6 ((up_ne (by decide)).symm.trans h)).2; omega⟩, fun h0_ => ⟨(Q_G4 h0_).1, by have := (Q_G4 h0_).2; omega⟩, fun h0_ h1_ => blk_below (Q_C4 h0_ h1_) hb, fun h0_ => absurd ((hoff 8 (by kernel_rfl)).symm.trans h0_) (by decide), fun h0_ => ⟨(Q_G5 h0_).1, by have := (Q_G5 h0_).2; omega⟩, fun h0_ h1_ => blk_below (Q_C5 h0_ h1_) hb, fun h0_ => absurd ((hoff 9 (by kernel_rfl)).symm.trans h0_) (by decide), fun h0_ => ⟨(Q_G6 h0_).1, by have := (Q_G6 h0_).2; omega⟩, fun h0_ h1_ => blk_below (Q_C6 h0_ h1_) hb, fun h0_ => absurd ((hoff 10 (by kernel_rfl)).symm.trans h0_) (by decide), fun _ => ⟨by omega, by omega⟩, fun _ _ => hbox, fun h0_ => absurd ((hoff 11 (by kernel_rfl)).symm.trans h0_) (by decide), Q_X4_, Q_X5_, Q_X6_, fun _ => rfl⟩
      refine steps_cons ?_ ?_
      · rintro b a w' ⟨g4, g5, g6, g7, m4_, m5_, m6_, m7_, ha, Q_HB, Q_BX, Q_DD, Q_G4, Q_C4, Q_S4, Q_G5, Q_C5, Q_S5, Q_G6, Q_C6, Q_S6, Q_G7, Q_C7, Q_S7, Q_X4_, Q_X5_, Q_X6_, Q_X7_⟩ hb_ hon hoff
        refine ⟨_, rfl, fun K hK => ?_⟩
        have e5 : a.tmps[5]? = some (m4_) := by rw [ha]; exact putSel_on (e := (4, 5, m4_)) 4 rfl rfl (hon 4 (by kernel_rfl)) rfl
        rw [Q_X4_ (hon 4 (by kernel_rfl))] at e5
        have e12 : a.tmps[12]? = some (.agg #[.int .i64 x.f0, .int .i64 x.f1, .int .i64 x.f2, .string x.f3, .slice A4 x.f4.length c4, .slice A5 x.f5.length c5, .int .i64 x.f6.f0, .string x.f6.f1, .int .i64 x.f6.f2, .slice A9 x.f6.f3.length c9]) := by rw [ha]; exact putSel_on (e := (0, 12, .agg #[.int .i64 x.f0, .int .i64 x.f1, .int .i64 x.f2, .string x.f3, .slice A4 x.f4.length c4, .slice A5 x.f5.length c5, .int .i64 x.f6.f0, .string x.f6.f1, .int .i64 x.f6.f2, .slice A9 x.f6.f3.length c9])) 0 rfl rfl (hon 0 (by kernel_rfl)) rfl
        replace ha := Aside0.mk ha
        have HB := Aside0.mk Q_HB
        have BX := Aside0.mk Q_BX
        have DD := Aside0.mk Q_DD
        have G4 := Aside0.mk (Q_G4 (hon 4 (by kernel_rfl)))
        have C4 := Aside0.mk (Q_C4 (hon 4 (by kernel_rfl)) hb_)
        have G5 := Aside0.mk (Q_G5 (hon 5 (by kernel_rfl)))
        have C5 := Aside0.mk (Q_C5 (hon 5 (by kernel_rfl)) (hoff 9 (by kernel_rfl)))
        have G6 := Aside0.mk (Q_G6 (hon 6 (by kernel_rfl)))
        have C6 := Aside0.mk (Q_C6 (hon 6 (by kernel_rfl)) (hoff 10 (by kernel_rfl)))
        have G7 := Aside0.mk (Q_G7 (hon 7 (by kernel_rfl)))
        have C7 := Aside0.mk (Q_C7 (hon 7 (by kernel_rfl)) (hoff 11 (by kernel_rfl)))
        rw [if_pos (show Region.wanted _ _ = true by rfl)]
        refine wp_store_row 30 (.tmp 5) (.tmp 12) rfl g4 #[.int .i64 x.f0, .int .i64 x.f1, .int .i64 x.f2, .string x.f3, .slice A4 x.f4.length c4, .slice A5 x.f5.length c5, .int .i64 x.f6.f0, .string x.f6.f1, .int .i64 x.f6.f2, .slice A9 x.f6.f3.length c9] (eval_of e5) (eval_of e12) 30 #[.int .i64 0, .int .i64 0, .int .i64 0, .string ByteArray.empty, .slice none 0 0, .slice none 0 0, .int .i64 0, .string ByteArray.empty, .int .i64 0, .slice none 0 0] C4.out (by kernel_rfl) rfl (by simp [Value.oneCell']) ?_
        refine hK.out _ _ ⟨g4, g5, g6, g7, m4_, m5_, m6_, m7_, (by rw [ha.out]; exact putSel_none (v := undef) rfl), below_setRow HB.out (Nat.le_of_lt G4.out.1) _, (setRow_other _ _ _ _ (Nat.ne_of_lt G4.out.1)).trans BX.out, ⟨fun h h2 => DD.out.1 ((up_ne (by decide)).symm.trans h) ((up_ne (by decide)).symm.trans h2), fun h h2 => DD.out.2.1 ((up_ne (by decide)).symm.trans h) ((up_ne (by decide)).symm.trans h2), fun h h2 => DD.out.2.2.1 ((up_ne (by decide)).symm.trans h) ((up_ne (by decide)).symm.trans h2), fun h h2 => DD.out.2.2.2.1 ((up_ne (by decide)).symm.trans h) ((up_ne (by decide)).symm.trans h2), fun h h2 => DD.out.2.2.2.2.1 ((up_ne (by decide)).symm.trans h) ((up_ne (by decide)).symm.trans h2), fun h h2 => DD.out.2.2.2.2.2 ((up_ne (by decide)).symm.trans h) ((up_ne (by decide)).symm.trans h2)⟩, fun _ => ⟨G4.out.1, by simp only [setRow_size]; exact G4.out.2⟩, fun _ h1_ => absurd ((up_self b 8).symm.trans h1_) (by decide), fun _ => setRow_heap _ _ _ _ _ _ C4.out, fun _ => ⟨G5.out.1, by simp only [setRow_size]; exact G5.out.2⟩, fun _ _ => (setRow_other _ _ _ _ (Ne.symm (DD.out.1 (hon 4 (by kernel_rfl)) (hon 5 (by kernel_rfl))))).trans C5.out, fun h0_ => absurd ((hoff 9 (by kernel_rfl)).symm.trans h0_) (by decide), fun _ => ⟨G6.out.1, by simp only [setRow_size]; exact G6.out.2⟩, fun _ _ => (setRow_other _ _ _ _ (Ne.symm (DD.out.2.1 (hon 4 (by kernel_rfl)) (hon 6 (by kernel_rfl))))).trans C6.out, fun h0_ => absurd ((hoff 10 (by kernel_rfl)).symm.trans h0_) (by decide), fun _ => ⟨G7.out.1, by simp only [setRow_size]; exact G7.out.2⟩, fun _ _ => (setRow_other _ _ _ _ (Ne.symm (DD.out.2.2.1 (hon 4 (by kernel_rfl)) (hon 7 (by kernel_rfl))))).trans C7.out, fun h0_ => absurd ((hoff 11 (by kernel_rfl)).symm.trans h0_) (by decide), Q_X4_, Q_X5_, Q_X6_, Q_X7_⟩
      refine steps_cons ?_ ?_
      · rintro b a w' ⟨g4, g5, g6, g7, m4_, m5_, m6_, m7_, ha, Q_HB, Q_BX, Q_DD, Q_G4, Q_C4, Q_S4, Q_G5, Q_C5, Q_S5, Q_G6, Q_C6, Q_S6, Q_G7, Q_C7, Q_S7, Q_X4_, Q_X5_, Q_X6_, Q_X7_⟩ hb_ hon hoff
        refine ⟨_, rfl, fun K hK => ?_⟩
        have e6 : a.tmps[6]? = some (m5_) := by rw [ha]; exact putSel_on (e := (5, 6, m5_)) 5 rfl rfl (hon 5 (by kernel_rfl)) rfl
        rw [Q_X5_ (hon 5 (by kernel_rfl))] at e6
        have e13 : a.tmps[13]? = some (.agg #[.int .i64 x.f0, .int .i64 x.f1, .int .i64 x.f2, .string x.f3, .slice A4 x.f4.length c4, .slice A5 x.f5.length c5, .int .i64 x.f6.f0, .string x.f6.f1, .int .i64 x.f6.f2, .slice A9 x.f6.f3.length c9]) := by rw [ha]; exact putSel_on (e := (1, 13, .agg #[.int .i64 x.f0, .int .i64 x.f1, .int .i64 x.f2, .string x.f3, .slice A4 x.f4.length c4, .slice A5 x.f5.length c5, .int .i64 x.f6.f0, .string x.f6.f1, .int .i64 x.f6.f2, .slice A9 x.f6.f3.length c9])) 1 rfl rfl (hon 1 (by kernel_rfl)) rfl
        replace ha := Aside0.mk ha
        have HB := Aside0.mk Q_HB
        have BX := Aside0.mk Q_BX
        have DD := Aside0.mk Q_DD
        have G4 := Aside0.mk (Q_G4 (hon 4 (by kernel_rfl)))
        have S4 := Aside0.mk (Q_S4 (hon 8 (by kernel_rfl)))
        have G5 := Aside0.mk (Q_G5 (hon 5 (by kernel_rfl)))
        have C5 := Aside0.mk (Q_C5 (hon 5 (by kernel_rfl)) hb_)
        have G6 := Aside0.mk (Q_G6 (hon 6 (by kernel_rfl)))
        have C6 := Aside0.mk (Q_C6 (hon 6 (by kernel_rfl)) (hoff 10 (by kernel_rfl)))
        have G7 := Aside0.mk (Q_G7 (hon 7 (by kernel_rfl)))
        have C7 := Aside0.mk (Q_C7 (hon 7 (by kernel_rfl)) (hoff 11 (by kernel_rfl)))
        rw [if_pos (show Region.wanted _ _ = true by rfl)]
        refine wp_store_row 30 (.tmp 6) (.tmp 13) rfl g5 #[.int .i64 x.f0, .int .i64 x.f1, .int .i64 x.f2, .string x.f3, .slice A4 x.f4.length c4, .slice A5 x.f5.length c5, .int .i64 x.f6.f0, .string x.f6.f1, .int .i64 x.f6.f2, .slice A9 x.f6.f3.length c9] (eval_of e6) (eval_of e13) 30 #[.int .i64 0, .int .i64 0, .int .i64 0, .string ByteArray.empty, .slice none 0 0, .slice none 0 0, .int .i64 0, .string ByteArray.empty, .int .i64 0, .slice none 0 0] C5.out (by kernel_rfl) rfl (by simp [Value.oneCell']) ?_
        refine hK.out _ _ ⟨g4, g5, g6, g7, m4_, m5_, m6_, m7_, (by rw [ha.out]; exact putSel_none (v := undef) rfl), below_setRow HB.out (Nat.le_of_lt G5.out.1) _, (setRow_other _ _ _ _ (Nat.ne_of_lt G5.out.1)).trans BX.out, ⟨fun h h2 => DD.out.1 ((up_ne (by decide)).symm.trans h) ((up_ne (by decide)).symm.trans h2), fun h h2 => DD.out.2.1 ((up_ne (by decide)).symm.trans h) ((up_ne (by decide)).symm.trans h2), fun h h2 => DD.out.2.2.1 ((up_ne (by decide)).symm.trans h) ((up_ne (by decide)).symm.trans h2), fun h h2 => DD.out.2.2.2.1 ((up_ne (by decide)).symm.trans h) ((up_ne (by decide)).symm.trans h2), fun h h2 => DD.out.2.2.2.2.1 ((up_ne (by decide)).symm.trans h) ((up_ne (by decide)).symm.trans h2), fun h h2 => DD.out.2.2.2.2.2 ((up_ne (by decide)).symm.trans h) ((up_ne (by decide)).symm.trans h2)⟩, fun _ => ⟨G4.out.1, by simp only [setRow_size]; exact G4.out.2⟩, fun _ h1_ => absurd ((hon 8 (by kernel_rfl)).symm.trans h1_) (by decide), fun _ => (setRow_other _ _ _ _ (DD.out.1 (hon 4 (by kernel_rfl)) (hon 5 (by kernel_rfl)))).trans S4.out, fun _ => ⟨G5.out.1, by simp only [setRow_size]; exact G5.out.2⟩, fun _ h1_ => absurd ((up_self b 9).symm.trans h1_) (by decide), fun _ => setRow_heap _ _ _ _ _ _ C5.out, fun _ => ⟨G6.out.1, by simp only [setRow_size]; exact G6.out.2⟩, fun _ _ => (setRow_other _ _ _ _ (Ne.symm (DD.out.2.2.2.1 (hon 5 (by kernel_rfl)) (hon 6 (by kernel_rfl))))).trans C6.out, fun h0_ => absurd ((hoff 10 (by kernel_rfl)).symm.trans h0_) (by decide), fun _ => ⟨G7.out.1, by simp only [setRow_size]; exact G7.out.2⟩, fun _ _ => (setRow_other _ _ _ _ (Ne.symm (DD.out.2.2.2.2.1 (hon 5 (by kernel_rfl)) (hon 7 (by kernel_rfl))))).trans C7.out, fun h0_ => absurd ((hoff 11 (by kernel_rfl)).symm.trans h0_) (by decide), Q_X4_, Q_X5_, Q_X6_, Q_X7_⟩
      refine steps_cons ?_ ?_
      · rintro b a w' ⟨g4, g5, g6, g7, m4_, m5_, m6_, m7_, ha, Q_HB, Q_BX, Q_DD, Q_G4, Q_C4, Q_S4, Q_G5, Q_C5, Q_S5, Q_G6, Q_C6, Q_S6, Q_G7, Q_C7, Q_S7, Q_X4_, Q_X5_, Q_X6_, Q_X7_⟩ hb_ hon hoff
        refine ⟨_, rfl, fun K hK => ?_⟩
        have e7 : a.tmps[7]? = some (m6_) := by rw [ha]; exact putSel_on (e := (6, 7, m6_)) 6 rfl rfl (hon 6 (by kernel_rfl)) rfl
        rw [Q_X6_ (hon 6 (by kernel_rfl))] at e7
        have e14 : a.tmps[14]? = some (.agg #[.int .i64 x.f0, .int .i64 x.f1, .int .i64 x.f2, .string x.f3, .slice A4 x.f4.length c4, .slice A5 x.f5.length c5, .int .i64 x.f6.f0, .string x.f6.f1, .int .i64 x.f6.f2, .slice A9 x.f6.f3.length c9]) := by rw [ha]; exact putSel_on (e := (2, 14, .agg #[.int .i64 x.f0, .int .i64 x.f1, .int .i64 x.f2, .string x.f3, .slice A4 x.f4.length c4, .slice A5 x.f5.length c5, .int .i64 x.f6.f0, .string x.f6.f1, .int .i64 x.f6.f2, .slice A9 x.f6.f3.length c9])) 2 rfl rfl (hon 2 (by kernel_rfl)) rfl
        replace ha := Aside0.mk ha
        have HB := Aside0.mk Q_HB
        have BX := Aside0.mk Q_BX
        have DD := Aside0.mk Q_DD
        have G4 := Aside0.mk (Q_G4 (hon 4 (by kernel_rfl)))
        have S4 := Aside0.mk (Q_S4 (hon 8 (by kernel_rfl)))
        have G5 := Aside0.mk (Q_G5 (hon 5 (by kernel_rfl)))
        have S5 := Aside0.mk (Q_S5 (hon 9 (by kernel_rfl)))
        have G6 := Aside0.mk (Q_G6 (hon 6 (by kernel_rfl)))
        have C6 := Aside0.mk (Q_C6 (hon 6 (by kernel_rfl)) hb_)
        have G7 := Aside0.mk (Q_G7 (hon 7 (by kernel_rfl)))
        have C7 := Aside0.mk (Q_C7 (hon 7 (by kernel_rfl)) (hoff 11 (by kernel_rfl)))
        rw [if_pos (show Region.wanted _ _ = true by rfl)]
        refine wp_store_row 30 (.tmp 7) (.tmp 14) rfl g6 #[.int .i64 x.f0, .int .i64 x.f1, .int .i64 x.f2, .string x.f3, .slice A4 x.f4.length c4, .slice A5 x.f5.length c5, .int .i64 x.f6.f0, .string x.f6.f1, .int .i64 x.f6.f2, .slice A9 x.f6.f3.length c9] (eval_of e7) (eval_of e14) 30 #[.int .i64 0, .int .i64 0, .int .i64 0, .string ByteArray.empty, .slice none 0 0, .slice none 0 0, .int .i64 0, .string ByteArray.empty, .int .i64 0, .slice none 0 0] C6.out (by kernel_rfl) rfl (by simp [Value.oneCell']) ?_
        refine hK.out _ _ ⟨g4, g5, g6, g7, m4_, m5_, m6_, m7_, (by rw [ha.out]; exact putSel_none (v := undef) rfl), below_setRow HB.out (Nat.le_of_lt G6.out.1) _, (setRow_other _ _ _ _ (Nat.ne_of_lt G6.out.1)).trans BX.out, ⟨fun h h2 => DD.out.1 ((up_ne (by decide)).symm.trans h) ((up_ne (by decide)).symm.trans h2), fun h h2 => DD.out.2.1 ((up_ne (by decide)).symm.trans h) ((up_ne (by decide)).symm.trans h2), fun h h2 => DD.out.2.2.1 ((up_ne (by decide)).symm.trans h) ((up_ne (by decide)).symm.trans h2), fun h h2 => DD.out.2.2.2.1 ((up_ne (by decide)).symm.trans h) ((up_ne (by decide)).symm.trans h2), fun h h2 => DD.out.2.2.2.2.1 ((up_ne (by decide)).symm.trans h) ((up_ne (by decide)).symm.trans h2), fun h h2 => DD.out.2.2.2.2.2 ((up_ne (by decide)).symm.trans h) ((up_ne (by decide)).symm.trans h2)⟩, fun _ => ⟨G4.out.1, by simp only [setRow_size]; exact G4.out.2⟩, fun _ h1_ => absurd ((hon 8 (by kernel_rfl)).symm.trans h1_) (by decide), fun _ => (setRow_other _ _ _ _ (DD.out.2.1 (hon 4 (by kernel_rfl)) (hon 6 (by kernel_rfl)))).trans S4.out, fun _ => ⟨G5.out.1, by simp only [setRow_size]; exact G5.out.2⟩, fun _ h1_ => absurd ((hon 9 (by kernel_rfl)).symm.trans h1_) (by decide), fun _ => (setRow_other _ _ _ _ (DD.out.2.2.2.1 (hon 5 (by kernel_rfl)) (hon 6 (by kernel_rfl)))).trans S5.out, fun _ => ⟨G6.out.1, by simp only [setRow_size]; exact G6.out.2⟩, fun _ h1_ => absurd ((up_self b 10).symm.trans h1_) (by decide), fun _ => setRow_heap _ _ _ _ _ _ C6.out, fun _ => ⟨G7.out.1, by simp only [setRow_size]; exact G7.out.2⟩, fun _ _ => (setRow_other _ _ _ _ (Ne.symm (DD.out.2.2.2.2.2 (hon 6 (by kernel_rfl)) (hon 7 (by kernel_rfl))))).trans C7.out, fun h0_ => absurd ((hoff 11 (by kernel_rfl)).symm.trans h0_) (by decide), Q_X4_, Q_X5_, Q_X6_, Q_X7_⟩
      refine steps_cons ?_ ?_
      · rintro b a w' ⟨g4, g5, g6, g7, m4_, m5_, m6_, m7_, ha, Q_HB, Q_BX, Q_DD, Q_G4, Q_C4, Q_S4, Q_G5, Q_C5, Q_S5, Q_G6, Q_C6, Q_S6, Q_G7, Q_C7, Q_S7, Q_X4_, Q_X5_, Q_X6_, Q_X7_⟩ hb_ hon hoff
        refine ⟨_, rfl, fun K hK => ?_⟩
        have e8 : a.tmps[8]? = some (m7_) := by rw [ha]; exact putSel_on (e := (7, 8, m7_)) 7 rfl rfl (hon 7 (by kernel_rfl)) rfl
        rw [Q_X7_ (hon 7 (by kernel_rfl))] at e8
        have e15 : a.tmps[15]? = some (.agg #[.int .i64 x.f0, .int .i64 x.f1, .int .i64 x.f2, .string x.f3, .slice A4 x.f4.length c4, .slice A5 x.f5.length c5, .int .i64 x.f6.f0, .string x.f6.f1, .int .i64 x.f6.f2, .slice A9 x.f6.f3.length c9]) := by rw [ha]; exact putSel_on (e := (3, 15, .agg #[.int .i64 x.f0, .int .i64 x.f1, .int .i64 x.f2, .string x.f3, .slice A4 x.f4.length c4, .slice A5 x.f5.length c5, .int .i64 x.f6.f0, .string x.f6.f1, .int .i64 x.f6.f2, .slice A9 x.f6.f3.length c9])) 3 rfl rfl (hon 3 (by kernel_rfl)) rfl
        replace ha := Aside0.mk ha
        have HB := Aside0.mk Q_HB
        have BX := Aside0.mk Q_BX
        have DD := Aside0.mk Q_DD
        have G4 := Aside0.mk (Q_G4 (hon 4 (by kernel_rfl)))
        have S4 := Aside0.mk (Q_S4 (hon 8 (by kernel_rfl)))
        have G5 := Aside0.mk (Q_G5 (hon 5 (by kernel_rfl)))
        have S5 := Aside0.mk (Q_S5 (hon 9 (by kernel_rfl)))
        have G6 := Aside0.mk (Q_G6 (hon 6 (by kernel_rfl)))
        have S6 := Aside0.mk (Q_S6 (hon 10 (by kernel_rfl)))
        have G7 := Aside0.mk (Q_G7 (hon 7 (by kernel_rfl)))
        have C7 := Aside0.mk (Q_C7 (hon 7 (by kernel_rfl)) hb_)
        rw [if_pos (show Region.wanted _ _ = true by rfl)]
        refine wp_store_row 30 (.tmp 8) (.tmp 15) rfl g7 #[.int .i64 x.f0, .int .i64 x.f1, .int .i64 x.f2, .string x.f3, .slice A4 x.f4.length c4, .slice A5 x.f5.length c5, .int .i64 x.f6.f0, .string x.f6.f1, .int .i64 x.f6.f2, .slice A9 x.f6.f3.length c9] (eval_of e8) (eval_of e15) 30 #[.int .i64 0, .int .i64 0, .int .i64 0, .string ByteArray.empty, .slice none 0 0, .slice none 0 0, .int .i64 0, .string ByteArray.empty, .int .i64 0, .slice none 0 0] C7.out (by kernel_rfl) rfl (by simp [Value.oneCell']) ?_
        refine hK.out _ _ ⟨g4, g5, g6, g7, m4_, m5_, m6_, m7_, (by rw [ha.out]; exact putSel_none (v := undef) rfl), below_setRow HB.out (Nat.le_of_lt G7.out.1) _, (setRow_other _ _ _ _ (Nat.ne_of_lt G7.out.1)).trans BX.out, ⟨fun h h2 => DD.out.1 ((up_ne (by decide)).symm.trans h) ((up_ne (by decide)).symm.trans h2), fun h h2 => DD.out.2.1 ((up_ne (by decide)).symm.trans h) ((up_ne (by decide)).symm.trans h2), fun h h2 => DD.out.2.2.1 ((up_ne (by decide)).symm.trans h) ((up_ne (by decide)).symm.trans h2), fun h h2 => DD.out.2.2.2.1 ((up_ne (by decide)).symm.trans h) ((up_ne (by decide)).symm.trans h2), fun h h2 => DD.out.2.2.2.2.1 ((up_ne (by decide)).symm.trans h) ((up_ne (by decide)).symm.trans h2), fun h h2 => DD.out.2.2.2.2.2 ((up_ne (by decide)).symm.trans h) ((up_ne (by decide)).symm.trans h2)⟩, fun _ => ⟨G4.out.1, by simp only [setRow_size]; exact G4.out.2⟩, fun _ h1_ => absurd ((hon 8 (by kernel_rfl)).symm.trans h1_) (by decide), fun _ => (setRow_other _ _ _ _ (DD.out.2.2.1 (hon 4 (by kernel_rfl)) (hon 7 (by kernel_rfl)))).trans S4.out, fun _ => ⟨G5.out.1, by simp only [setRow_size]; exact G5.out.2⟩, fun _ h1_ => absurd ((hon 9 (by kernel_rfl)).symm.trans h1_) (by decide), fun _ => (setRow_other _ _ _ _ (DD.out.2.2.2.2.1 (hon 5 (by kernel_rfl)) (hon 7 (by kernel_rfl)))).trans S5.out, fun _ => ⟨G6.out.1, by simp only [setRow_size]; exact G6.out.2⟩, fun _ h1_ => absurd ((hon 10 (by kernel_rfl)).symm.trans h1_) (by decide), fun _ => (setRow_other _ _ _ _ (DD.out.2.2.2.2.2 (hon 6 (by kernel_rfl)) (hon 7 (by kernel_rfl)))).trans S6.out, fun _ => ⟨G7.out.1, by simp only [setRow_size]; exact G7.out.2⟩, fun _ h1_ => absurd ((up_self b 11).symm.trans h1_) (by decide), fun _ => setRow_heap _ _ _ _ _ _ C7.out, Q_X4_, Q_X5_, Q_X6_, Q_X7_⟩
      exact steps_nil
    · rintro b a w' hall ⟨g4, g5, g6, g7, m4_, m5_, m6_, m7_, ha, Q_HB, Q_BX, Q_DD, Q_G4, Q_C4, Q_S4, Q_G5, Q_C5, Q_S5, Q_G6, Q_C6, Q_S6, Q_G7, Q_C7, Q_S7, Q_X4_, Q_X5_, Q_X6_, Q_X7_⟩
      clear BX DD HB
      have hb0_ := hall 0 (by kernel_rfl)
      have hb1_ := hall 1 (by kernel_rfl)
      have hb2_ := hall 2 (by kernel_rfl)
      have hb3_ := hall 3 (by kernel_rfl)
      have hb4_ := hall 4 (by kernel_rfl)
      have hb5_ := hall 5 (by kernel_rfl)
      have hb6_ := hall 6 (by kernel_rfl)
      have hb7_ := hall 7 (by kernel_rfl)
      have hb8_ := hall 8 (by kernel_rfl)
      have hb9_ := hall 9 (by kernel_rfl)
      have hb10_ := hall 10 (by kernel_rfl)
      have hb11_ := hall 11 (by kernel_rfl)
      subst ha
      obtain rfl := Q_X4_ hb4_
      obtain rfl := Q_X5_ hb5_
      obtain rfl := Q_X6_ hb6_
      obtain rfl := Q_X7_ hb7_
      simp only [putSel, hb0_, hb1_, hb2_, hb3_, hb4_, hb5_, hb6_, hb7_, hb8_, hb9_, hb10_, hb11_, if_true, Act.put, List.setIfInBounds_toArray, List.set_cons_zero, List.set_cons_succ]
      have HB := Aside0.mk Q_HB
      clear Q_HB
      have BX := Aside0.mk Q_BX
      clear Q_BX
      have DD := Aside0.mk Q_DD
      clear Q_DD
      have G4 := Aside0.mk (Q_G4 hb4_)
      clear Q_G4
      clear Q_C4
      have S4 := Aside0.mk (Q_S4 hb8_)
      clear Q_S4
      have G5 := Aside0.mk (Q_G5 hb5_)
      clear Q_G5
      clear Q_C5
      have S5 := Aside0.mk (Q_S5 hb9_)
      clear Q_S5
      have G6 := Aside0.mk (Q_G6 hb6_)
      clear Q_G6
      clear Q_C6
      have S6 := Aside0.mk (Q_S6 hb10_)
      clear Q_S6
      have G7 := Aside0.mk (Q_G7 hb7_)
      clear Q_G7
      clear Q_C7
      have S7 := Aside0.mk (Q_S7 hb11_)
      clear Q_S7
      have DE := Aside0.mk (show g4 ≠ g5 ∧ g4 ≠ g6 ∧ g4 ≠ g7 ∧ g5 ≠ g6 ∧ g5 ≠ g7 ∧ g6 ≠ g7 from ⟨DD.out.1 hb4_ hb5_, DD.out.2.1 hb4_ hb6_, DD.out.2.2.1 hb4_ hb7_, DD.out.2.2.2.1 hb5_ hb6_, DD.out.2.2.2.2.1 hb5_ hb7_, DD.out.2.2.2.2.2 hb6_ hb7_⟩)
      clear DD
      clear hall hb0_ hb1_ hb2_ hb3_ hb4_ hb5_ hb6_ hb7_ hb8_ hb9_ hb10_ hb11_
      clear HT_ HW_ hHeld h15 HD h15b hu30
      have N4 := Aside0.mk (Nat.ne_of_lt G4.out.1)
      have P4 := Aside0.mk (Nat.le_of_lt G4.out.1)
      have N5 := Aside0.mk (Nat.ne_of_lt G5.out.1)
      have P5 := Aside0.mk (Nat.le_of_lt G5.out.1)
      have N6 := Aside0.mk (Nat.ne_of_lt G6.out.1)
      have P6 := Aside0.mk (Nat.le_of_lt G6.out.1)
      have N7 := Aside0.mk (Nat.ne_of_lt G7.out.1)
      have P7 := Aside0.mk (Nat.le_of_lt G7.out.1)
      clear G4 G5 G6 G7
      have hz := (blk_cell S4.out 2).trans rfl
      have hf := blk_frozen S4.out 2
      go_wp2_with (first | ((with_reducible refine gate_store (t := 3) (p := 19) rfl ?_); go_must (refine store_event (t := 3) (p := 19) (v := ?vo_wA) (w1 := w'.setCell ⟨g4, 2, none⟩ (.int .i64 (wrap64 (x.f2 + 1)))) ?hg ?ho ?hn ?hr ?_; (case ho => rfl); (case hg => rfl); (case hn => rfl); (case hr => first | (go_simp; done) | (go_simp; rfl)); intro wA hw_; have n0_ := Aside0.mk (below_of HB.out P4.out hw_); have n1_ := Aside0.mk (far_of BX.out N4.out hw_); have n4_ := Aside0.mk (put_of (cs' := #[.int .i64 x.f0, .int .i64 x.f1, .int .i64 (wrap64 (x.f2 + 1)), .string x.f3, .slice A4 x.f4.length c4, .slice A5 x.f5.length c5, .int .i64 x.f6.f0, .string x.f6.f1, .int .i64 x.f6.f2, .slice A9 x.f6.f3.length c9]) S4.out hw_ rfl); have n5_ := Aside0.mk (far_of S5.out (Ne.symm DE.out.1) hw_); have n6_ := Aside0.mk (far_of S6.out (Ne.symm DE.out.2.1) hw_); have n7_ := Aside0.mk (far_of S7.out (Ne.symm DE.out.2.2.1) hw_); clear hw_ hz hf; clear HB BX S4 S5 S6 S7; have HB := n0_; have BX := n1_; have S4 := n4_; have S5 := n5_; have S6 := n6_; have S7 := n7_; clear n0_ n1_ n4_ n5_ n6_ n7_; have hz := (blk_cell S5.out 3).trans rfl; have hf := blk_frozen S5.out 3)) | ((with_reducible refine gate_store (t := 9) (p := 23) rfl ?_); go_must (refine store_event (t := 9) (p := 23) (v := ?vo_wB) (w1 := wA.setCell ⟨g5, 3, none⟩ (.string (x.f3 ++ ⟨#[122]⟩))) ?hg ?ho ?hn ?hr ?_; (case ho => rfl); (case hg => rfl); (case hn => rfl); (case hr => first | (go_simp; done) | (go_simp; rfl)); intro wB hw_; have n0_ := Aside0.mk (below_of HB.out P5.out hw_); have n1_ := Aside0.mk (far_of BX.out N5.out hw_); have n4_ := Aside0.mk (far_of S4.out DE.out.1 hw_); have n5_ := Aside0.mk (put_of (cs' := #[.int .i64 x.f0, .int .i64 x.f1, .int .i64 x.f2, .string (x.f3 ++ ⟨#[122]⟩), .slice A4 x.f4.length c4, .slice A5 x.f5.length c5, .int .i64 x.f6.f0, .string x.f6.f1, .int .i64 x.f6.f2, .slice A9 x.f6.f3.length c9]) S5.out hw_ rfl); have n6_ := Aside0.mk (far_of S6.out (Ne.symm DE.out.2.2.2.1) hw_); have n7_ := Aside0.mk (far_of S7.out (Ne.symm DE.out.2.2.2.2.1) hw_); clear hw_ hz hf; clear HB BX S4 S5 S6 S7; have HB := n0_; have BX := n1_; have S4 := n4_; have S5 := n5_; have S6 := n6_; have S7 := n7_; clear n0_ n1_ n4_ n5_ n6_ n7_; skip)) | ((with_reducible refine Kd.R_lit (Kd.fixed k30 w) w.heap.size 30 rfl (N := 24) rfl (xs := []) (inner := []) (ok := fun k => wB.heap.size ≤ k) (okp := fun _ => False) (w0 := w) ?hr ?h1 (fun _ h => h.elim) (Nat.le_refl _) HB.out HB.out.size (by simp) ?_); (case hr => first | (go_simp; done) | (go_simp; rfl)); (case h1 => exact ⟨rfl, fun j p h => by simp at h⟩); intro vC wC hR hb hg hat; have HSz := Aside0.mk hg.size; have Q4 := Aside0.mk (blk_lt S4.out); have Q5 := Aside0.mk (blk_lt S5.out); have Q6 := Aside0.mk (blk_lt S6.out); have Q7 := Aside0.mk (blk_lt S7.out); have MX := Aside0.mk (ne_own hat (blk_lt BX.out)); have M4 := Aside0.mk (ne_own hat (blk_lt S4.out)); have M5 := Aside0.mk (ne_own hat (blk_lt S5.out)); have M6 := Aside0.mk (ne_own hat (blk_lt S6.out)); have M7 := Aside0.mk (ne_own hat (blk_lt S7.out)); have n0_ := Aside0.mk hb; have n1_ := Aside0.mk (blk_grown BX.out hg (by simp)); have n4_ := Aside0.mk (blk_grown S4.out hg (by simp)); have n5_ := Aside0.mk (blk_grown S5.out hg (by simp)); have n6_ := Aside0.mk (blk_grown S6.out hg (by simp)); have n7_ := Aside0.mk (blk_grown S7.out hg (by simp)); clear HB BX S4 S5 S6 S7; have HB := n0_; have BX := n1_; have S4 := n4_; have S5 := n5_; have S6 := n6_; have S7 := n7_; clear n0_ n1_ n4_ n5_ n6_ n7_; have HR := Aside0.mk hR; clear hb hg hR hat; have hz := (blk_cell S6.out 4).trans rfl; have hf := blk_frozen S6.out 4) | ((with_reducible refine gate_builtin (b := .append) (xs := #[.tmp 24, .tmp 26]) (ts := #[25, 25]) rfl ?_); go_must (refine Kd.R_append_rows (Kd.fixed k30 w) (Rr := k30.K w) (w0 := w) w.heap.size rfl (.tmp 24) (.tmp 26) 25 30 (.agg #[.int .i64 0, .int .i64 0, .int .i64 0, .string ByteArray.empty, .slice none 0 0, .slice none 0 0, .int .i64 0, .string ByteArray.empty, .int .i64 0, .slice none 0 0]) 144 rfl Try.underlying25 (by kernel_rfl) rfl (show 0 < 10 from by decide) (by decide) vC [] x.f4 A4 x.f4.length c4 (fun k => wB.heap.size ≤ k) (fun _ => False) rfl rfl HR.out (ReadsRow.imp_ L2.out HB.out (fun _ _ h => h)) (fun _ _ h => h) (fun _ h => h.elim) (fun k hk => Nat.le_trans HSz.out hk) HB.out HB.out.size HK1.out ?_; rw [List.nil_append]; intro vD wD hR hb hg hat; have hs_ := Aside0.mk (Nat.le_trans HSz.out hg.size); clear HSz; have HSz := hs_; clear hs_; have LX_ := Aside0.mk (ne_own2 hat MX.out (blk_lt BX.out)); have L4_ := Aside0.mk (ne_own2 hat M4.out (blk_lt S4.out)); have L5_ := Aside0.mk (ne_own2 hat M5.out (blk_lt S5.out)); have L6_ := Aside0.mk (ne_own2 hat M6.out (blk_lt S6.out)); have L7_ := Aside0.mk (ne_own2 hat M7.out (blk_lt S7.out)); have n0_ := Aside0.mk hb; have n1_ := Aside0.mk (blk_grown BX.out hg MX.out); have n4_ := Aside0.mk (blk_grown S4.out hg M4.out); have n5_ := Aside0.mk (blk_grown S5.out hg M5.out); have n6_ := Aside0.mk (blk_grown S6.out hg M6.out); have n7_ := Aside0.mk (blk_grown S7.out hg M7.out); clear HB BX S4 S5 S6 S7; have HB := n0_; have BX := n1_; have S4 := n4_; have S5 := n5_; have S6 := n6_; have S7 := n7_; clear n0_ n1_ n4_ n5_ n6_ n7_; clear MX M4 M5 M6 M7; have MX := LX_; have M4 := L4_; have M5 := L5_; have M6 := L6_; have M7 := L7_; clear LX_ L4_ L5_ L6_ L7_; clear HR; have HR := Aside0.mk hR; clear hb hg hR hat)) | ((with_reducible refine gate_builtin (b := .append) (xs := #[.tmp 27, .tmp 29]) (ts := #[25, 25]) rfl ?_); go_must (refine Kd.R_append (Kd.fixed k30 w) (w0 := w) (W := wD) w.heap.size rfl (.tmp 27) (.tmp 29) 25 30 (.agg #[.int .i64 0, .int .i64 0, .int .i64 0, .string ByteArray.empty, .slice none 0 0, .slice none 0 0, .int .i64 0, .string ByteArray.empty, .int .i64 0, .slice none 0 0]) 144 rfl Try.underlying25 (by kernel_rfl) rfl (show 0 < 10 from by decide) (by decide) vD x.f4 zU [.int .i64 3, .int .i64 0, .int .i64 0, .string ByteArray.empty, .slice none 0 0, .slice none 0 0, .int .i64 0, .string ByteArray.empty, .int .i64 0, .slice none 0 0] (fun k => wB.heap.size ≤ k) (fun _ => False) rfl rfl (zU_reads w) (fun _ h => h.elim) (fun k hk => Nat.le_trans HSz.out hk) HR.out HB.out HB.out.size HK2.out ?_; intro vE wE hR hb hg hat; obtain ⟨ys, hys⟩ : ∃ ys, x.f4 ++ [zU] = ys := ⟨_, rfl⟩; rw [hys] at hR; have HY := Aside0.mk hys; clear hys; obtain ⟨AE, cE, rfl, hlE, _⟩ := Kd.R_reads hR; have LX_ := Aside0.mk (ne_own2 hat MX.out (blk_lt BX.out)); have L4_ := Aside0.mk (ne_own2 hat M4.out (blk_lt S4.out)); have L5_ := Aside0.mk (ne_own2 hat M5.out (blk_lt S5.out)); have L6_ := Aside0.mk (ne_own2 hat M6.out (blk_lt S6.out)); have L7_ := Aside0.mk (ne_own2 hat M7.out (blk_lt S7.out)); have n0_ := Aside0.mk hb; have n1_ := Aside0.mk (blk_grown BX.out hg MX.out); have n4_ := Aside0.mk (blk_grown S4.out hg M4.out); have n5_ := Aside0.mk (blk_grown S5.out hg M5.out); have n6_ := Aside0.mk (blk_grown S6.out hg M6.out); have n7_ := Aside0.mk (blk_grown S7.out hg M7.out); clear HB BX S4 S5 S6 S7; have HB := n0_; have BX := n1_; have S4 := n4_; have S5 := n5_; have S6 := n6_; have S7 := n7_; clear n0_ n1_ n4_ n5_ n6_ n7_; clear MX M4 M5 M6 M7 LX_ L4_ L5_ L6_ L7_ HR; have HLE := Aside0.mk hlE; have HRE := Aside0.mk hR; clear hb hg hR hat hlE hz hf; have hz := (blk_cell S6.out 4).trans rfl; have hf := blk_frozen S6.out 4)) | ((with_reducible refine gate_store (t := 25) (p := 31) rfl ?_); go_must (refine store_event (t := 25) (p := 31) (v := ?vo_wF) (w1 := wE.setCell ⟨g6, 4, none⟩ (.slice AE ys.length cE)) ?hg ?ho ?hn ?hr ?_; (case ho => rfl); (case hg => rfl); (case hn => rfl); (case hr => first | (go_simp; done) | (go_simp; rfl)); intro wF hw_; have n0_ := Aside0.mk (below_of HB.out P6.out hw_); have n1_ := Aside0.mk (far_of BX.out N6.out hw_); have n4_ := Aside0.mk (far_of S4.out DE.out.2.1 hw_); have n5_ := Aside0.mk (far_of S5.out DE.out.2.2.2.1 hw_); have n6_ := Aside0.mk (put_of (cs' := #[.int .i64 x.f0, .int .i64 x.f1, .int .i64 x.f2, .string x.f3, .slice AE ys.length cE, .slice A5 x.f5.length c5, .int .i64 x.f6.f0, .string x.f6.f1, .int .i64 x.f6.f2, .slice A9 x.f6.f3.length c9]) S6.out hw_ rfl); have n7_ := Aside0.mk (far_of S7.out (Ne.symm DE.out.2.2.2.2.2) hw_); have r_ := Aside0.mk (r_far HRE.out hw_ (fun k hk => by have := Q6.out; show k ≠ g6; omega)); clear HRE; have HRE := r_; clear r_; clear hw_ hz hf; clear HB BX S4 S5 S6 S7; have HB := n0_; have BX := n1_; have S4 := n4_; have S5 := n5_; have S6 := n6_; have S7 := n7_; clear n0_ n1_ n4_ n5_ n6_ n7_; have hz := (blk_cell S7.out 1).trans rfl; have hf := blk_frozen S7.out 1)) | ((with_reducible refine gate_store (t := 3) (p := 38) rfl ?_); go_must (refine store_event (t := 3) (p := 38) (v := ?vo_wG) (w1 := wF.setCell ⟨g7, 1, none⟩ (.int .i64 (wrap64 (wrap64 (x.f1 + Go.bits .and .i64 at_ 255) + 1)))) ?hg ?ho ?hn ?hr ?_; (case ho => rfl); (case hg => rfl); (case hn => rfl); (case hr => first | (go_simp; done) | (go_simp; rfl)); intro wG hw_; have n0_ := Aside0.mk (below_of HB.out P7.out hw_); have n1_ := Aside0.mk (far_of BX.out N7.out hw_); have n4_ := Aside0.mk (far_of S4.out DE.out.2.2.1 hw_); have n5_ := Aside0.mk (far_of S5.out DE.out.2.2.2.2.1 hw_); have n6_ := Aside0.mk (far_of S6.out DE.out.2.2.2.2.2 hw_); have n7_ := Aside0.mk (put_of (cs' := #[.int .i64 x.f0, .int .i64 (wrap64 (wrap64 (x.f1 + Go.bits .and .i64 at_ 255) + 1)), .int .i64 x.f2, .string x.f3, .slice A4 x.f4.length c4, .slice A5 x.f5.length c5, .int .i64 x.f6.f0, .string x.f6.f1, .int .i64 x.f6.f2, .slice A9 x.f6.f3.length c9]) S7.out hw_ rfl); have r_ := Aside0.mk (r_far HRE.out hw_ (fun k hk => by have := Q7.out; show k ≠ g7; omega)); clear HRE; have HRE := r_; clear r_; clear hw_ hz hf; clear HB BX S4 S5 S6 S7; have HB := n0_; have BX := n1_; have S4 := n4_; have S5 := n5_; have S6 := n6_; have S7 := n7_; clear n0_ n1_ n4_ n5_ n6_ n7_; skip)) | ((with_reducible refine gate_store (t := 28) (p := 40) rfl ?_); go_must (refine wpList_store_at rfl 28 (.tmp 40) (.tmp 39) rfl g7 6 #[.int .i64 11, .string ⟨#[]⟩, .int .i64 0, .slice none 0 0] rfl rfl 30 #[.int .i64 x.f0, .int .i64 (wrap64 (wrap64 (x.f1 + Go.bits .and .i64 at_ 255) + 1)), .int .i64 x.f2, .string x.f3, .slice A4 x.f4.length c4, .slice A5 x.f5.length c5, .int .i64 x.f6.f0, .string x.f6.f1, .int .i64 x.f6.f2, .slice A9 x.f6.f3.length c9] S7.out (by kernel_rfl) (by simp) (by simp [Value.oneCell']) ?_; intro wH hw_; have n0_ := Aside0.mk (row_below HB.out P7.out hw_); have n1_ := Aside0.mk (row_far BX.out N7.out hw_); have n4_ := Aside0.mk (row_far S4.out DE.out.2.2.1 hw_); have n5_ := Aside0.mk (row_far S5.out DE.out.2.2.2.2.1 hw_); have n6_ := Aside0.mk (row_far S6.out DE.out.2.2.2.2.2 hw_); have n7_ := Aside0.mk (row_put (cs' := #[.int .i64 x.f0, .int .i64 (wrap64 (wrap64 (x.f1 + Go.bits .and .i64 at_ 255) + 1)), .int .i64 x.f2, .string x.f3, .slice A4 x.f4.length c4, .slice A5 x.f5.length c5, .int .i64 11, .string ⟨#[]⟩, .int .i64 0, .slice none 0 0]) S7.out hw_ rfl); have r_ := Aside0.mk (r_row HRE.out hw_ (fun k hk => by have := Q7.out; omega)); clear HRE; have HRE := r_; clear r_; clear hw_; clear HB BX S4 S5 S6 S7; have HB := n0_; have BX := n1_; have S4 := n4_; have S5 := n5_; have S6 := n6_; have S7 := n7_; clear n0_ n1_ n4_ n5_ n6_ n7_; clear N4 N5 N6 N7 P4 P5 P6 P7 DE; obtain ⟨_, _, hq_, _, hC_⟩ := Kd.R_reads HRE.out; injection hq_ with hq1_ _ hq2_; subst hq1_; subst hq2_; have HCE := Aside0.mk (Kd.C_read (d := k30) (dm := Kd.fixed k30 w) rfl (fun _ _ (h : k30.K w _ _) => k30.K_below HB.out h) hC_); clear hC_ HRE HSz Q4 Q5 Q6 Q7; obtain ⟨qX_0, qX_1, qX_2, qX_3, qX_4, qX_5, qX_6, qX_7, qX_8, qX_9⟩ := cells10 BX.out; obtain ⟨q4_0, q4_1, q4_2, q4_3, q4_4, q4_5, q4_6, q4_7, q4_8, q4_9⟩ := cells10 S4.out; obtain ⟨q5_0, q5_1, q5_2, q5_3, q5_4, q5_5, q5_6, q5_7, q5_8, q5_9⟩ := cells10 S5.out; obtain ⟨q6_0, q6_1, q6_2, q6_3, q6_4, q6_5, q6_6, q6_7, q6_8, q6_9⟩ := cells10 S6.out; obtain ⟨q7_0, q7_1, q7_2, q7_3, q7_4, q7_5, q7_6, q7_7, q7_8, q7_9⟩ := cells10 S7.out)) | (go_at_call 10; (with_reducible refine ((alike_said x).go x true _ _ _ _ _ _ _ _ _ _ _ _ _ _ _ _ _ _ _ _ _ (alike_self x) (Kd.C_below L2.out HB.out) L1.out (Kd.C_below L4.out HB.out) L3.out (Kd.C_below L2.out HB.out) L1.out (Kd.C_below L4.out HB.out) L3.out).mono ?_); rintro e w9 ⟨rfl, hb⟩; have n0_ := Aside0.mk (below_step HB.out hb); have n1_ := Aside0.mk (blk_below BX.out hb); have n4_ := Aside0.mk (blk_below S4.out hb); have n5_ := Aside0.mk (blk_below S5.out hb); have n6_ := Aside0.mk (blk_below S6.out hb); have n7_ := Aside0.mk (blk_below S7.out hb); clear HB BX S4 S5 S6 S7; have HB := n0_; have BX := n1_; have S4 := n4_; have S5 := n5_; have S6 := n6_; have S7 := n7_; clear n0_ n1_ n4_ n5_ n6_ n7_; have c_ := Aside0.mk (Kd.C_below HCE.out hb); clear HCE; have HCE := c_; clear c_; clear hb; clear qX_0 qX_1 qX_2 qX_3 qX_4 qX_5 qX_6 qX_7 qX_8 qX_9 q4_0 q4_1 q4_2 q4_3 q4_4 q4_5 q4_6 q4_7 q4_8 q4_9 q5_0 q5_1 q5_2 q5_3 q5_4 q5_5 q5_6 q5_7 q5_8 q5_9 q6_0 q6_1 q6_2 q6_3 q6_4 q6_5 q6_6 q6_7 q6_8 q6_9 q7_0 q7_1 q7_2 q7_3 q7_4 q7_5 q7_6 q7_7 q7_8 q7_9; obtain ⟨qX_0, qX_1, qX_2, qX_3, qX_4, qX_5, qX_6, qX_7, qX_8, qX_9⟩ := cells10 BX.out; obtain ⟨q4_0, q4_1, q4_2, q4_3, q4_4, q4_5, q4_6, q4_7, q4_8, q4_9⟩ := cells10 S4.out; obtain ⟨q5_0, q5_1, q5_2, q5_3, q5_4, q5_5, q5_6, q5_7, q5_8, q5_9⟩ := cells10 S5.out; obtain ⟨q6_0, q6_1, q6_2, q6_3, q6_4, q6_5, q6_6, q6_7, q6_8, q6_9⟩ := cells10 S6.out; obtain ⟨q7_0, q7_1, q7_2, q7_3, q7_4, q7_5, q7_6, q7_7, q7_8, q7_9⟩ := cells10 S7.out) | (go_at_call 10; (with_reducible refine ((alike_said x).go (⟨x.f0, x.f1, wrap64 (x.f2 + 1), x.f3, x.f4, x.f5, x.f6⟩ : S30) false _ _ _ _ _ _ _ _ _ _ _ _ _ _ _ _ _ _ _ _ _ (alike_num x HN.out.1 HN.out.2) (Kd.C_below L2.out HB.out) L1.out (Kd.C_below L4.out HB.out) L3.out (Kd.C_below L2.out HB.out) L1.out (Kd.C_below L4.out HB.out) L3.out).mono ?_); rintro e w9 ⟨rfl, hb⟩; have n0_ := Aside0.mk (below_step HB.out hb); have n1_ := Aside0.mk (blk_below BX.out hb); have n4_ := Aside0.mk (blk_below S4.out hb); have n5_ := Aside0.mk (blk_below S5.out hb); have n6_ := Aside0.mk (blk_below S6.out hb); have n7_ := Aside0.mk (blk_below S7.out hb); clear HB BX S4 S5 S6 S7; have HB := n0_; have BX := n1_; have S4 := n4_; have S5 := n5_; have S6 := n6_; have S7 := n7_; clear n0_ n1_ n4_ n5_ n6_ n7_; have c_ := Aside0.mk (Kd.C_below HCE.out hb); clear HCE; have HCE := c_; clear c_; clear hb; clear qX_0 qX_1 qX_2 qX_3 qX_4 qX_5 qX_6 qX_7 qX_8 qX_9 q4_0 q4_1 q4_2 q4_3 q4_4 q4_5 q4_6 q4_7 q4_8 q4_9 q5_0 q5_1 q5_2 q5_3 q5_4 q5_5 q5_6 q5_7 q5_8 q5_9 q6_0 q6_1 q6_2 q6_3 q6_4 q6_5 q6_6 q6_7 q6_8 q6_9 q7_0 q7_1 q7_2 q7_3 q7_4 q7_5 q7_6 q7_7 q7_8 q7_9; obtain ⟨qX_0, qX_1, qX_2, qX_3, qX_4, qX_5, qX_6, qX_7, qX_8, qX_9⟩ := cells10 BX.out; obtain ⟨q4_0, q4_1, q4_2, q4_3, q4_4, q4_5, q4_6, q4_7, q4_8, q4_9⟩ := cells10 S4.out; obtain ⟨q5_0, q5_1, q5_2, q5_3, q5_4, q5_5, q5_6, q5_7, q5_8, q5_9⟩ := cells10 S5.out; obtain ⟨q6_0, q6_1, q6_2, q6_3, q6_4, q6_5, q6_6, q6_7, q6_8, q6_9⟩ := cells10 S6.out; obtain ⟨q7_0, q7_1, q7_2, q7_3, q7_4, q7_5, q7_6, q7_7, q7_8, q7_9⟩ := cells10 S7.out) | (go_at_call 10; (with_reducible refine ((alike_said (⟨x.f0, x.f1, x.f2, x.f3 ++ ⟨#[122]⟩, x.f4, x.f5, x.f6⟩ : S30)).go x false _ _ _ _ _ _ _ _ _ _ _ _ _ _ _ _ _ _ _ _ _ (alike_text x) (Kd.C_below L2.out HB.out) L1.out (Kd.C_below L4.out HB.out) L3.out (Kd.C_below L2.out HB.out) L1.out (Kd.C_below L4.out HB.out) L3.out).mono ?_); rintro e w9 ⟨rfl, hb⟩; have n0_ := Aside0.mk (below_step HB.out hb); have n1_ := Aside0.mk (blk_below BX.out hb); have n4_ := Aside0.mk (blk_below S4.out hb); have n5_ := Aside0.mk (blk_below S5.out hb); have n6_ := Aside0.mk (blk_below S6.out hb); have n7_ := Aside0.mk (blk_below S7.out hb); clear HB BX S4 S5 S6 S7; have HB := n0_; have BX := n1_; have S4 := n4_; have S5 := n5_; have S6 := n6_; have S7 := n7_; clear n0_ n1_ n4_ n5_ n6_ n7_; have c_ := Aside0.mk (Kd.C_below HCE.out hb); clear HCE; have HCE := c_; clear c_; clear hb; clear qX_0 qX_1 qX_2 qX_3 qX_4 qX_5 qX_6 qX_7 qX_8 qX_9 q4_0 q4_1 q4_2 q4_3 q4_4 q4_5 q4_6 q4_7 q4_8 q4_9 q5_0 q5_1 q5_2 q5_3 q5_4 q5_5 q5_6 q5_7 q5_8 q5_9 q6_0 q6_1 q6_2 q6_3 q6_4 q6_5 q6_6 q6_7 q6_8 q6_9 q7_0 q7_1 q7_2 q7_3 q7_4 q7_5 q7_6 q7_7 q7_8 q7_9; obtain ⟨qX_0, qX_1, qX_2, qX_3, qX_4, qX_5, qX_6, qX_7, qX_8, qX_9⟩ := cells10 BX.out; obtain ⟨q4_0, q4_1, q4_2, q4_3, q4_4, q4_5, q4_6, q4_7, q4_8, q4_9⟩ := cells10 S4.out; obtain ⟨q5_0, q5_1, q5_2, q5_3, q5_4, q5_5, q5_6, q5_7, q5_8, q5_9⟩ := cells10 S5.out; obtain ⟨q6_0, q6_1, q6_2, q6_3, q6_4, q6_5, q6_6, q6_7, q6_8, q6_9⟩ := cells10 S6.out; obtain ⟨q7_0, q7_1, q7_2, q7_3, q7_4, q7_5, q7_6, q7_7, q7_8, q7_9⟩ := cells10 S7.out) | (go_at_call 10; (with_reducible refine ((alike_said x).go (⟨x.f0, x.f1, x.f2, x.f3, ys, x.f5, x.f6⟩ : S30) false _ _ _ _ _ _ _ _ _ _ _ _ _ _ _ _ _ _ _ _ _ (alike_more x ys HY.out) (Kd.C_below L2.out HB.out) L1.out (Kd.C_below L4.out HB.out) L3.out HCE.out HLE.out (Kd.C_below L4.out HB.out) L3.out).mono ?_); rintro e w9 ⟨rfl, hb⟩; have n0_ := Aside0.mk (below_step HB.out hb); have n1_ := Aside0.mk (blk_below BX.out hb); have n4_ := Aside0.mk (blk_below S4.out hb); have n5_ := Aside0.mk (blk_below S5.out hb); have n6_ := Aside0.mk (blk_below S6.out hb); have n7_ := Aside0.mk (blk_below S7.out hb); clear HB BX S4 S5 S6 S7; have HB := n0_; have BX := n1_; have S4 := n4_; have S5 := n5_; have S6 := n6_; have S7 := n7_; clear n0_ n1_ n4_ n5_ n6_ n7_; have c_ := Aside0.mk (Kd.C_below HCE.out hb); clear HCE; have HCE := c_; clear c_; clear hb; clear qX_0 qX_1 qX_2 qX_3 qX_4 qX_5 qX_6 qX_7 qX_8 qX_9 q4_0 q4_1 q4_2 q4_3 q4_4 q4_5 q4_6 q4_7 q4_8 q4_9 q5_0 q5_1 q5_2 q5_3 q5_4 q5_5 q5_6 q5_7 q5_8 q5_9 q6_0 q6_1 q6_2 q6_3 q6_4 q6_5 q6_6 q6_7 q6_8 q6_9 q7_0 q7_1 q7_2 q7_3 q7_4 q7_5 q7_6 q7_7 q7_8 q7_9; obtain ⟨qX_0, qX_1, qX_2, qX_3, qX_4, qX_5, qX_6, qX_7, qX_8, qX_9⟩ := cells10 BX.out; obtain ⟨q4_0, q4_1, q4_2, q4_3, q4_4, q4_5, q4_6, q4_7, q4_8, q4_9⟩ := cells10 S4.out; obtain ⟨q5_0, q5_1, q5_2, q5_3, q5_4, q5_5, q5_6, q5_7, q5_8, q5_9⟩ := cells10 S5.out; obtain ⟨q6_0, q6_1, q6_2, q6_3, q6_4, q6_5, q6_6, q6_7, q6_8, q6_9⟩ := cells10 S6.out; obtain ⟨q7_0, q7_1, q7_2, q7_3, q7_4, q7_5, q7_6, q7_7, q7_8, q7_9⟩ := cells10 S7.out) | (go_at_call 10; (with_reducible refine ((alike_said (⟨x.f0, x.f1, x.f2, x.f3, ys, x.f5, x.f6⟩ : S30)).go x false _ _ _ _ _ _ _ _ _ _ _ _ _ _ _ _ _ _ _ _ _ (alike_more' x ys HY.out) HCE.out HLE.out (Kd.C_below L4.out HB.out) L3.out (Kd.C_below L2.out HB.out) L1.out (Kd.C_below L4.out HB.out) L3.out).mono ?_); rintro e w9 ⟨rfl, hb⟩; have n0_ := Aside0.mk (below_step HB.out hb); have n1_ := Aside0.mk (blk_below BX.out hb); have n4_ := Aside0.mk (blk_below S4.out hb); have n5_ := Aside0.mk (blk_below S5.out hb); have n6_ := Aside0.mk (blk_below S6.out hb); have n7_ := Aside0.mk (blk_below S7.out hb); clear HB BX S4 S5 S6 S7; have HB := n0_; have BX := n1_; have S4 := n4_; have S5 := n5_; have S6 := n6_; have S7 := n7_; clear n0_ n1_ n4_ n5_ n6_ n7_; have c_ := Aside0.mk (Kd.C_below HCE.out hb); clear HCE; have HCE := c_; clear c_; clear hb; clear qX_0 qX_1 qX_2 qX_3 qX_4 qX_5 qX_6 qX_7 qX_8 qX_9 q4_0 q4_1 q4_2 q4_3 q4_4 q4_5 q4_6 q4_7 q4_8 q4_9 q5_0 q5_1 q5_2 q5_3 q5_4 q5_5 q5_6 q5_7 q5_8 q5_9 q6_0 q6_1 q6_2 q6_3 q6_4 q6_5 q6_6 q6_7 q6_8 q6_9 q7_0 q7_1 q7_2 q7_3 q7_4 q7_5 q7_6 q7_7 q7_8 q7_9; obtain ⟨qX_0, qX_1, qX_2, qX_3, qX_4, qX_5, qX_6, qX_7, qX_8, qX_9⟩ := cells10 BX.out; obtain ⟨q4_0, q4_1, q4_2, q4_3, q4_4, q4_5, q4_6, q4_7, q4_8, q4_9⟩ := cells10 S4.out; obtain ⟨q5_0, q5_1, q5_2, q5_3, q5_4, q5_5, q5_6, q5_7, q5_8, q5_9⟩ := cells10 S5.out; obtain ⟨q6_0, q6_1, q6_2, q6_3, q6_4, q6_5, q6_6, q6_7, q6_8, q6_9⟩ := cells10 S6.out; obtain ⟨q7_0, q7_1, q7_2, q7_3, q7_4, q7_5, q7_6, q7_7, q7_8, q7_9⟩ := cells10 S7.out) | (go_at_call 10; (with_reducible refine ((alike_said x).go (⟨x.f0, wrap64 (wrap64 (x.f1 + Go.bits .and .i64 at_ 255) + 1), x.f2, x.f3, x.f4, x.f5, ⟨11, ⟨#[]⟩, 0, []⟩⟩ : S30) true _ _ _ _ _ _ _ _ _ _ _ _ _ _ _ _ _ _ _ _ _ (alike_at x _ _) (Kd.C_below L2.out HB.out) L1.out (Kd.C_below L4.out HB.out) L3.out (Kd.C_below L2.out HB.out) L1.out (Kd.C_below L4.out HB.out) L3.out).mono ?_); rintro e w9 ⟨rfl, hb⟩; have n0_ := Aside0.mk (below_step HB.out hb); have n1_ := Aside0.mk (blk_below BX.out hb); have n4_ := Aside0.mk (blk_below S4.out hb); have n5_ := Aside0.mk (blk_below S5.out hb); have n6_ := Aside0.mk (blk_below S6.out hb); have n7_ := Aside0.mk (blk_below S7.out hb); clear HB BX S4 S5 S6 S7; have HB := n0_; have BX := n1_; have S4 := n4_; have S5 := n5_; have S6 := n6_; have S7 := n7_; clear n0_ n1_ n4_ n5_ n6_ n7_; have c_ := Aside0.mk (Kd.C_below HCE.out hb); clear HCE; have HCE := c_; clear c_; clear hb; clear qX_0 qX_1 qX_2 qX_3 qX_4 qX_5 qX_6 qX_7 qX_8 qX_9 q4_0 q4_1 q4_2 q4_3 q4_4 q4_5 q4_6 q4_7 q4_8 q4_9 q5_0 q5_1 q5_2 q5_3 q5_4 q5_5 q5_6 q5_7 q5_8 q5_9 q6_0 q6_1 q6_2 q6_3 q6_4 q6_5 q6_6 q6_7 q6_8 q6_9 q7_0 q7_1 q7_2 q7_3 q7_4 q7_5 q7_6 q7_7 q7_8 q7_9; obtain ⟨qX_0, qX_1, qX_2, qX_3, qX_4, qX_5, qX_6, qX_7, qX_8, qX_9⟩ := cells10 BX.out; obtain ⟨q4_0, q4_1, q4_2, q4_3, q4_4, q4_5, q4_6, q4_7, q4_8, q4_9⟩ := cells10 S4.out; obtain ⟨q5_0, q5_1, q5_2, q5_3, q5_4, q5_5, q5_6, q5_7, q5_8, q5_9⟩ := cells10 S5.out; obtain ⟨q6_0, q6_1, q6_2, q6_3, q6_4, q6_5, q6_6, q6_7, q6_8, q6_9⟩ := cells10 S6.out; obtain ⟨q7_0, q7_1, q7_2, q7_3, q7_4, q7_5, q7_6, q7_7, q7_8, q7_9⟩ := cells10 S7.out) | (go_at_call 10; (with_reducible refine ((alike_said (⟨x.f0, wrap64 (wrap64 (x.f1 + Go.bits .and .i64 at_ 255) + 1), x.f2, x.f3, x.f4, x.f5, ⟨11, ⟨#[]⟩, 0, []⟩⟩ : S30)).go x true _ _ _ _ _ _ _ _ _ _ _ _ _ _ _ _ _ _ _ _ _ (alike_at' x _ _) (Kd.C_below L2.out HB.out) L1.out (Kd.C_below L4.out HB.out) L3.out (Kd.C_below L2.out HB.out) L1.out (Kd.C_below L4.out HB.out) L3.out).mono ?_); rintro e w9 ⟨rfl, hb⟩; have n0_ := Aside0.mk (below_step HB.out hb); have n1_ := Aside0.mk (blk_below BX.out hb); have n4_ := Aside0.mk (blk_below S4.out hb); have n5_ := Aside0.mk (blk_below S5.out hb); have n6_ := Aside0.mk (blk_below S6.out hb); have n7_ := Aside0.mk (blk_below S7.out hb); clear HB BX S4 S5 S6 S7; have HB := n0_; have BX := n1_; have S4 := n4_; have S5 := n5_; have S6 := n6_; have S7 := n7_; clear n0_ n1_ n4_ n5_ n6_ n7_; have c_ := Aside0.mk (Kd.C_below HCE.out hb); clear HCE; have HCE := c_; clear c_; clear hb; clear qX_0 qX_1 qX_2 qX_3 qX_4 qX_5 qX_6 qX_7 qX_8 qX_9 q4_0 q4_1 q4_2 q4_3 q4_4 q4_5 q4_6 q4_7 q4_8 q4_9 q5_0 q5_1 q5_2 q5_3 q5_4 q5_5 q5_6 q5_7 q5_8 q5_9 q6_0 q6_1 q6_2 q6_3 q6_4 q6_5 q6_6 q6_7 q6_8 q6_9 q7_0 q7_1 q7_2 q7_3 q7_4 q7_5 q7_6 q7_7 q7_8 q7_9; obtain ⟨qX_0, qX_1, qX_2, qX_3, qX_4, qX_5, qX_6, qX_7, qX_8, qX_9⟩ := cells10 BX.out; obtain ⟨q4_0, q4_1, q4_2, q4_3, q4_4, q4_5, q4_6, q4_7, q4_8, q4_9⟩ := cells10 S4.out; obtain ⟨q5_0, q5_1, q5_2, q5_3, q5_4, q5_5, q5_6, q5_7, q5_8, q5_9⟩ := cells10 S5.out; obtain ⟨q6_0, q6_1, q6_2, q6_3, q6_4, q6_5, q6_6, q6_7, q6_8, q6_9⟩ := cells10 S6.out; obtain ⟨q7_0, q7_1, q7_2, q7_3, q7_4, q7_5, q7_6, q7_7, q7_8, q7_9⟩ := cells10 S7.out))
      go_ret
      exact ⟨rfl, HB.out⟩
end Go.Proofs.Ytocjfdpknfnamaa.Alike
