/- Steps toward the laws of the parser (P), merged from several texts (some of them began as the kit's print). No condition. -/
import Derived.Test.YtngpgdmafmkddaaDoorZP3
section
namespace Go.Proofs.YtngpgdmafmkddaaDoor.Tre
open Go.Proofs.YtngpgdmafmkddaaDoor.Lex Go.Proofs.YtngpgdmafmkddaaDoor.Calm Go.Proofs.YtngpgdmafmkddaaDoor.Par Go.RowKit Go.Proofs.YtngpgdmafmkddaaDoorW.PrintWords Go.Proofs.YtngpgdmafmkddaaDoorW.PrintLast Go.Proofs.YtngpgdmafmkddaaDoorW.PrintMore
open Go.Proofs.YtngpgdmafmkddaaDoor.PParseBlanks (S35 S25 S27 k35 k25 k27 rd_T35 rd_T25 rd_T27 at_T35 at_T25 at_T27)
set_option linter.unusedVariables false
set_option linter.unusedSimpArgs false
theorem lexN_bad : ∀ (k a : Nat) (l : List UInt8) (x : Nat × Int), l.length < k → lexN k a l = .error x → x.2 ≠ 0 := by
 intro k
 induction k with
 | zero => intro a l x h; omega
 | succ k ih =>
  intro a l x hk h
  cases l with
  | nil => cases h
  | cons b r =>
   simp only [lexN] at h
   split at h
   ·rename_i h2
    injection h with h
    subst h
    exact nextN_bad h2
   ·rename_i hz
    split at h
    ·rename_i h2
     injection h with h
     subst h
     refine ih _ _ _ ?_ h2
     simp only [List.length_drop]
     have : 0 < (nextN (b :: r)).2.1 := Nat.pos_of_ne_zero hz
     simp only [List.length_cons] at hk ⊢
     omega
    ·cases h
theorem lexP_bad {s : ByteArray} {a : Nat} {e : Int} (h : lexP s = .error (a, e)) : e ≠ 0 := by
 unfold lexP at h
 split at h
 ·injection h with h
  injection h with _ h
  subst h
  decide
 ·refine lexN_bad _ _ _ _ ?_ h
  have h3 : s.data.toList.length = s.size := by simp
  simp only [List.length_drop]
  omega
def treeX (s : ByteArray) (n : Nat) : Option (S27 × Int × Int) := match lexP s with
 | .error x => some (Z0, (x.1 : Int), x.2)
 | .ok ts => match treeP s.size n ts with
  | .ok x _ => some (x, 0, 0)
  | .bad a er => some (Z0, a, er)
  | .out => none
def TrePost (s : ByteArray) (n : Nat) (w : World) (en : Ending) (w' : World) : Prop :=
 Below w.heap.size w w' ∧ ∃ v x a er, treeX s n = some (x, a, er) ∧ en = .returned (.tuple #[v, .int .i64 a, .int .i64 er]) ∧ VE w.heap.size w' v x
set_option maxRecDepth 100000 in
theorem tree_end (T : Array Value) {rb ab eb : Nat} (h2 : T[2]? = some (.pointer (some ⟨rb, 0, none⟩))) (h3 : T[3]? = some (.pointer (some ⟨ab, 0, none⟩))) (h4 : T[4]? = some (.pointer (some ⟨eb, 0, none⟩))) {w : World} {a er : Int} {c0 c1 c2 c3 c4 c5 c6 c7 c8 c9 : Value} (HR : Has w rb #[c0, c1, c2, c3, c4, c5, c6, c7, c8, c9] 27) (HA : Has w ab #[.int .i64 a] 3) (HE : Has w eb #[.int .i64 er] 28) :
  (results Tryd.f8 T).run Tryd.prog w = .ok (.tuple #[.agg #[c0, c1, c2, c3, c4, c5, c6, c7, c8, c9], .int .i64 a, .int .i64 er]) w := by
 have b0 := HR.cell 0
 have b1 := HR.cell 1
 have b2 := HR.cell 2
 have b3 := HR.cell 3
 have b4 := HR.cell 4
 have b5 := HR.cell 5
 have b6 := HR.cell 6
 have b7 := HR.cell 7
 have b8 := HR.cell 8
 have b9 := HR.cell 9
 have ca := HA.cell 0
 have ce := HE.cell 0
 have hu := Tryd.underlying27
 simp only [List.getElem?_toArray, List.getElem?_cons_zero, List.getElem?_cons_succ] at b0 b1 b2 b3 b4 b5 b6 b7 b8 b9 ca ce
 simp [results, Tryd.results8, h2, h3, h4, b0, b1, b2, b3, b4, b5, b6, b7, b8, b9, ca, ce, go_sem]
theorem Z_VE (B : Nat) (w : World) : VE B w (.agg #[.int .i64 0, .int .i64 0, .int .i64 0, .string ⟨#[]⟩, .slice none 0 0, .slice none 0 0, .int .i64 0, .string ⟨#[]⟩, .int .i64 0, .slice none 0 0]) Z0 := VO.leaf _ _ _ 0 0 0 ⟨#[]⟩
abbrev treD (rb ab eb : Nat) : Deferred := { target := .fn (.func 16) #[], args := #[.pointer (some ⟨ab, 0, none⟩), .pointer (some ⟨eb, 0, none⟩), .func (.func 17) #[] #[.pointer (some ⟨rb, 0, none⟩)]] }
theorem kept_below3 {B ab eb rb : Nat} {w w1 w2 : World} (hb : Below B w w1) (hk : Par.Kept (fun b => b = ab ∨ b = eb ∨ b = rb) w1 w2) (h1 : B ≤ ab) (h2 : B ≤ eb) (h3 : B ≤ rb) (hB : B ≤ w1.heap.size) : Below B w w2 :=
 below_tr hb (hk.below_of (B := B) (fun b h => by rcases h with rfl | rfl | rfl <;> assumption) hB)
theorem tree_stops (T : Array Value) {rb ab eb : Nat} (h2 : T[2]? = some (.pointer (some ⟨rb, 0, none⟩))) (h3 : T[3]? = some (.pointer (some ⟨ab, 0, none⟩))) (h4 : T[4]? = some (.pointer (some ⟨eb, 0, none⟩))) {s : ByteArray} {n : Nat} {w w5 : World} {a er a1 e1 : Int} {old : Array Value} (hx : treeX s n = some (Z0, a, er)) (ha : Has w5 ab #[.int .i64 a1] 3) (he : Has w5 eb #[.int .i64 e1] 28) (hr : Has w5 rb old 27) (ho : old.size = 10)
  (hb : Below w.heap.size w w5) (n1 : w.heap.size ≤ ab) (n2 : w.heap.size ≤ eb) (n3 : w.heap.size ≤ rb) : Leaves Tryd.prog Tryd.f8 T (TrePost s n w) [treD rb ab eb] (.panicking [stopE a er]) w5 := by
 refine leaves_cons (f := 16) (args := #[.pointer (some ⟨ab, 0, none⟩), .pointer (some ⟨eb, 0, none⟩), .func (.func 17) #[] #[.pointer (some ⟨rb, 0, none⟩)]]) (by simp) (by simp [go_sem]) ?_
 refine (caught_stop ab eb rb a er a1 e1 old w5 ha he hr ho).mono ?_
 rintro e u' w6 ⟨rfl, rfl, hk, hA, hE, hR⟩
 have hb6 := kept_below3 hb hk n1 n2 n3 hb.size
 exact ⟨_, tree_end T h2 h3 h4 hR hA hE, hb6, _, Z0, a, er, hx, rfl, Z_VE _ _⟩
theorem tree_idles (T : Array Value) {rb ab eb : Nat} (h2 : T[2]? = some (.pointer (some ⟨rb, 0, none⟩))) (h3 : T[3]? = some (.pointer (some ⟨ab, 0, none⟩))) (h4 : T[4]? = some (.pointer (some ⟨eb, 0, none⟩))) {s : ByteArray} {n : Nat} {w w5 : World} {x : S27} {c0 c1 c2 c3 c4 c5 c6 c7 c8 c9 : Value} (hx : treeX s n = some (x, 0, 0)) (ha : Has w5 ab #[.int .i64 0] 3) (he : Has w5 eb #[.int .i64 0] 28) (hr : Has w5 rb #[c0, c1, c2, c3, c4, c5, c6, c7, c8, c9] 27)
  (hb : Below w.heap.size w w5) (hv : VE w.heap.size w5 (.agg #[c0, c1, c2, c3, c4, c5, c6, c7, c8, c9]) x) : Leaves Tryd.prog Tryd.f8 T (TrePost s n w) [treD rb ab eb] .returning w5 := by
 refine leaves_cons (f := 16) (args := #[.pointer (some ⟨ab, 0, none⟩), .pointer (some ⟨eb, 0, none⟩), .func (.func 17) #[] #[.pointer (some ⟨rb, 0, none⟩)]]) (by simp) (by simp [go_sem]) ?_
 refine (caught_idle ab eb rb w5).mono ?_
 rintro e u' w6 ⟨rfl, rfl, rfl⟩
 exact ⟨_, tree_end T h2 h3 h4 hr ha he, hb, _, x, 0, 0, hx, rfl, hv⟩
def panQ (Q : Exit → Act → World → Prop) (D : List Deferred) : Exit → Act → World → Prop
 | .panic c, a, w => False
 | e, a, w => Q e a w
theorem panQ_sure (Q : Exit → Act → World → Prop) (D : List Deferred) : Sure (panQ Q D) := fun c a a' w hd h => h
theorem region_treeQN {P : Program} {Q : Exit → Act → World → Prop} {a : Act} {w : World} {id : Nat} {l : List Oper} (hm : P.follows .mixedOrders = true) (S : World → Prop) (hS : S w.drew) (h : S w.drew → TreeQ P l.toArray (panQ Q a.defers) S l.length (Array.replicate l.length false) a w.drew) : (Code.region id l.toArray true).wp P Q a w := by
 refine Code.wp_mono (Q := panQ Q a.defers) (fun e a w h => ?_) (region_treeQ hm S hS h)
 cases e with
 | panic c => exact h.elim
 | _ => exact h
theorem below_setX {B : Nat} {w w' : World} (h : Below B w w') {a : Addr} (ha : B ≤ a.block) (v : Value) : Below B w (w'.setCell a v) := ⟨h.os, h.tape, h.output, by simpa [World.setCell] using h.size, fun k hk => (Below.heap_setCell w' a v k (by omega)).trans (h.block k hk)⟩
theorem below_rowX {B : Nat} {w w' : World} (h : Below B w w') {g : Nat} (hg : B ≤ g) (cs : Array Value) : Below B w (w'.setRow g cs) := ⟨h.os, h.tape, h.output, by rw [row_size]; exact h.size, fun k hk => (row_block w' g k cs (by omega)).trans (h.block k hk)⟩
set_option maxRecDepth 100000 in
set_option maxHeartbeats 4000000 in
theorem tree_said (s : ByteArray) (n : Nat) (w : World) (HT : Tab w) (hne : treeX s n ≠ none) : Calls Tryd.prog 8 #[.string s] w (TrePost s n w) := by
 have hu27 := Tryd.underlying27
 have HR : Aside0 (Has (w.alloc (Obj.cells #[.int .i64 0, .int .i64 0, .int .i64 0, .string ⟨#[]⟩, .slice none 0 0, .slice none 0 0, .int .i64 0, .string ⟨#[]⟩, .int .i64 0, .slice none 0 0] 27)) (w.heap.size) #[.int .i64 0, .int .i64 0, .int .i64 0, .string ⟨#[]⟩, .slice none 0 0, .slice none 0 0, .int .i64 0, .string ⟨#[]⟩, .int .i64 0, .slice none 0 0] 27) := ⟨by have h := Has.new (w) #[.int .i64 0, .int .i64 0, .int .i64 0, .string ⟨#[]⟩, .slice none 0 0, .slice none 0 0, .int .i64 0, .string ⟨#[]⟩, .int .i64 0, .slice none 0 0] 27; first | exact h | (simpa using h)⟩
 have hz1 : ((w.alloc (Obj.cells #[.int .i64 0, .int .i64 0, .int .i64 0, .string ⟨#[]⟩, .slice none 0 0, .slice none 0 0, .int .i64 0, .string ⟨#[]⟩, .int .i64 0, .slice none 0 0] 27))).heap.size = w.heap.size + 1 := by simp
 replace HR := Aside0.mk (Has.alloc HR.out (Obj.cells #[.int .i64 0] 3))
 have HA : Aside0 (Has (((w.alloc (Obj.cells #[.int .i64 0, .int .i64 0, .int .i64 0, .string ⟨#[]⟩, .slice none 0 0, .slice none 0 0, .int .i64 0, .string ⟨#[]⟩, .int .i64 0, .slice none 0 0] 27))).alloc (Obj.cells #[.int .i64 0] 3)) (w.heap.size + 1) #[.int .i64 0] 3) := ⟨by have h := Has.new ((w.alloc (Obj.cells #[.int .i64 0, .int .i64 0, .int .i64 0, .string ⟨#[]⟩, .slice none 0 0, .slice none 0 0, .int .i64 0, .string ⟨#[]⟩, .int .i64 0, .slice none 0 0] 27))) #[.int .i64 0] 3; first | exact h | (simpa using h)⟩
 replace HR := Aside0.mk (Has.alloc HR.out (Obj.cells #[.int .i64 0] 28))
 replace HA := Aside0.mk (Has.alloc HA.out (Obj.cells #[.int .i64 0] 28))
 have HE : Aside0 (Has (((((w.alloc (Obj.cells #[.int .i64 0, .int .i64 0, .int .i64 0, .string ⟨#[]⟩, .slice none 0 0, .slice none 0 0, .int .i64 0, .string ⟨#[]⟩, .int .i64 0, .slice none 0 0] 27))).alloc (Obj.cells #[.int .i64 0] 3))).alloc (Obj.cells #[.int .i64 0] 28)) (w.heap.size + 2) #[.int .i64 0] 28) := ⟨by have h := Has.new ((((w.alloc (Obj.cells #[.int .i64 0, .int .i64 0, .int .i64 0, .string ⟨#[]⟩, .slice none 0 0, .slice none 0 0, .int .i64 0, .string ⟨#[]⟩, .int .i64 0, .slice none 0 0] 27))).alloc (Obj.cells #[.int .i64 0] 3))) #[.int .i64 0] 28; first | exact h | (simpa using h)⟩
 have HB := Aside0.mk (below_alloc (below_alloc (below_alloc (Below.refl w.heap.size w) (Obj.cells #[.int .i64 0, .int .i64 0, .int .i64 0, .string ⟨#[]⟩, .slice none 0 0, .slice none 0 0, .int .i64 0, .string ⟨#[]⟩, .int .i64 0, .slice none 0 0] 27)) (Obj.cells #[.int .i64 0] 3)) (Obj.cells #[.int .i64 0] 28))
 have HTT := Aside0.mk (HT.below (below_alloc (below_alloc (below_alloc (Below.refl w.heap.size w) (Obj.cells #[.int .i64 0, .int .i64 0, .int .i64 0, .string ⟨#[]⟩, .slice none 0 0, .slice none 0 0, .int .i64 0, .string ⟨#[]⟩, .int .i64 0, .slice none 0 0] 27)) (Obj.cells #[.int .i64 0] 3)) (Obj.cells #[.int .i64 0] 28)))
 have hz0 : ((((((w.alloc (Obj.cells #[.int .i64 0, .int .i64 0, .int .i64 0, .string ⟨#[]⟩, .slice none 0 0, .slice none 0 0, .int .i64 0, .string ⟨#[]⟩, .int .i64 0, .slice none 0 0] 27))).alloc (Obj.cells #[.int .i64 0] 3))).alloc (Obj.cells #[.int .i64 0] 28))).heap.size = w.heap.size + 3 := by simp
 have HNE := Aside0.mk hne
 clear HT hne
 have hmf : ∀ (fn : Fn) (first cap : Array Value) (w : World), (Instr.makeFunc fn first cap).run Tryd.prog w = .ok (.func fn first cap) w := fun _ _ _ _ => rfl
 cases hr : lexP s with
 | error xe =>
  have HLX := Aside0.mk hr
  clear hr
  obtain ⟨ea, ee⟩ := xe
  have hne : ee ≠ 0 := lexP_bad HLX.out
  have kne : (ee != 0) = true := by simp [hne]
  go_enter_defers Tryd.func8, Tryd.ntmps8
  go_upto_region 3 with ((
        go_at_call 15
        (with_reducible refine Calls.mono (begin_said s _ HTT.out) ?_)
        rintro en w1 ⟨hb1, hq1⟩
        rw [HLX.out] at hq1
        obtain ⟨g, rfl⟩ := hq1
        replace HR := Aside0.mk (HR.out.belowS hb1)
        replace HA := Aside0.mk (HA.out.belowS hb1)
        replace HE := Aside0.mk (HE.out.belowS hb1)
        replace HB := Aside0.mk (below_then HB.out HB.out.size hb1)
        have hs1 := hb1.size
        rw [hz0] at hs1
        clear hb1
        have c2 := Has.cell HA.out 0
        simp only [List.getElem?_toArray, List.getElem?_cons_zero, List.getElem?_cons_succ] at c2
        have f2 := Has.frozen HA.out 0))
  clear c2 f2
  replace HR := Aside0.mk (Has.other HR.out (a := ⟨w.heap.size + 1, 0, none⟩) (by show w.heap.size ≠ w.heap.size + 1; omega) (.int .i64 (ea : Int)))
  replace HE := Aside0.mk (Has.other HE.out (a := ⟨w.heap.size + 1, 0, none⟩) (by show w.heap.size + 2 ≠ w.heap.size + 1; omega) (.int .i64 (ea : Int)))
  replace HA : Aside0 (Has (w1.setCell ⟨w.heap.size + 1, 0, none⟩ (.int .i64 (ea : Int))) (w.heap.size + 1) #[.int .i64 (ea : Int)] 3) := ⟨by have h := Has.set_ HA.out 0 (.int .i64 (ea : Int)); exact h⟩
  have hD := below_drew (Below.refl ((w1.setCell ⟨w.heap.size + 1, 0, none⟩ (.int .i64 (ea : Int)))).heap.size ((w1.setCell ⟨w.heap.size + 1, 0, none⟩ (.int .i64 (ea : Int)))))
  replace HR := Aside0.mk (HR.out.belowS hD)
  replace HA := Aside0.mk (HA.out.belowS hD)
  replace HE := Aside0.mk (HE.out.belowS hD)
  replace HB := Aside0.mk (below_setX HB.out (a := ⟨w.heap.size + 1, 0, none⟩) (by show w.heap.size ≤ w.heap.size + 1; omega) (.int .i64 (ea : Int)))
  replace HB := Aside0.mk (below_then HB.out HB.out.size hD)
  clear hD
  obtain ⟨W, hW⟩ : ∃ W, ((w1.setCell ⟨w.heap.size + 1, 0, none⟩ (.int .i64 (ea : Int)))).drew = W := ⟨_, rfl⟩
  rw [hW] at HR HA HE HB
  refine region_treeQN (by kernel_rfl) (fun w' => Has w' (w.heap.size + 1) #[.int .i64 (ea : Int)] 3) (hW ▸ HA.out) fun hS => ?_
  rw [hW] at hS ⊢
  clear hW hS
  generalize hQQ : panQ _ _ = QQ
  have hsure : Sure QQ := by
   rw [← hQQ]
   exact panQ_sure _ _
  refine treeQ_h hsure HA.out (i := 0) (by kernel_rfl) (by rfl) (by rfl) (by kernel_rfl) (by rfl) ?_
  apply Exists.intro
  apply And.intro
  ·rintro w' k1
   apply VR.mk
   go_simp
   with_reducible rfl
  simp only [List.setIfInBounds_toArray, List.set_cons_zero, List.set_cons_succ]
  refine treeQ_h hsure HA.out (i := 1) (by kernel_rfl) (by rfl) (by rfl) (by kernel_rfl) (by rfl) ?_
  apply Exists.intro
  apply And.intro
  ·rintro w' k1
   have cc0 := k1.cell 0
   simp only [List.getElem?_toArray, List.getElem?_cons_zero, List.getElem?_cons_succ] at cc0
   apply VR.mk
   go_simp
   with_reducible rfl
  simp only [List.setIfInBounds_toArray, List.set_cons_zero, List.set_cons_succ]
  refine treeQ_h hsure HA.out (i := 2) (by kernel_rfl) (by rfl) (by rfl) (by kernel_rfl) (by rfl) ?_
  apply Exists.intro
  apply And.intro
  ·rintro w' k1
   apply VR.mk
   go_simp
   with_reducible rfl
  simp only [List.setIfInBounds_toArray, List.set_cons_zero, List.set_cons_succ]
  refine tree_1Q (i := 3) (by kernel_rfl) ?_
  refine step_storeQ (w' := W.setRow w.heap.size #[.int .i64 0, .int .i64 0, .int .i64 0, .string ⟨#[]⟩, .slice none 0 0, .slice none 0 0, .int .i64 0, .string ⟨#[]⟩, .int .i64 0, .slice none 0 0]) (by rfl) (by rfl) (by rfl) ⟨store27 W _ _ _ HR.out rfl rfl (by kernel_rfl) _ _ _ _ rfl rfl rfl⟩ ?_ ?_
  ·exact has_row_other HA.out (by omega)
  replace HA := Aside0.mk (has_row_other HA.out (g := w.heap.size) (cs' := #[.int .i64 0, .int .i64 0, .int .i64 0, .string ⟨#[]⟩, .slice none 0 0, .slice none 0 0, .int .i64 0, .string ⟨#[]⟩, .int .i64 0, .slice none 0 0]) (by omega))
  replace HE := Aside0.mk (has_row_other HE.out (g := w.heap.size) (cs' := #[.int .i64 0, .int .i64 0, .int .i64 0, .string ⟨#[]⟩, .slice none 0 0, .slice none 0 0, .int .i64 0, .string ⟨#[]⟩, .int .i64 0, .slice none 0 0]) (by omega))
  replace HB := Aside0.mk (below_rowX HB.out (Nat.le_refl _) #[.int .i64 0, .int .i64 0, .int .i64 0, .string ⟨#[]⟩, .slice none 0 0, .slice none 0 0, .int .i64 0, .string ⟨#[]⟩, .int .i64 0, .slice none 0 0])
  replace HR := Aside0.mk (has_row HR.out #[.int .i64 0, .int .i64 0, .int .i64 0, .string ⟨#[]⟩, .slice none 0 0, .slice none 0 0, .int .i64 0, .string ⟨#[]⟩, .int .i64 0, .slice none 0 0])
  obtain ⟨W2, hW2⟩ : ∃ V, W.setRow w.heap.size #[.int .i64 0, .int .i64 0, .int .i64 0, .string ⟨#[]⟩, .slice none 0 0, .slice none 0 0, .int .i64 0, .string ⟨#[]⟩, .int .i64 0, .slice none 0 0] = V := ⟨_, rfl⟩
  rw [hW2] at HA HE HB HR ⊢
  clear hW2
  have ca := HA.out.cell 0
  simp only [List.getElem?_toArray, List.getElem?_cons_zero, List.getElem?_cons_succ] at ca
  have fa := HA.out.frozen 0
  refine tree_1Q (i := 4) (by kernel_rfl) ?_
  refine step_list (by rfl) ?_
  go_wp2
  clear ca fa
  replace HE := Aside0.mk (HE.out.other (a := ⟨w.heap.size + 1, 0, none⟩) (by show _ ≠ w.heap.size + 1; omega) (.int .i64 (ea : Int)))
  replace HR := Aside0.mk (HR.out.other (a := ⟨w.heap.size + 1, 0, none⟩) (by show _ ≠ w.heap.size + 1; omega) (.int .i64 (ea : Int)))
  replace HB := Aside0.mk (below_setX HB.out (a := ⟨w.heap.size + 1, 0, none⟩) (by show w.heap.size ≤ w.heap.size + 1; omega) (.int .i64 (ea : Int)))
  have hx : Has (W2.setCell ⟨w.heap.size + 1, 0, none⟩ (.int .i64 (ea : Int))) (w.heap.size + 1) #[.int .i64 (ea : Int)] 3 := HA.out.set_ 0 (.int .i64 (ea : Int))
  replace HA := Aside0.mk hx
  clear hx
  refine ⟨HA.out, ?_⟩
  obtain ⟨W3, hW3⟩ : ∃ V, W2.setCell ⟨w.heap.size + 1, 0, none⟩ (.int .i64 (ea : Int)) = V := ⟨_, rfl⟩
  rw [hW3] at HA HE HB HR ⊢
  clear hW3
  have ce := HE.out.cell 0
  simp only [List.getElem?_toArray, List.getElem?_cons_zero, List.getElem?_cons_succ] at ce
  have fe := HE.out.frozen 0
  refine tree_1Q (i := 5) (by kernel_rfl) ?_
  refine step_list (by rfl) ?_
  go_wp2
  clear ce fe
  replace HA := Aside0.mk (HA.out.other (a := ⟨w.heap.size + 2, 0, none⟩) (by show _ ≠ w.heap.size + 2; omega) (.int .i64 ee))
  replace HR := Aside0.mk (HR.out.other (a := ⟨w.heap.size + 2, 0, none⟩) (by show _ ≠ w.heap.size + 2; omega) (.int .i64 ee))
  replace HB := Aside0.mk (below_setX HB.out (a := ⟨w.heap.size + 2, 0, none⟩) (by show w.heap.size ≤ w.heap.size + 2; omega) (.int .i64 ee))
  have hx : Has (W3.setCell ⟨w.heap.size + 2, 0, none⟩ (.int .i64 ee)) (w.heap.size + 2) #[.int .i64 ee] 28 := HE.out.set_ 0 (.int .i64 ee)
  replace HE := Aside0.mk hx
  clear hx
  refine ⟨HA.out, tree_endQ (by kernel_rfl) ?_⟩
  obtain ⟨W4, hW4⟩ : ∃ V, W3.setCell ⟨w.heap.size + 2, 0, none⟩ (.int .i64 ee) = V := ⟨_, rfl⟩
  rw [hW4] at HA HE HB HR ⊢
  clear hW4
  rw [← hQQ]
  clear hQQ hsure
  simp only [panQ]
  go_wp2
  refine ⟨_, tree_end _ (by rfl) (by rfl) (by rfl) HR.out HA.out HE.out, HB.out, _, Z0, (ea : Int), ee, ?_, rfl, Z_VE _ _⟩
  unfold treeX
  rw [HLX.out]
 | ok ts =>
  have HLX := Aside0.mk hr
  clear hr
  have HTO := tree_ok ((all_ok n).climb n (Nat.le_refl n))
  unfold TreeOK at HTO
  have HTO := Aside0.mk HTO
  have hxo : ∀ (h : treeP s.size n ts = .out), False := fun h => HNE.out (by unfold treeX; rw [HLX.out]; dsimp only; rw [h])
  cases hr : climbP s.size n 0 true 1 ts with
  | out => exact (hxo (by unfold treeP; rw [hr]; rfl)).elim
  | bad a er =>
   have HC := Aside0.mk hr
   have hx : treeX s n = some (Z0, a, er) := by unfold treeX treeP; rw [HLX.out]; dsimp only; rw [hr]; rfl
   have HX := Aside0.mk hx
   clear hr hx hxo
   go_enter_defers Tryd.func8, Tryd.ntmps8
   go_wp2_with (first
     | (
      go_at_call 15
      (with_reducible refine Calls.mono (begin_said s _ HTT.out) ?_)
      rintro en w1 ⟨hb1, hq1⟩
      rw [HLX.out] at hq1
      obtain ⟨g, rfl, hg1, hp1⟩ := hq1
      rw [hz0] at hg1
      have HP := Aside0.mk hp1
      replace HR := Aside0.mk (HR.out.belowS hb1)
      replace HA := Aside0.mk (HA.out.belowS hb1)
      replace HE := Aside0.mk (HE.out.belowS hb1)
      replace HB := Aside0.mk (below_then HB.out HB.out.size hb1)
      have hs1 := hb1.size
      rw [hz0] at hs1
      clear hb1
      have c2 := Has.cell HA.out 0
      simp only [List.getElem?_toArray, List.getElem?_cons_zero, List.getElem?_cons_succ] at c2
      have f2 := Has.frozen HA.out 0)
     | (
      go_at_call 18
      clear c2 f2
      have hxx := HA.out.set_ 0 (.int .i64 0)
      replace HB := Aside0.mk (below_setX HB.out (a := ⟨w.heap.size + 1, 0, none⟩) (by show w.heap.size ≤ w.heap.size + 1; omega) (.int .i64 0))
      replace HP := Aside0.mk (PS.setT HP.out HA.out (by decide) (by decide) 0 (.int .i64 0))
      replace HR := Aside0.mk (HR.out.other (a := ⟨w.heap.size + 1, 0, none⟩) (by show _ ≠ w.heap.size + 1; omega) (.int .i64 0))
      replace HE := Aside0.mk (HE.out.other (a := ⟨w.heap.size + 1, 0, none⟩) (by show _ ≠ w.heap.size + 1; omega) (.int .i64 0))
      replace HA : Aside0 (Has (w1.setCell ⟨w.heap.size + 1, 0, none⟩ (.int .i64 0)) (w.heap.size + 1) #[.int .i64 0] 3) := ⟨hxx⟩
      clear hxx
      (with_reducible refine Calls.mono (HTO.out g s.size 0 true ts _ (by omega) (by omega) HP.out (by rw [HC.out]; exact PR.bad_ne _ _)) ?_)
      rintro en w3 ⟨hk3, hq3⟩
      rw [HC.out] at hq3
      subst hq3
      replace HR := Aside0.mk (Par.Kept.has hk3 HR.out (by omega))
      replace HA := Aside0.mk (Par.Kept.has hk3 HA.out (by omega))
      replace HE := Aside0.mk (Par.Kept.has hk3 HE.out (by omega))
      replace HB := Aside0.mk (below_tr HB.out (Par.Kept.below_of hk3 (B := w.heap.size) (fun b hb => by omega) HB.out.size))
      have hs3 := Par.Kept.size hk3
      try simp at hs3))
   exact tree_stops _ (by rfl) (by rfl) (by rfl) HX.out HA.out HE.out HR.out rfl HB.out (by omega) (by omega) (Nat.le_refl _)
  | ok x l2 =>
   have HC := Aside0.mk hr
   by_cases hk : kindP l2 = 0
   ·have hx : treeX s n = some (x, 0, 0) := by unfold treeX treeP; rw [HLX.out]; dsimp only; rw [hr]; simp only [PR.andThen]; rw [if_pos hk]
    have HX := Aside0.mk hx
    clear hr hx hxo
    obtain ⟨q, hq⟩ : ∃ q, kindP l2 = q := ⟨_, rfl⟩
    have HQ := Aside0.mk hq
    rw [hq] at hk
    clear hq
    have kq : (q != 0) = false := by simp [hk]
    go_enter_defers Tryd.func8, Tryd.ntmps8
    go_wp2_with (first
      | (
       go_at_call 15
       (with_reducible refine Calls.mono (begin_said s _ HTT.out) ?_)
       rintro en w1 ⟨hb1, hq1⟩
       rw [HLX.out] at hq1
       obtain ⟨g, rfl, hg1, hp1⟩ := hq1
       rw [hz0] at hg1
       have HP := Aside0.mk hp1
       replace HR := Aside0.mk (HR.out.belowS hb1)
       replace HA := Aside0.mk (HA.out.belowS hb1)
       replace HE := Aside0.mk (HE.out.belowS hb1)
       replace HB := Aside0.mk (below_then HB.out HB.out.size hb1)
       have hs1 := hb1.size
       rw [hz0] at hs1
       clear hb1
       have c2 := Has.cell HA.out 0
       simp only [List.getElem?_toArray, List.getElem?_cons_zero, List.getElem?_cons_succ] at c2
       have f2 := Has.frozen HA.out 0)
      | (
       go_at_call 18
       clear c2 f2
       have hxx := HA.out.set_ 0 (.int .i64 0)
       replace HB := Aside0.mk (below_setX HB.out (a := ⟨w.heap.size + 1, 0, none⟩) (by show w.heap.size ≤ w.heap.size + 1; omega) (.int .i64 0))
       replace HP := Aside0.mk (PS.setT HP.out HA.out (by decide) (by decide) 0 (.int .i64 0))
       replace HR := Aside0.mk (HR.out.other (a := ⟨w.heap.size + 1, 0, none⟩) (by show _ ≠ w.heap.size + 1; omega) (.int .i64 0))
       replace HE := Aside0.mk (HE.out.other (a := ⟨w.heap.size + 1, 0, none⟩) (by show _ ≠ w.heap.size + 1; omega) (.int .i64 0))
       replace HA : Aside0 (Has (w1.setCell ⟨w.heap.size + 1, 0, none⟩ (.int .i64 0)) (w.heap.size + 1) #[.int .i64 0] 3) := ⟨hxx⟩
       clear hxx
       (with_reducible refine Calls.mono (HTO.out g s.size 0 true ts _ (by omega) (by omega) HP.out (by rw [HC.out]; exact PR.ok_ne _ _)) ?_)
       rintro en w3 ⟨hk3, hq3⟩
       rw [HC.out] at hq3
       obtain ⟨v3, rfl, hv3, hp3⟩ := hq3
       obtain ⟨a4, ac4, a5, ac5, a9, ac9, rfl⟩ := VO.form hv3
       have HV := Aside0.mk hv3
       replace HR := Aside0.mk (Par.Kept.has hk3 HR.out (by omega))
       replace HA := Aside0.mk (Par.Kept.has hk3 HA.out (by omega))
       replace HE := Aside0.mk (Par.Kept.has hk3 HE.out (by omega))
       replace HB := Aside0.mk (below_tr HB.out (Par.Kept.below_of hk3 (B := w.heap.size) (fun b hb => by omega) HB.out.size))
       replace HP := Aside0.mk hp3
       have hs3 := Par.Kept.size hk3
       try simp at hs3)
      | (
       (with_reducible refine gate_store (t := 27) (p := 2) rfl ?_)
       (refine store_event (t := 27) (p := 2) (v := .tmp 20) (w1 := w3.setRow w.heap.size #[.int .i64 x.f0, .int .i64 x.f1, .int .i64 x.f2, .string x.f3, .slice a4 x.f4.length ac4, .slice a5 x.f5.length ac5, .int .i64 x.f6.f0, .string x.f6.f1, .int .i64 x.f6.f2, .slice a9 x.f6.f3.length ac9]) ?hg ?ho ?hn ?hr ?_; (case ho => rfl); (case hg => rfl); (case hn => rfl); (case hr => exact store27 w3 _ _ _ HR.out rfl rfl (by first | kernel_rfl | (simp [Value.oneCell'])) _ _ _ _ rfl rfl rfl); intro w77 hw77; subst hw77))
      | (
       go_at_call 19
       have HVL : Aside0 (VE (w.heap.size + 3) (w3.setRow w.heap.size #[.int .i64 x.f0, .int .i64 x.f1, .int .i64 x.f2, .string x.f3, .slice a4 x.f4.length ac4, .slice a5 x.f5.length ac5, .int .i64 x.f6.f0, .string x.f6.f1, .int .i64 x.f6.f2, .slice a9 x.f6.f3.length ac9]) (.agg #[.int .i64 x.f0, .int .i64 x.f1, .int .i64 x.f2, .string x.f3, .slice a4 x.f4.length ac4, .slice a5 x.f5.length ac5, .int .i64 x.f6.f0, .string x.f6.f1, .int .i64 x.f6.f2, .slice a9 x.f6.f3.length ac9]) x) := ⟨VO.row (HV.out.lower (show w.heap.size + 3 ≤ _ by simp; omega)) (by omega) #[.int .i64 x.f0, .int .i64 x.f1, .int .i64 x.f2, .string x.f3, .slice a4 x.f4.length ac4, .slice a5 x.f5.length ac5, .int .i64 x.f6.f0, .string x.f6.f1, .int .i64 x.f6.f2, .slice a9 x.f6.f3.length ac9]⟩
       replace HV : Aside0 (VE w.heap.size (w3.setRow w.heap.size #[.int .i64 x.f0, .int .i64 x.f1, .int .i64 x.f2, .string x.f3, .slice a4 x.f4.length ac4, .slice a5 x.f5.length ac5, .int .i64 x.f6.f0, .string x.f6.f1, .int .i64 x.f6.f2, .slice a9 x.f6.f3.length ac9]) (.agg #[.int .i64 x.f0, .int .i64 x.f1, .int .i64 x.f2, .string x.f3, .slice a4 x.f4.length ac4, .slice a5 x.f5.length ac5, .int .i64 x.f6.f0, .string x.f6.f1, .int .i64 x.f6.f2, .slice a9 x.f6.f3.length ac9]) x) := ⟨(VO.row (HV.out.lower (show w.heap.size + 1 ≤ _ by simp; omega)) (Nat.lt_succ_self _) #[.int .i64 x.f0, .int .i64 x.f1, .int .i64 x.f2, .string x.f3, .slice a4 x.f4.length ac4, .slice a5 x.f5.length ac5, .int .i64 x.f6.f0, .string x.f6.f1, .int .i64 x.f6.f2, .slice a9 x.f6.f3.length ac9]).lower (Nat.le_succ _)⟩
       replace HP := Aside0.mk (PS.rowP HP.out HR.out #[.int .i64 x.f0, .int .i64 x.f1, .int .i64 x.f2, .string x.f3, .slice a4 x.f4.length ac4, .slice a5 x.f5.length ac5, .int .i64 x.f6.f0, .string x.f6.f1, .int .i64 x.f6.f2, .slice a9 x.f6.f3.length ac9])
       replace HA := Aside0.mk (has_row_other HA.out (g := w.heap.size) (cs' := #[.int .i64 x.f0, .int .i64 x.f1, .int .i64 x.f2, .string x.f3, .slice a4 x.f4.length ac4, .slice a5 x.f5.length ac5, .int .i64 x.f6.f0, .string x.f6.f1, .int .i64 x.f6.f2, .slice a9 x.f6.f3.length ac9]) (by omega))
       replace HE := Aside0.mk (has_row_other HE.out (g := w.heap.size) (cs' := #[.int .i64 x.f0, .int .i64 x.f1, .int .i64 x.f2, .string x.f3, .slice a4 x.f4.length ac4, .slice a5 x.f5.length ac5, .int .i64 x.f6.f0, .string x.f6.f1, .int .i64 x.f6.f2, .slice a9 x.f6.f3.length ac9]) (by omega))
       replace HB := Aside0.mk (below_rowX HB.out (Nat.le_refl _) #[.int .i64 x.f0, .int .i64 x.f1, .int .i64 x.f2, .string x.f3, .slice a4 x.f4.length ac4, .slice a5 x.f5.length ac5, .int .i64 x.f6.f0, .string x.f6.f1, .int .i64 x.f6.f2, .slice a9 x.f6.f3.length ac9])
       replace HR := Aside0.mk (has_row HR.out #[.int .i64 x.f0, .int .i64 x.f1, .int .i64 x.f2, .string x.f3, .slice a4 x.f4.length ac4, .slice a5 x.f5.length ac5, .int .i64 x.f6.f0, .string x.f6.f1, .int .i64 x.f6.f2, .slice a9 x.f6.f3.length ac9])
       (with_reducible refine Calls.mono (kind_ps HP.out) ?_)
       rintro en w4 ⟨he4, hb4⟩
       rw [HQ.out] at he4
       subst he4
       replace HR := Aside0.mk (HR.out.belowS hb4)
       replace HA := Aside0.mk (HA.out.belowS hb4)
       replace HE := Aside0.mk (HE.out.belowS hb4)
       replace HP := Aside0.mk (HP.out.below hb4)
       replace HV := Aside0.mk (HV.out.below hb4)
       replace HB := Aside0.mk (below_then HB.out HB.out.size hb4)
       have hbb := Aside0.mk hb4)
      | (
       (with_reducible refine gate_dst (N := 26) rfl ?_)
       go_must (refine Kd.event_run rfl (load27 w4 w.heap.size #[.int .i64 x.f0, .int .i64 x.f1, .int .i64 x.f2, .string x.f3, .slice a4 x.f4.length ac4, .slice a5 x.f5.length ac5, .int .i64 x.f6.f0, .string x.f6.f1, .int .i64 x.f6.f2, .slice a9 x.f6.f3.length ac9] HR.out rfl _ _ _ rfl rfl) ?_))
      | (
       (with_reducible refine gate_store (t := 27) (p := 2) rfl ?_)
       (refine store_event (t := 27) (p := 2) (v := .tmp 26) (w1 := (w4.setRow w.heap.size #[.int .i64 x.f0, .int .i64 x.f1, .int .i64 x.f2, .string x.f3, .slice a4 x.f4.length ac4, .slice a5 x.f5.length ac5, .int .i64 x.f6.f0, .string x.f6.f1, .int .i64 x.f6.f2, .slice a9 x.f6.f3.length ac9])) ?hg ?ho ?hn ?hr ?_; (case ho => rfl); (case hg => rfl); (case hn => rfl); (case hr => exact store27 w4 _ _ _ HR.out rfl rfl (by first | kernel_rfl | (simp [Value.oneCell'])) _ _ _ _ rfl rfl rfl); intro w77 hw77; subst hw77)
       have HV3 : Aside0 (VE (w.heap.size + 3) (w4.setRow w.heap.size #[.int .i64 x.f0, .int .i64 x.f1, .int .i64 x.f2, .string x.f3, .slice a4 x.f4.length ac4, .slice a5 x.f5.length ac5, .int .i64 x.f6.f0, .string x.f6.f1, .int .i64 x.f6.f2, .slice a9 x.f6.f3.length ac9]) (.agg #[.int .i64 x.f0, .int .i64 x.f1, .int .i64 x.f2, .string x.f3, .slice a4 x.f4.length ac4, .slice a5 x.f5.length ac5, .int .i64 x.f6.f0, .string x.f6.f1, .int .i64 x.f6.f2, .slice a9 x.f6.f3.length ac9]) x) := ⟨VO.row (HVL.out.below hbb.out) (by omega) #[.int .i64 x.f0, .int .i64 x.f1, .int .i64 x.f2, .string x.f3, .slice a4 x.f4.length ac4, .slice a5 x.f5.length ac5, .int .i64 x.f6.f0, .string x.f6.f1, .int .i64 x.f6.f2, .slice a9 x.f6.f3.length ac9]⟩
       replace HA := Aside0.mk (has_row_other HA.out (g := w.heap.size) (cs' := #[.int .i64 x.f0, .int .i64 x.f1, .int .i64 x.f2, .string x.f3, .slice a4 x.f4.length ac4, .slice a5 x.f5.length ac5, .int .i64 x.f6.f0, .string x.f6.f1, .int .i64 x.f6.f2, .slice a9 x.f6.f3.length ac9]) (by omega))
       replace HE := Aside0.mk (has_row_other HE.out (g := w.heap.size) (cs' := #[.int .i64 x.f0, .int .i64 x.f1, .int .i64 x.f2, .string x.f3, .slice a4 x.f4.length ac4, .slice a5 x.f5.length ac5, .int .i64 x.f6.f0, .string x.f6.f1, .int .i64 x.f6.f2, .slice a9 x.f6.f3.length ac9]) (by omega))
       replace HB := Aside0.mk (below_rowX HB.out (Nat.le_refl _) #[.int .i64 x.f0, .int .i64 x.f1, .int .i64 x.f2, .string x.f3, .slice a4 x.f4.length ac4, .slice a5 x.f5.length ac5, .int .i64 x.f6.f0, .string x.f6.f1, .int .i64 x.f6.f2, .slice a9 x.f6.f3.length ac9])
       replace HR := Aside0.mk (has_row HR.out #[.int .i64 x.f0, .int .i64 x.f1, .int .i64 x.f2, .string x.f3, .slice a4 x.f4.length ac4, .slice a5 x.f5.length ac5, .int .i64 x.f6.f0, .string x.f6.f1, .int .i64 x.f6.f2, .slice a9 x.f6.f3.length ac9])
       have ca := HA.out.cell 0
       simp only [List.getElem?_toArray, List.getElem?_cons_zero, List.getElem?_cons_succ] at ca
       have fa := HA.out.frozen 0
       have he2 := HE.out.other (a := ⟨w.heap.size + 1, 0, none⟩) (by show _ ≠ w.heap.size + 1; omega) (.int .i64 0)
       have ce := he2.cell 0
       simp only [List.getElem?_toArray, List.getElem?_cons_zero, List.getElem?_cons_succ] at ce
       have fe := he2.frozen 0
       clear he2))
    have hA1 := HA.out.set_ 0 (.int .i64 0)
    have hA2 := hA1.other (a := ⟨w.heap.size + 2, 0, none⟩) (by show _ ≠ w.heap.size + 2; omega) (.int .i64 0)
    have hE1 := (HE.out.other (a := ⟨w.heap.size + 1, 0, none⟩) (by show _ ≠ w.heap.size + 1; omega) (.int .i64 0)).set_ 0 (.int .i64 0)
    have hR2 := (HR.out.other (a := ⟨w.heap.size + 1, 0, none⟩) (by show _ ≠ w.heap.size + 1; omega) (.int .i64 0)).other (a := ⟨w.heap.size + 2, 0, none⟩) (by show _ ≠ w.heap.size + 2; omega) (.int .i64 0)
    skip
    exact tree_idles _ (by rfl) (by rfl) (by rfl) HX.out hA2 hE1 hR2 (below_setX (below_setX HB.out (by show w.heap.size ≤ w.heap.size + 1; omega) _) (by show w.heap.size ≤ w.heap.size + 2; omega) _) (((VO.setO (VO.setO HV3.out (a := ⟨w.heap.size + 1, 0, none⟩) (fun k h1 h2 => by show k ≠ w.heap.size + 1; omega) _) (a := ⟨w.heap.size + 2, 0, none⟩) (fun k h1 h2 => by show k ≠ w.heap.size + 2; omega) _)).lower (by omega))
   ·have hx : treeX s n = some (Z0, atP s.size l2, 30) := by unfold treeX treeP; rw [HLX.out]; dsimp only; rw [hr]; simp only [PR.andThen]; rw [if_neg hk]
    have HX := Aside0.mk hx
    clear hr hx hxo
    obtain ⟨q, hq⟩ : ∃ q, kindP l2 = q := ⟨_, rfl⟩
    have HQ := Aside0.mk hq
    rw [hq] at hk
    clear hq
    have kq : (q != 0) = true := by simp [hk]
    go_enter_defers Tryd.func8, Tryd.ntmps8
    go_wp2_with (first
      | (
       go_at_call 15
       (with_reducible refine Calls.mono (begin_said s _ HTT.out) ?_)
       rintro en w1 ⟨hb1, hq1⟩
       rw [HLX.out] at hq1
       obtain ⟨g, rfl, hg1, hp1⟩ := hq1
       rw [hz0] at hg1
       have HP := Aside0.mk hp1
       replace HR := Aside0.mk (HR.out.belowS hb1)
       replace HA := Aside0.mk (HA.out.belowS hb1)
       replace HE := Aside0.mk (HE.out.belowS hb1)
       replace HB := Aside0.mk (below_then HB.out HB.out.size hb1)
       have hs1 := hb1.size
       rw [hz0] at hs1
       clear hb1
       have c2 := Has.cell HA.out 0
       simp only [List.getElem?_toArray, List.getElem?_cons_zero, List.getElem?_cons_succ] at c2
       have f2 := Has.frozen HA.out 0)
      | (
       go_at_call 18
       clear c2 f2
       have hxx := HA.out.set_ 0 (.int .i64 0)
       replace HB := Aside0.mk (below_setX HB.out (a := ⟨w.heap.size + 1, 0, none⟩) (by show w.heap.size ≤ w.heap.size + 1; omega) (.int .i64 0))
       replace HP := Aside0.mk (PS.setT HP.out HA.out (by decide) (by decide) 0 (.int .i64 0))
       replace HR := Aside0.mk (HR.out.other (a := ⟨w.heap.size + 1, 0, none⟩) (by show _ ≠ w.heap.size + 1; omega) (.int .i64 0))
       replace HE := Aside0.mk (HE.out.other (a := ⟨w.heap.size + 1, 0, none⟩) (by show _ ≠ w.heap.size + 1; omega) (.int .i64 0))
       replace HA : Aside0 (Has (w1.setCell ⟨w.heap.size + 1, 0, none⟩ (.int .i64 0)) (w.heap.size + 1) #[.int .i64 0] 3) := ⟨hxx⟩
       clear hxx
       (with_reducible refine Calls.mono (HTO.out g s.size 0 true ts _ (by omega) (by omega) HP.out (by rw [HC.out]; exact PR.ok_ne _ _)) ?_)
       rintro en w3 ⟨hk3, hq3⟩
       rw [HC.out] at hq3
       obtain ⟨v3, rfl, hv3, hp3⟩ := hq3
       obtain ⟨a4, ac4, a5, ac5, a9, ac9, rfl⟩ := VO.form hv3
       have HV := Aside0.mk hv3
       replace HR := Aside0.mk (Par.Kept.has hk3 HR.out (by omega))
       replace HA := Aside0.mk (Par.Kept.has hk3 HA.out (by omega))
       replace HE := Aside0.mk (Par.Kept.has hk3 HE.out (by omega))
       replace HB := Aside0.mk (below_tr HB.out (Par.Kept.below_of hk3 (B := w.heap.size) (fun b hb => by omega) HB.out.size))
       replace HP := Aside0.mk hp3
       have hs3 := Par.Kept.size hk3
       try simp at hs3)
      | (
       (with_reducible refine gate_store (t := 27) (p := 2) rfl ?_)
       go_must (refine store_event (t := 27) (p := 2) (v := .tmp 20) (w1 := w3.setRow w.heap.size #[.int .i64 x.f0, .int .i64 x.f1, .int .i64 x.f2, .string x.f3, .slice a4 x.f4.length ac4, .slice a5 x.f5.length ac5, .int .i64 x.f6.f0, .string x.f6.f1, .int .i64 x.f6.f2, .slice a9 x.f6.f3.length ac9]) ?hg ?ho ?hn ?hr ?_; (case ho => rfl); (case hg => rfl); (case hn => rfl); (case hr => exact store27 w3 _ _ _ HR.out rfl rfl (by first | kernel_rfl | (simp [Value.oneCell'])) _ _ _ _ rfl rfl rfl); intro w77 hw77; subst hw77))
      | (
       go_at_call 19
       replace HV : Aside0 (VE w.heap.size (w3.setRow w.heap.size #[.int .i64 x.f0, .int .i64 x.f1, .int .i64 x.f2, .string x.f3, .slice a4 x.f4.length ac4, .slice a5 x.f5.length ac5, .int .i64 x.f6.f0, .string x.f6.f1, .int .i64 x.f6.f2, .slice a9 x.f6.f3.length ac9]) (.agg #[.int .i64 x.f0, .int .i64 x.f1, .int .i64 x.f2, .string x.f3, .slice a4 x.f4.length ac4, .slice a5 x.f5.length ac5, .int .i64 x.f6.f0, .string x.f6.f1, .int .i64 x.f6.f2, .slice a9 x.f6.f3.length ac9]) x) := ⟨(VO.row (HV.out.lower (show w.heap.size + 1 ≤ _ by simp; omega)) (Nat.lt_succ_self _) #[.int .i64 x.f0, .int .i64 x.f1, .int .i64 x.f2, .string x.f3, .slice a4 x.f4.length ac4, .slice a5 x.f5.length ac5, .int .i64 x.f6.f0, .string x.f6.f1, .int .i64 x.f6.f2, .slice a9 x.f6.f3.length ac9]).lower (Nat.le_succ _)⟩
       replace HP := Aside0.mk (PS.rowP HP.out HR.out #[.int .i64 x.f0, .int .i64 x.f1, .int .i64 x.f2, .string x.f3, .slice a4 x.f4.length ac4, .slice a5 x.f5.length ac5, .int .i64 x.f6.f0, .string x.f6.f1, .int .i64 x.f6.f2, .slice a9 x.f6.f3.length ac9])
       replace HA := Aside0.mk (has_row_other HA.out (g := w.heap.size) (cs' := #[.int .i64 x.f0, .int .i64 x.f1, .int .i64 x.f2, .string x.f3, .slice a4 x.f4.length ac4, .slice a5 x.f5.length ac5, .int .i64 x.f6.f0, .string x.f6.f1, .int .i64 x.f6.f2, .slice a9 x.f6.f3.length ac9]) (by omega))
       replace HE := Aside0.mk (has_row_other HE.out (g := w.heap.size) (cs' := #[.int .i64 x.f0, .int .i64 x.f1, .int .i64 x.f2, .string x.f3, .slice a4 x.f4.length ac4, .slice a5 x.f5.length ac5, .int .i64 x.f6.f0, .string x.f6.f1, .int .i64 x.f6.f2, .slice a9 x.f6.f3.length ac9]) (by omega))
       replace HB := Aside0.mk (below_rowX HB.out (Nat.le_refl _) #[.int .i64 x.f0, .int .i64 x.f1, .int .i64 x.f2, .string x.f3, .slice a4 x.f4.length ac4, .slice a5 x.f5.length ac5, .int .i64 x.f6.f0, .string x.f6.f1, .int .i64 x.f6.f2, .slice a9 x.f6.f3.length ac9])
       replace HR := Aside0.mk (has_row HR.out #[.int .i64 x.f0, .int .i64 x.f1, .int .i64 x.f2, .string x.f3, .slice a4 x.f4.length ac4, .slice a5 x.f5.length ac5, .int .i64 x.f6.f0, .string x.f6.f1, .int .i64 x.f6.f2, .slice a9 x.f6.f3.length ac9])
       (with_reducible refine Calls.mono (kind_ps HP.out) ?_)
       rintro en w4 ⟨he4, hb4⟩
       rw [HQ.out] at he4
       subst he4
       replace HR := Aside0.mk (HR.out.belowS hb4)
       replace HA := Aside0.mk (HA.out.belowS hb4)
       replace HE := Aside0.mk (HE.out.belowS hb4)
       replace HP := Aside0.mk (HP.out.below hb4)
       replace HV := Aside0.mk (HV.out.below hb4)
       replace HB := Aside0.mk (below_then HB.out HB.out.size hb4))
      | (
       go_at_call 20
       (with_reducible refine Calls.mono (fail_ps 30 HP.out) ?_)
       rintro en w5 ⟨rfl, hb5⟩
       replace HR := Aside0.mk (HR.out.belowS hb5)
       replace HA := Aside0.mk (HA.out.belowS hb5)
       replace HE := Aside0.mk (HE.out.belowS hb5)
       replace HB := Aside0.mk (below_then HB.out HB.out.size hb5)))
    exact tree_stops _ (by rfl) (by rfl) (by rfl) HX.out HA.out HE.out HR.out rfl HB.out (by omega) (by omega) (Nat.le_refl _)
end Go.Proofs.YtngpgdmafmkddaaDoor.Tre
end
section
namespace Go.Proofs.YtngpgdmafmkddaaDoor.Tre
open Go.Proofs.YtngpgdmafmkddaaDoor.Lex Go.Proofs.YtngpgdmafmkddaaDoor.Calm Go.Proofs.YtngpgdmafmkddaaDoor.Par Go.RowKit Go.Proofs.YtngpgdmafmkddaaDoorW.PrintWords Go.Proofs.YtngpgdmafmkddaaDoorW.PrintLast Go.Proofs.YtngpgdmafmkddaaDoorW.PrintMore
open Go.Proofs.YtngpgdmafmkddaaDoor.PParseBlanks (S35 S25 S27 k35 k25 k27 rd_T35 rd_T25 rd_T27 at_T35 at_T25 at_T27)
set_option linter.unusedVariables false
set_option linter.unusedSimpArgs false
def deepOpen (q : Nat) : List UInt8 := match q with | 0 => [40] | 1 => [45] | 2 => [91] | 3 => [102, 40] | 4 => [42] | _ => [123, 32]
def deepShut (q : Nat) : List UInt8 := match q with | 0 => [41] | 1 => [] | 2 => [93] | 3 => [41] | 4 => [] | _ => [32, 125]
def deepL (q : Nat) : Nat → List UInt8
 | 0 => [120]
 | n + 1 => deepOpen q ++ deepL q n ++ deepShut q
def deepMost (q : Nat) : Nat := if q = 5 then 58 else 59
def deepOk (q n : Nat) : Bool := match treeX ⟨(deepL q n).toArray⟩ 1000 with
 | none => false
 | some (_, a, e) => if n ≤ deepMost q then decide (e = 0) && decide (a = 0) else decide (e = 31) && decide (a > 0)
theorem deep_0_0 : ((List.range 8).all fun k => deepOk 0 (40 + k)) = true := by kernel_rfl
theorem deep_0_1 : ((List.range 8).all fun k => deepOk 0 (48 + k)) = true := by kernel_rfl
theorem deep_0_2 : ((List.range 8).all fun k => deepOk 0 (56 + k)) = true := by kernel_rfl
theorem deep_0_3 : ((List.range 8).all fun k => deepOk 0 (64 + k)) = true := by kernel_rfl
theorem deep_1_0 : ((List.range 8).all fun k => deepOk 1 (40 + k)) = true := by kernel_rfl
theorem deep_1_1 : ((List.range 8).all fun k => deepOk 1 (48 + k)) = true := by kernel_rfl
theorem deep_1_2 : ((List.range 8).all fun k => deepOk 1 (56 + k)) = true := by kernel_rfl
theorem deep_1_3 : ((List.range 8).all fun k => deepOk 1 (64 + k)) = true := by kernel_rfl
theorem deep_2_0 : ((List.range 8).all fun k => deepOk 2 (40 + k)) = true := by kernel_rfl
theorem deep_2_1 : ((List.range 8).all fun k => deepOk 2 (48 + k)) = true := by kernel_rfl
theorem deep_2_2 : ((List.range 8).all fun k => deepOk 2 (56 + k)) = true := by kernel_rfl
theorem deep_2_3 : ((List.range 8).all fun k => deepOk 2 (64 + k)) = true := by kernel_rfl
theorem deep_3_0 : ((List.range 8).all fun k => deepOk 3 (40 + k)) = true := by kernel_rfl
theorem deep_3_1 : ((List.range 8).all fun k => deepOk 3 (48 + k)) = true := by kernel_rfl
theorem deep_3_2 : ((List.range 8).all fun k => deepOk 3 (56 + k)) = true := by kernel_rfl
theorem deep_3_3 : ((List.range 8).all fun k => deepOk 3 (64 + k)) = true := by kernel_rfl
theorem deep_4_0 : ((List.range 8).all fun k => deepOk 4 (40 + k)) = true := by kernel_rfl
theorem deep_4_1 : ((List.range 8).all fun k => deepOk 4 (48 + k)) = true := by kernel_rfl
theorem deep_4_2 : ((List.range 8).all fun k => deepOk 4 (56 + k)) = true := by kernel_rfl
theorem deep_4_3 : ((List.range 8).all fun k => deepOk 4 (64 + k)) = true := by kernel_rfl
theorem deep_5_0 : ((List.range 8).all fun k => deepOk 5 (40 + k)) = true := by kernel_rfl
theorem deep_5_1 : ((List.range 8).all fun k => deepOk 5 (48 + k)) = true := by kernel_rfl
theorem deep_5_2 : ((List.range 8).all fun k => deepOk 5 (56 + k)) = true := by kernel_rfl
theorem deep_5_3 : ((List.range 8).all fun k => deepOk 5 (64 + k)) = true := by kernel_rfl
theorem deep_ok (q n : Nat) (hq : q < 6) (h0 : 40 ≤ n) (h1 : n < 72) : deepOk q n = true := by
 have P : ∀ (b : Nat), ((List.range 8).all fun k => deepOk q (b + k)) = true → b ≤ n → n < b + 8 → deepOk q n = true := fun b hb h2 h3 => by
  have h := List.all_eq_true.1 hb (n - b) (List.mem_range.2 (by omega))
  rwa [show b + (n - b) = n by omega] at h
 rcases (by omega : q = 0 ∨ q = 1 ∨ q = 2 ∨ q = 3 ∨ q = 4 ∨ q = 5) with rfl | rfl | rfl | rfl | rfl | rfl
 ·rcases (by omega : n < 48 ∨ (48 ≤ n ∧ n < 56) ∨ (56 ≤ n ∧ n < 64) ∨ 64 ≤ n) with h | h | h | h
  ·exact P 40 deep_0_0 (by omega) (by omega)
  ·exact P 48 deep_0_1 (by omega) (by omega)
  ·exact P 56 deep_0_2 (by omega) (by omega)
  ·exact P 64 deep_0_3 (by omega) (by omega)
 ·rcases (by omega : n < 48 ∨ (48 ≤ n ∧ n < 56) ∨ (56 ≤ n ∧ n < 64) ∨ 64 ≤ n) with h | h | h | h
  ·exact P 40 deep_1_0 (by omega) (by omega)
  ·exact P 48 deep_1_1 (by omega) (by omega)
  ·exact P 56 deep_1_2 (by omega) (by omega)
  ·exact P 64 deep_1_3 (by omega) (by omega)
 ·rcases (by omega : n < 48 ∨ (48 ≤ n ∧ n < 56) ∨ (56 ≤ n ∧ n < 64) ∨ 64 ≤ n) with h | h | h | h
  ·exact P 40 deep_2_0 (by omega) (by omega)
  ·exact P 48 deep_2_1 (by omega) (by omega)
  ·exact P 56 deep_2_2 (by omega) (by omega)
  ·exact P 64 deep_2_3 (by omega) (by omega)
 ·rcases (by omega : n < 48 ∨ (48 ≤ n ∧ n < 56) ∨ (56 ≤ n ∧ n < 64) ∨ 64 ≤ n) with h | h | h | h
  ·exact P 40 deep_3_0 (by omega) (by omega)
  ·exact P 48 deep_3_1 (by omega) (by omega)
  ·exact P 56 deep_3_2 (by omega) (by omega)
  ·exact P 64 deep_3_3 (by omega) (by omega)
 ·rcases (by omega : n < 48 ∨ (48 ≤ n ∧ n < 56) ∨ (56 ≤ n ∧ n < 64) ∨ 64 ≤ n) with h | h | h | h
  ·exact P 40 deep_4_0 (by omega) (by omega)
  ·exact P 48 deep_4_1 (by omega) (by omega)
  ·exact P 56 deep_4_2 (by omega) (by omega)
  ·exact P 64 deep_4_3 (by omega) (by omega)
 ·rcases (by omega : n < 48 ∨ (48 ≤ n ∧ n < 56) ∨ (56 ≤ n ∧ n < 64) ∨ 64 ≤ n) with h | h | h | h
  ·exact P 40 deep_5_0 (by omega) (by omega)
  ·exact P 48 deep_5_1 (by omega) (by omega)
  ·exact P 56 deep_5_2 (by omega) (by omega)
  ·exact P 64 deep_5_3 (by omega) (by omega)
end Go.Proofs.YtngpgdmafmkddaaDoor.Tre
end
section
namespace Go.Proofs.YtngpgdmafmkddaaDoor.Tre
open Go.Proofs.YtngpgdmafmkddaaDoor.Lex Go.Proofs.YtngpgdmafmkddaaDoor.Calm Go.Proofs.YtngpgdmafmkddaaDoor.Par Go.RowKit Go.Proofs.YtngpgdmafmkddaaDoorW.PrintWords Go.Proofs.YtngpgdmafmkddaaDoorW.PrintLast Go.Proofs.YtngpgdmafmkddaaDoorW.PrintMore
open Go.Proofs.YtngpgdmafmkddaaDoor.PParseBlanks (S35 S25 S27 k35 k25 k27 rd_T35 rd_T25 rd_T27 at_T35 at_T25 at_T27)
set_option linter.unusedVariables false
set_option linter.unusedSimpArgs false
theorem i64_and31 (n : Int) : Go.bits .and .i64 n 31 = n % 32 := by
 have h63 : (BitVec.ofInt 64 31).toNat = 2 ^ 5 - 1 := by decide
 have key : (BitVec.ofInt 64 n &&& BitVec.ofInt 64 31).toNat = (n % ((2 ^ 64 : Nat) : Int)).toNat % 2 ^ 5 := by
  rw [BitVec.toNat_and, BitVec.toNat_ofInt, h63, Nat.and_two_pow_sub_one_eq_mod]
 show IntKind.i64.wrap ((BitVec.ofInt 64 n &&& BitVec.ofInt 64 31).toNat : Nat) = n % 32
 rw [key, IntKind.wrap_i64]
 omega
theorem mod_way (a k : Int) (hk : 0 < k) (hk2 : k < 1000) : ∃ q : Int, (wrap64 (a.tmod k + k)).tmod k = q ∧ 0 ≤ q ∧ q < k := by
 have h1 := Int.tmod_lt_of_pos a hk
 have h2 := Int.lt_tmod_of_pos a hk
 have h3 : wrap64 (a.tmod k + k) = a.tmod k + k := by unfold wrap64; omega
 refine ⟨_, rfl, ?_, ?_⟩
 ·rw [h3]
  exact Int.tmod_nonneg _ (by omega)
 ·rw [h3]
  exact Int.tmod_lt_of_pos _ hk
theorem mk_append (a b : List UInt8) : (⟨a.toArray⟩ : ByteArray) ++ ⟨b.toArray⟩ = ⟨(a ++ b).toArray⟩ := by
 apply ByteArray.ext
 simp
theorem deepL_len (q n : Nat) : (deepL q n).length ≤ 1 + 4 * n := by
 induction n with
 | zero => simp [deepL]
 | succ n ih =>
  have h1 : (deepOpen q).length ≤ 2 := by unfold deepOpen; split <;> decide
  have h2 : (deepShut q).length ≤ 2 := by unfold deepShut; split <;> decide
  simp only [deepL, List.length_append]
  omega
theorem deep_step (q i : Nat) : (⟨(deepOpen q).toArray⟩ : ByteArray) ++ ⟨(deepL q i).toArray⟩ ++ ⟨(deepShut q).toArray⟩ = ⟨(deepL q (i + 1)).toArray⟩ := by
 rw [mk_append, mk_append]
 rfl
theorem deep_res (q n : Nat) (hq : q < 6) (h0 : 40 ≤ n) (h1 : n < 72) : ∃ x a e, treeX ⟨(deepL q n).toArray⟩ 1000 = some (x, a, e) ∧ (n ≤ deepMost q → e = 0 ∧ a = 0) ∧ (¬ n ≤ deepMost q → e = 31 ∧ 0 < a) := by
 have h := deep_ok q n hq h0 h1
 unfold deepOk at h
 cases hx : treeX ⟨(deepL q n).toArray⟩ 1000 with
 | none => rw [hx] at h; cases h
 | some r =>
  obtain ⟨x, a, e⟩ := r
  rw [hx] at h
  dsimp only at h
  refine ⟨x, a, e, rfl, fun hn => ?_, fun hn => ?_⟩
  ·rw [if_pos hn] at h
   simpa using h
  ·rw [if_neg hn] at h
   simpa using h
set_option maxRecDepth 100000 in
set_option maxHeartbeats 4000000 in
theorem deep_walk (a0 a1 : Int) (w : World) (HT : Tab w) (hb1 : -9223372036854775808 ≤ a1) (hb2 : a1 ≤ 9223372036854775807) : Calls Tryd.prog 5 #[.int .i64 a0, .int .i64 a1] w fun e w' => e = .returned (.bool true) ∧ Below w.heap.size w w' := by
 obtain ⟨m, hm, hm0, hm1⟩ : ∃ m : Nat, Go.bits .and .i64 a0 31 = (m : Int) ∧ 0 ≤ m ∧ m < 32 := ⟨(a0 % 32).toNat, by rw [i64_and31]; omega, by omega, by omega⟩
 obtain ⟨q, hq, hq0, hq6⟩ := mod_way a1 6 (by omega) (by omega)
 have HTT := Aside0.mk HT
 clear HT
 rcases (by omega : q = 0 ∨ q = 1 ∨ q = 2 ∨ q = 3 ∨ q = 4 ∨ q = 5) with rfl | rfl | rfl | rfl | rfl | rfl
 ·have HB := Aside0.mk (below_alloc (below_alloc (Below.refl w.heap.size w) (Obj.cells #[.string ⟨#[40]⟩, .string ⟨#[45]⟩, .string ⟨#[91]⟩, .string ⟨#[102, 40]⟩, .string ⟨#[42]⟩, .string ⟨#[123, 32]⟩] 9)) (Obj.cells #[.string ⟨#[41]⟩, .string ⟨#[]⟩, .string ⟨#[93]⟩, .string ⟨#[41]⟩, .string ⟨#[]⟩, .string ⟨#[32, 125]⟩] 9))
  go_enter Tryd.func5, Tryd.ntmps5
  go_wp2
  go_loopw [8, 7] (fun v8 v7 wr => ∃ i : Nat, v8 = .int .i64 (i : Int) ∧ v7 = .string ⟨(deepL 0 i).toArray⟩ ∧ i ≤ 40 + m ∧ Aside0 (Below w.heap.size w wr)) (fun v8 _ _ => 40 + m - (intOf v8).toNat)
  case atStart => exact ⟨0, rfl, rfl, by omega, HB⟩
  case round =>
   clear HB
   obtain ⟨i, rfl, rfl, hi, HB⟩ := hrel
   have hlen := deepL_len 0 i
   by_cases hlt : i < 40 + m
   ·have kl : decide ((i : Int) < 40 + (m : Int)) = true := decide_eq_true (by omega)
    have kw : wrap64 ((i : Int) + 1) = ((i + 1 : Nat) : Int) := by unfold wrap64; omega
    go_wp2
    exact ⟨⟨i + 1, rfl, congrArg Value.string (deep_step 0 i), by omega, HB⟩, by simp [intOf]; omega⟩
   ·have kl : decide ((i : Int) < 40 + (m : Int)) = false := decide_eq_false (by omega)
    obtain rfl : i = 40 + m := by omega
    obtain ⟨x, xa, xe, hx, h1, h2⟩ := deep_res 0 (40 + m) (by omega) (by omega) (by omega)
    have HX := Aside0.mk hx
    have HNE : Aside0 (treeX ⟨(deepL 0 (40 + m)).toArray⟩ 1000 ≠ none) := ⟨by rw [hx]; intro h; cases h⟩
    by_cases hmost : 40 + m ≤ 59
    ·obtain ⟨rfl, rfl⟩ := h1 hmost
     have km : decide ((40 : Int) + (m : Int) ≤ 59) = true := decide_eq_true (by omega)
     clear h2 h1 hx
     go_wp2_with (
      go_at_call 8
      (with_reducible refine Calls.mono (tree_said _ 1000 _ (HTT.out.below HB.out) HNE.out) ?_)
      rintro en w2 ⟨hb2, v, x', a', er', hx', rfl, hv⟩
      rw [HX.out] at hx'
      injection hx' with hx'
      simp only [Prod.mk.injEq] at hx'
      obtain ⟨rfl, rfl, rfl⟩ := hx'
      obtain ⟨a4, ac4, a5, ac5, a9, ac9, rfl⟩ := hv.form
      have hb := below_then HB.out HB.out.size hb2
      clear hv hb2)
     go_ret
     exact ⟨rfl, below_alloc hb _⟩
    ·obtain ⟨rfl, ha⟩ := h2 hmost
     have km : decide ((40 : Int) + (m : Int) ≤ 59) = false := decide_eq_false (by omega)
     have ka : decide (xa > 0) = true := decide_eq_true ha
     have ka2 : decide (0 < xa) = true := decide_eq_true ha
     clear h2 h1 hx
     go_wp2_with (
      go_at_call 8
      (with_reducible refine Calls.mono (tree_said _ 1000 _ (HTT.out.below HB.out) HNE.out) ?_)
      rintro en w2 ⟨hb2, v, x', a', er', hx', rfl, hv⟩
      rw [HX.out] at hx'
      injection hx' with hx'
      simp only [Prod.mk.injEq] at hx'
      obtain ⟨rfl, rfl, rfl⟩ := hx'
      obtain ⟨a4, ac4, a5, ac5, a9, ac9, rfl⟩ := hv.form
      have hb := below_then HB.out HB.out.size hb2
      clear hv hb2)
     go_ret
     exact ⟨rfl, below_alloc hb _⟩
 ·have HB := Aside0.mk (below_alloc (below_alloc (Below.refl w.heap.size w) (Obj.cells #[.string ⟨#[40]⟩, .string ⟨#[45]⟩, .string ⟨#[91]⟩, .string ⟨#[102, 40]⟩, .string ⟨#[42]⟩, .string ⟨#[123, 32]⟩] 9)) (Obj.cells #[.string ⟨#[41]⟩, .string ⟨#[]⟩, .string ⟨#[93]⟩, .string ⟨#[41]⟩, .string ⟨#[]⟩, .string ⟨#[32, 125]⟩] 9))
  go_enter Tryd.func5, Tryd.ntmps5
  go_wp2
  go_loopw [8, 7] (fun v8 v7 wr => ∃ i : Nat, v8 = .int .i64 (i : Int) ∧ v7 = .string ⟨(deepL 1 i).toArray⟩ ∧ i ≤ 40 + m ∧ Aside0 (Below w.heap.size w wr)) (fun v8 _ _ => 40 + m - (intOf v8).toNat)
  case atStart => exact ⟨0, rfl, rfl, by omega, HB⟩
  case round =>
   clear HB
   obtain ⟨i, rfl, rfl, hi, HB⟩ := hrel
   have hlen := deepL_len 1 i
   by_cases hlt : i < 40 + m
   ·have kl : decide ((i : Int) < 40 + (m : Int)) = true := decide_eq_true (by omega)
    have kw : wrap64 ((i : Int) + 1) = ((i + 1 : Nat) : Int) := by unfold wrap64; omega
    go_wp2
    exact ⟨⟨i + 1, rfl, congrArg Value.string (deep_step 1 i), by omega, HB⟩, by simp [intOf]; omega⟩
   ·have kl : decide ((i : Int) < 40 + (m : Int)) = false := decide_eq_false (by omega)
    obtain rfl : i = 40 + m := by omega
    obtain ⟨x, xa, xe, hx, h1, h2⟩ := deep_res 1 (40 + m) (by omega) (by omega) (by omega)
    have HX := Aside0.mk hx
    have HNE : Aside0 (treeX ⟨(deepL 1 (40 + m)).toArray⟩ 1000 ≠ none) := ⟨by rw [hx]; intro h; cases h⟩
    by_cases hmost : 40 + m ≤ 59
    ·obtain ⟨rfl, rfl⟩ := h1 hmost
     have km : decide ((40 : Int) + (m : Int) ≤ 59) = true := decide_eq_true (by omega)
     clear h2 h1 hx
     go_wp2_with (
      go_at_call 8
      (with_reducible refine Calls.mono (tree_said _ 1000 _ (HTT.out.below HB.out) HNE.out) ?_)
      rintro en w2 ⟨hb2, v, x', a', er', hx', rfl, hv⟩
      rw [HX.out] at hx'
      injection hx' with hx'
      simp only [Prod.mk.injEq] at hx'
      obtain ⟨rfl, rfl, rfl⟩ := hx'
      obtain ⟨a4, ac4, a5, ac5, a9, ac9, rfl⟩ := hv.form
      have hb := below_then HB.out HB.out.size hb2
      clear hv hb2)
     go_ret
     exact ⟨rfl, below_alloc hb _⟩
    ·obtain ⟨rfl, ha⟩ := h2 hmost
     have km : decide ((40 : Int) + (m : Int) ≤ 59) = false := decide_eq_false (by omega)
     have ka : decide (xa > 0) = true := decide_eq_true ha
     have ka2 : decide (0 < xa) = true := decide_eq_true ha
     clear h2 h1 hx
     go_wp2_with (
      go_at_call 8
      (with_reducible refine Calls.mono (tree_said _ 1000 _ (HTT.out.below HB.out) HNE.out) ?_)
      rintro en w2 ⟨hb2, v, x', a', er', hx', rfl, hv⟩
      rw [HX.out] at hx'
      injection hx' with hx'
      simp only [Prod.mk.injEq] at hx'
      obtain ⟨rfl, rfl, rfl⟩ := hx'
      obtain ⟨a4, ac4, a5, ac5, a9, ac9, rfl⟩ := hv.form
      have hb := below_then HB.out HB.out.size hb2
      clear hv hb2)
     go_ret
     exact ⟨rfl, below_alloc hb _⟩
 ·have HB := Aside0.mk (below_alloc (below_alloc (Below.refl w.heap.size w) (Obj.cells #[.string ⟨#[40]⟩, .string ⟨#[45]⟩, .string ⟨#[91]⟩, .string ⟨#[102, 40]⟩, .string ⟨#[42]⟩, .string ⟨#[123, 32]⟩] 9)) (Obj.cells #[.string ⟨#[41]⟩, .string ⟨#[]⟩, .string ⟨#[93]⟩, .string ⟨#[41]⟩, .string ⟨#[]⟩, .string ⟨#[32, 125]⟩] 9))
  go_enter Tryd.func5, Tryd.ntmps5
  go_wp2
  go_loopw [8, 7] (fun v8 v7 wr => ∃ i : Nat, v8 = .int .i64 (i : Int) ∧ v7 = .string ⟨(deepL 2 i).toArray⟩ ∧ i ≤ 40 + m ∧ Aside0 (Below w.heap.size w wr)) (fun v8 _ _ => 40 + m - (intOf v8).toNat)
  case atStart => exact ⟨0, rfl, rfl, by omega, HB⟩
  case round =>
   clear HB
   obtain ⟨i, rfl, rfl, hi, HB⟩ := hrel
   have hlen := deepL_len 2 i
   by_cases hlt : i < 40 + m
   ·have kl : decide ((i : Int) < 40 + (m : Int)) = true := decide_eq_true (by omega)
    have kw : wrap64 ((i : Int) + 1) = ((i + 1 : Nat) : Int) := by unfold wrap64; omega
    go_wp2
    exact ⟨⟨i + 1, rfl, congrArg Value.string (deep_step 2 i), by omega, HB⟩, by simp [intOf]; omega⟩
   ·have kl : decide ((i : Int) < 40 + (m : Int)) = false := decide_eq_false (by omega)
    obtain rfl : i = 40 + m := by omega
    obtain ⟨x, xa, xe, hx, h1, h2⟩ := deep_res 2 (40 + m) (by omega) (by omega) (by omega)
    have HX := Aside0.mk hx
    have HNE : Aside0 (treeX ⟨(deepL 2 (40 + m)).toArray⟩ 1000 ≠ none) := ⟨by rw [hx]; intro h; cases h⟩
    by_cases hmost : 40 + m ≤ 59
    ·obtain ⟨rfl, rfl⟩ := h1 hmost
     have km : decide ((40 : Int) + (m : Int) ≤ 59) = true := decide_eq_true (by omega)
     clear h2 h1 hx
     go_wp2_with (
      go_at_call 8
      (with_reducible refine Calls.mono (tree_said _ 1000 _ (HTT.out.below HB.out) HNE.out) ?_)
      rintro en w2 ⟨hb2, v, x', a', er', hx', rfl, hv⟩
      rw [HX.out] at hx'
      injection hx' with hx'
      simp only [Prod.mk.injEq] at hx'
      obtain ⟨rfl, rfl, rfl⟩ := hx'
      obtain ⟨a4, ac4, a5, ac5, a9, ac9, rfl⟩ := hv.form
      have hb := below_then HB.out HB.out.size hb2
      clear hv hb2)
     go_ret
     exact ⟨rfl, below_alloc hb _⟩
    ·obtain ⟨rfl, ha⟩ := h2 hmost
     have km : decide ((40 : Int) + (m : Int) ≤ 59) = false := decide_eq_false (by omega)
     have ka : decide (xa > 0) = true := decide_eq_true ha
     have ka2 : decide (0 < xa) = true := decide_eq_true ha
     clear h2 h1 hx
     go_wp2_with (
      go_at_call 8
      (with_reducible refine Calls.mono (tree_said _ 1000 _ (HTT.out.below HB.out) HNE.out) ?_)
      rintro en w2 ⟨hb2, v, x', a', er', hx', rfl, hv⟩
      rw [HX.out] at hx'
      injection hx' with hx'
      simp only [Prod.mk.injEq] at hx'
      obtain ⟨rfl, rfl, rfl⟩ := hx'
      obtain ⟨a4, ac4, a5, ac5, a9, ac9, rfl⟩ := hv.form
      have hb := below_then HB.out HB.out.size hb2
      clear hv hb2)
     go_ret
     exact ⟨rfl, below_alloc hb _⟩
 ·have HB := Aside0.mk (below_alloc (below_alloc (Below.refl w.heap.size w) (Obj.cells #[.string ⟨#[40]⟩, .string ⟨#[45]⟩, .string ⟨#[91]⟩, .string ⟨#[102, 40]⟩, .string ⟨#[42]⟩, .string ⟨#[123, 32]⟩] 9)) (Obj.cells #[.string ⟨#[41]⟩, .string ⟨#[]⟩, .string ⟨#[93]⟩, .string ⟨#[41]⟩, .string ⟨#[]⟩, .string ⟨#[32, 125]⟩] 9))
  go_enter Tryd.func5, Tryd.ntmps5
  go_wp2
  go_loopw [8, 7] (fun v8 v7 wr => ∃ i : Nat, v8 = .int .i64 (i : Int) ∧ v7 = .string ⟨(deepL 3 i).toArray⟩ ∧ i ≤ 40 + m ∧ Aside0 (Below w.heap.size w wr)) (fun v8 _ _ => 40 + m - (intOf v8).toNat)
  case atStart => exact ⟨0, rfl, rfl, by omega, HB⟩
  case round =>
   clear HB
   obtain ⟨i, rfl, rfl, hi, HB⟩ := hrel
   have hlen := deepL_len 3 i
   by_cases hlt : i < 40 + m
   ·have kl : decide ((i : Int) < 40 + (m : Int)) = true := decide_eq_true (by omega)
    have kw : wrap64 ((i : Int) + 1) = ((i + 1 : Nat) : Int) := by unfold wrap64; omega
    go_wp2
    exact ⟨⟨i + 1, rfl, congrArg Value.string (deep_step 3 i), by omega, HB⟩, by simp [intOf]; omega⟩
   ·have kl : decide ((i : Int) < 40 + (m : Int)) = false := decide_eq_false (by omega)
    obtain rfl : i = 40 + m := by omega
    obtain ⟨x, xa, xe, hx, h1, h2⟩ := deep_res 3 (40 + m) (by omega) (by omega) (by omega)
    have HX := Aside0.mk hx
    have HNE : Aside0 (treeX ⟨(deepL 3 (40 + m)).toArray⟩ 1000 ≠ none) := ⟨by rw [hx]; intro h; cases h⟩
    by_cases hmost : 40 + m ≤ 59
    ·obtain ⟨rfl, rfl⟩ := h1 hmost
     have km : decide ((40 : Int) + (m : Int) ≤ 59) = true := decide_eq_true (by omega)
     clear h2 h1 hx
     go_wp2_with (
      go_at_call 8
      (with_reducible refine Calls.mono (tree_said _ 1000 _ (HTT.out.below HB.out) HNE.out) ?_)
      rintro en w2 ⟨hb2, v, x', a', er', hx', rfl, hv⟩
      rw [HX.out] at hx'
      injection hx' with hx'
      simp only [Prod.mk.injEq] at hx'
      obtain ⟨rfl, rfl, rfl⟩ := hx'
      obtain ⟨a4, ac4, a5, ac5, a9, ac9, rfl⟩ := hv.form
      have hb := below_then HB.out HB.out.size hb2
      clear hv hb2)
     go_ret
     exact ⟨rfl, below_alloc hb _⟩
    ·obtain ⟨rfl, ha⟩ := h2 hmost
     have km : decide ((40 : Int) + (m : Int) ≤ 59) = false := decide_eq_false (by omega)
     have ka : decide (xa > 0) = true := decide_eq_true ha
     have ka2 : decide (0 < xa) = true := decide_eq_true ha
     clear h2 h1 hx
     go_wp2_with (
      go_at_call 8
      (with_reducible refine Calls.mono (tree_said _ 1000 _ (HTT.out.below HB.out) HNE.out) ?_)
      rintro en w2 ⟨hb2, v, x', a', er', hx', rfl, hv⟩
      rw [HX.out] at hx'
      injection hx' with hx'
      simp only [Prod.mk.injEq] at hx'
      obtain ⟨rfl, rfl, rfl⟩ := hx'
      obtain ⟨a4, ac4, a5, ac5, a9, ac9, rfl⟩ := hv.form
      have hb := below_then HB.out HB.out.size hb2
      clear hv hb2)
     go_ret
     exact ⟨rfl, below_alloc hb _⟩
 ·have HB := Aside0.mk (below_alloc (below_alloc (Below.refl w.heap.size w) (Obj.cells #[.string ⟨#[40]⟩, .string ⟨#[45]⟩, .string ⟨#[91]⟩, .string ⟨#[102, 40]⟩, .string ⟨#[42]⟩, .string ⟨#[123, 32]⟩] 9)) (Obj.cells #[.string ⟨#[41]⟩, .string ⟨#[]⟩, .string ⟨#[93]⟩, .string ⟨#[41]⟩, .string ⟨#[]⟩, .string ⟨#[32, 125]⟩] 9))
  go_enter Tryd.func5, Tryd.ntmps5
  go_wp2
  go_loopw [8, 7] (fun v8 v7 wr => ∃ i : Nat, v8 = .int .i64 (i : Int) ∧ v7 = .string ⟨(deepL 4 i).toArray⟩ ∧ i ≤ 40 + m ∧ Aside0 (Below w.heap.size w wr)) (fun v8 _ _ => 40 + m - (intOf v8).toNat)
  case atStart => exact ⟨0, rfl, rfl, by omega, HB⟩
  case round =>
   clear HB
   obtain ⟨i, rfl, rfl, hi, HB⟩ := hrel
   have hlen := deepL_len 4 i
   by_cases hlt : i < 40 + m
   ·have kl : decide ((i : Int) < 40 + (m : Int)) = true := decide_eq_true (by omega)
    have kw : wrap64 ((i : Int) + 1) = ((i + 1 : Nat) : Int) := by unfold wrap64; omega
    go_wp2
    exact ⟨⟨i + 1, rfl, congrArg Value.string (deep_step 4 i), by omega, HB⟩, by simp [intOf]; omega⟩
   ·have kl : decide ((i : Int) < 40 + (m : Int)) = false := decide_eq_false (by omega)
    obtain rfl : i = 40 + m := by omega
    obtain ⟨x, xa, xe, hx, h1, h2⟩ := deep_res 4 (40 + m) (by omega) (by omega) (by omega)
    have HX := Aside0.mk hx
    have HNE : Aside0 (treeX ⟨(deepL 4 (40 + m)).toArray⟩ 1000 ≠ none) := ⟨by rw [hx]; intro h; cases h⟩
    by_cases hmost : 40 + m ≤ 59
    ·obtain ⟨rfl, rfl⟩ := h1 hmost
     have km : decide ((40 : Int) + (m : Int) ≤ 59) = true := decide_eq_true (by omega)
     clear h2 h1 hx
     go_wp2_with (
      go_at_call 8
      (with_reducible refine Calls.mono (tree_said _ 1000 _ (HTT.out.below HB.out) HNE.out) ?_)
      rintro en w2 ⟨hb2, v, x', a', er', hx', rfl, hv⟩
      rw [HX.out] at hx'
      injection hx' with hx'
      simp only [Prod.mk.injEq] at hx'
      obtain ⟨rfl, rfl, rfl⟩ := hx'
      obtain ⟨a4, ac4, a5, ac5, a9, ac9, rfl⟩ := hv.form
      have hb := below_then HB.out HB.out.size hb2
      clear hv hb2)
     go_ret
     exact ⟨rfl, below_alloc hb _⟩
    ·obtain ⟨rfl, ha⟩ := h2 hmost
     have km : decide ((40 : Int) + (m : Int) ≤ 59) = false := decide_eq_false (by omega)
     have ka : decide (xa > 0) = true := decide_eq_true ha
     have ka2 : decide (0 < xa) = true := decide_eq_true ha
     clear h2 h1 hx
     go_wp2_with (
      go_at_call 8
      (with_reducible refine Calls.mono (tree_said _ 1000 _ (HTT.out.below HB.out) HNE.out) ?_)
      rintro en w2 ⟨hb2, v, x', a', er', hx', rfl, hv⟩
      rw [HX.out] at hx'
      injection hx' with hx'
      simp only [Prod.mk.injEq] at hx'
      obtain ⟨rfl, rfl, rfl⟩ := hx'
      obtain ⟨a4, ac4, a5, ac5, a9, ac9, rfl⟩ := hv.form
      have hb := below_then HB.out HB.out.size hb2
      clear hv hb2)
     go_ret
     exact ⟨rfl, below_alloc hb _⟩
 ·have HB := Aside0.mk (below_alloc (below_alloc (Below.refl w.heap.size w) (Obj.cells #[.string ⟨#[40]⟩, .string ⟨#[45]⟩, .string ⟨#[91]⟩, .string ⟨#[102, 40]⟩, .string ⟨#[42]⟩, .string ⟨#[123, 32]⟩] 9)) (Obj.cells #[.string ⟨#[41]⟩, .string ⟨#[]⟩, .string ⟨#[93]⟩, .string ⟨#[41]⟩, .string ⟨#[]⟩, .string ⟨#[32, 125]⟩] 9))
  go_enter Tryd.func5, Tryd.ntmps5
  go_wp2
  go_loopw [8, 7] (fun v8 v7 wr => ∃ i : Nat, v8 = .int .i64 (i : Int) ∧ v7 = .string ⟨(deepL 5 i).toArray⟩ ∧ i ≤ 40 + m ∧ Aside0 (Below w.heap.size w wr)) (fun v8 _ _ => 40 + m - (intOf v8).toNat)
  case atStart => exact ⟨0, rfl, rfl, by omega, HB⟩
  case round =>
   clear HB
   obtain ⟨i, rfl, rfl, hi, HB⟩ := hrel
   have hlen := deepL_len 5 i
   by_cases hlt : i < 40 + m
   ·have kl : decide ((i : Int) < 40 + (m : Int)) = true := decide_eq_true (by omega)
    have kw : wrap64 ((i : Int) + 1) = ((i + 1 : Nat) : Int) := by unfold wrap64; omega
    go_wp2
    exact ⟨⟨i + 1, rfl, congrArg Value.string (deep_step 5 i), by omega, HB⟩, by simp [intOf]; omega⟩
   ·have kl : decide ((i : Int) < 40 + (m : Int)) = false := decide_eq_false (by omega)
    obtain rfl : i = 40 + m := by omega
    obtain ⟨x, xa, xe, hx, h1, h2⟩ := deep_res 5 (40 + m) (by omega) (by omega) (by omega)
    have HX := Aside0.mk hx
    have HNE : Aside0 (treeX ⟨(deepL 5 (40 + m)).toArray⟩ 1000 ≠ none) := ⟨by rw [hx]; intro h; cases h⟩
    by_cases hmost : 40 + m ≤ 58
    ·obtain ⟨rfl, rfl⟩ := h1 hmost
     have km : decide ((40 : Int) + (m : Int) ≤ 58) = true := decide_eq_true (by omega)
     clear h2 h1 hx
     go_wp2_with (
      go_at_call 8
      (with_reducible refine Calls.mono (tree_said _ 1000 _ (HTT.out.below HB.out) HNE.out) ?_)
      rintro en w2 ⟨hb2, v, x', a', er', hx', rfl, hv⟩
      rw [HX.out] at hx'
      injection hx' with hx'
      simp only [Prod.mk.injEq] at hx'
      obtain ⟨rfl, rfl, rfl⟩ := hx'
      obtain ⟨a4, ac4, a5, ac5, a9, ac9, rfl⟩ := hv.form
      have hb := below_then HB.out HB.out.size hb2
      clear hv hb2)
     go_ret
     exact ⟨rfl, below_alloc hb _⟩
    ·obtain ⟨rfl, ha⟩ := h2 hmost
     have km : decide ((40 : Int) + (m : Int) ≤ 58) = false := decide_eq_false (by omega)
     have ka : decide (xa > 0) = true := decide_eq_true ha
     have ka2 : decide (0 < xa) = true := decide_eq_true ha
     clear h2 h1 hx
     go_wp2_with (
      go_at_call 8
      (with_reducible refine Calls.mono (tree_said _ 1000 _ (HTT.out.below HB.out) HNE.out) ?_)
      rintro en w2 ⟨hb2, v, x', a', er', hx', rfl, hv⟩
      rw [HX.out] at hx'
      injection hx' with hx'
      simp only [Prod.mk.injEq] at hx'
      obtain ⟨rfl, rfl, rfl⟩ := hx'
      obtain ⟨a4, ac4, a5, ac5, a9, ac9, rfl⟩ := hv.form
      have hb := below_then HB.out HB.out.size hb2
      clear hv hb2)
     go_ret
     exact ⟨rfl, below_alloc hb _⟩
end Go.Proofs.YtngpgdmafmkddaaDoor.Tre
end
