/- Steps toward the law Fuel, merged from several texts (some of them began as the kit's print). No condition. -/
import Derived.Test.YtpphpcmbpbppoaaRows
import Derived.ProofKit
import Derived.Test.YtpphpcmbpbppoaaZFuel15
section
namespace Go.Proofs.Ytpphpcmbpbppoaa.Mach
open Go.Proofs.Ytpphpcmbpbppoaa.Form (SzL ckN chkB ckN_no ckN_yes ChkT.of forms_chk)
open Go.RowKit Go.Proofs.YtpphpcmbpbppoaaW.PrintWords Go.Proofs.YtpphpcmbpbppoaaW.PrintLast Go.Proofs.YtpphpcmbpbppoaaW.PrintMore
open Go.Proofs.Ytpphpcmbpbppoaa.Calm
open Go.Proofs.Ytpphpcmbpbppoaa.PMirFuel (S30 S57 S34 S37 S40 S43 S45 S48 k30 k57 k34 k37 k40 k43 k45 k48 rd_T30 rd_T57 rd_T34 rd_T37 rd_T40 rd_T43 rd_T45 rd_T48 at_T30 at_T57 at_T34 at_T40 at_T45 at_T48)
set_option linter.unusedVariables false
set_option linter.unusedSimpArgs false
theorem RunMade.in0g {w w0 w' : World} {l : List S48} {A1 : Option Addr} {c1 : Nat} {fuel : Int} {Ai : Option Addr} {inp : List Int} {ci h c m p : Nat} {u : Nat → Nat}
  (R : RunMade w0 w' #[.slice none 0 0, .slice A1 l.length c1, .int .i64 fuel, .int .i64 0, .slice Ai inp.length ci, .slice none 0 0, .slice none 0 0, .pointer (some ⟨h, 0, none⟩), .slice (some ⟨c, 0, none⟩) 2816 2816, .int .i64 0, .int .i64 0, .pointer none] h u c m p) (hb : Below w.heap.size w w') (hw : w.heap.size ≤ w0.heap.size) (HI : ReadsInt w .i64 Ai inp.length inp) (hic : inp.length ≤ ci) :
  In0 ⟨w, m, A1, c1, l⟩ (runS m h c u) ⟨h, c, u, .slice none 0 0, .slice none 0 0, Ai, ci, A1, c1, l.length⟩ (st0 fuel inp) w' := by
 have HC : Has w' c (cellsA (fun _ => 0)) 3 := made_cells ▸ R.C
 refine ⟨⟨R.M, R.H, HC, own_nil _ _ _ _, own_nil _ _ _ _, .inl rfl, .inr (.inl rfl), fun k hk => .inr (.inr (.inl ⟨k, hk, rfl⟩)), .inr (.inr (.inr rfl)), fun b e => (by simp [Value.ownBlock] at e), fun b e => (by simp [Value.ownBlock] at e), by simp [Value.ownBlock], by simp [Value.ownBlock], .inl rfl, fun v hv => (by simp [st0] at hv), fun j => (by simp [st0])⟩, rfl, rfl, rfl, hb, ?_, HI, hic, ?_⟩
 ·have := R.lm; have := R.lh; have := R.lc; have := R.lu
  rintro b (rfl | rfl | ⟨k, hk, rfl⟩ | rfl)
  ·show w.heap.size ≤ _; omega
  ·show w.heap.size ≤ _; omega
  ·show w.heap.size ≤ _; have := R.lu k hk; omega
  ·show w.heap.size ≤ _; omega
 ·rintro b (rfl | rfl | ⟨k, hk, rfl⟩ | rfl)
  ·exact R.M.lt
  ·exact R.H.head.lt
  ·exact (R.H.row k hk).lt
  ·exact R.C.lt
def goodB (l : List S48) : Bool := chkB l && (decide (0 ≤ findP l mainT) && (decide ((rd_T48 l (findP l mainT)).f2 = 0) && decide ((rd_T48 l (findP l mainT)).f3 = 0)))
def runP (l : List S48) (inp : List Int) (fuel : Int) : ResC :=
 if goodB l = true then callP (XR l fuel.toNat) (st0 fuel inp) [] (rd_T48 l (findP l mainT)) [] else .halt 5 0 (st0 fuel inp)
theorem run_cases (l : List S48) (inp : List Int) (fuel : Int) : (runP l inp fuel = .halt 5 0 (st0 fuel inp) ∧ (ckN l = 10 ∨ (ckN l = 0 ∧ findP l mainT < 0) ∨ (ckN l = 0 ∧ 0 ≤ findP l mainT ∧ (rd_T48 l (findP l mainT)).f2 ≠ 0) ∨ (ckN l = 0 ∧ 0 ≤ findP l mainT ∧ (rd_T48 l (findP l mainT)).f2 = 0 ∧ (rd_T48 l (findP l mainT)).f3 ≠ 0))) ∨
  (runP l inp fuel = callP (XR l fuel.toNat) (st0 fuel inp) [] (rd_T48 l (findP l mainT)) [] ∧ chkB l = true ∧ 0 ≤ findP l mainT ∧ (rd_T48 l (findP l mainT)).f2 = 0 ∧ (rd_T48 l (findP l mainT)).f3 = 0) := by
 by_cases hg : goodB l = true
 ·refine .inr ⟨if_pos hg, ?_⟩
  simp only [goodB, Bool.and_eq_true, decide_eq_true_eq] at hg
  exact hg
 ·refine .inl ⟨if_neg hg, ?_⟩
  cases hc : chkB l with
  | false => exact .inl (ckN_no hc)
  | true =>
   refine .inr ?_
   have h0 := ckN_yes hc
   by_cases g2 : 0 ≤ findP l mainT
   ·refine .inr ?_
    by_cases g3 : (rd_T48 l (findP l mainT)).f2 = 0
    ·refine .inr ⟨h0, g2, g3, fun g4 => hg ?_⟩
     simp [goodB, hc, g2, g3, g4]
    ·exact .inl ⟨h0, g2, g3⟩
   ·exact .inl ⟨h0, by omega⟩
set_option maxRecDepth 100000 in
set_option maxHeartbeats 8000000 in
theorem run_all (l : List S48) (A1 : Option Addr) (c1 : Nat) (Ai : Option Addr) (inp : List Int) (ci : Nat) (fuel : Int) (w : World) (HL : Kd.C k48 w A1 l.length l) (hlc : l.length ≤ c1) (HI : ReadsInt w .i64 Ai inp.length inp) (hic : inp.length ≤ ci) (SZ : SzL l)
  (LC : ∀ k : Int, 0 ≤ k → k < l.length → (rd_T48 l k).f1.length ≤ 5001) (hfu : fuel ≤ 1000000000000) :
  Calls Try.prog 9 #[.slice none 0 0, .slice A1 l.length c1, .slice Ai inp.length ci, .int .i64 fuel] w fun e w' => RunPost (runP l inp fuel) w e w' := by
 have N := run_cases l inp fuel
 have HLC := Aside0.mk LC
 have hll := SZ.n
 have HLL := Aside0.mk HL
 have HII := Aside0.mk HI
 have HSZ := Aside0.mk SZ
 have NN := Aside0.mk N
 clear HL HI SZ N LC
 have hmf : ∀ (fn : Fn) (first cap : Array Value) (w : World), (Instr.makeFunc fn first cap).run Try.prog w = .ok (.func fn first cap) w := fun _ _ _ _ => rfl
 have mki : ∀ W : World, (Instr.makeSlice 23 (.int .i64 2816) (.int .i64 2816)).run Try.prog W = .ok (.slice (some ⟨W.heap.size, 0, none⟩) 2816 2816) (W.alloc (.cells (madeCells #[.int .i64 0] 2816) 3)) := make_ints 2816 (by omega)
 go_enter_defers Try.func9, Try.ntmps9
 go_wp2
 obtain ⟨W00, hW00⟩ : ∃ W, ((w.alloc (Obj.cells #[.int .i64 0, .int .i64 0, .slice none 0 0] 26)).alloc (Obj.cells #[.int .i64 0] 3)) = W := ⟨_, rfl⟩
 rw [hW00]
 refine region_tree (by kernel_rfl) (fun a' w' => ∃ h u c m p, a' = { tmps := #[.slice none 0 0, .slice A1 l.length c1, .slice Ai inp.length ci, .int .i64 fuel, undef, undef, undef, undef, .pointer (some ⟨w.heap.size, 0, none⟩), .pointer (some ⟨w.heap.size + 1, 0, none⟩), .pointer (some ⟨p, 0, none⟩), undef, .slice none 0 0, .slice A1 l.length c1, .int .i64 fuel, .slice Ai inp.length ci, .pointer (some ⟨h, 0, none⟩), .slice (some ⟨c, 0, none⟩) 2816 2816, .agg #[.slice none 0 0, .slice A1 l.length c1, .int .i64 fuel, .int .i64 0, .slice Ai inp.length ci, .slice none 0 0, .slice none 0 0, .pointer (some ⟨h, 0, none⟩), .slice (some ⟨c, 0, none⟩) 2816 2816, .int .i64 0, .int .i64 0, .pointer none], .pointer (some ⟨m, 0, none⟩), undef, undef, undef, undef, undef, undef, undef, undef, undef, undef, undef, undef, undef, undef, undef, undef, undef, undef, undef, undef, undef, undef, undef, undef, undef, undef, undef, undef, undef, undef, undef, undef, undef, undef], defers := [] } ∧ RunMade W00.drew w' #[.slice none 0 0, .slice A1 l.length c1, .int .i64 fuel, .int .i64 0, .slice Ai inp.length ci, .slice none 0 0, .slice none 0 0, .pointer (some ⟨h, 0, none⟩), .slice (some ⟨c, 0, none⟩) 2816 2816, .int .i64 0, .int .i64 0, .pointer none] h u c m p) ?_ ?_
 ·obtain ⟨W0, hW0⟩ : ∃ W, W00.drew = W := ⟨_, rfl⟩
  rw [hW0]
  have b0 := Below.refl W0.heap.size W0
  refine tree_h (i := 0) (by kernel_rfl) (by rfl) (by rfl) (by kernel_rfl) (by rfl) ?_
  apply Exists.intro
  apply And.intro
  ·intro w'
   apply VR.mk
   go_simp
   with_reducible rfl
  simp only [List.setIfInBounds_toArray, List.set_cons_zero, List.set_cons_succ]
  refine tree_h (i := 1) (by kernel_rfl) (by rfl) (by rfl) (by kernel_rfl) (by rfl) ?_
  apply Exists.intro
  apply And.intro
  ·intro w'
   apply VR.mk
   go_simp
   with_reducible rfl
  simp only [List.setIfInBounds_toArray, List.set_cons_zero, List.set_cons_succ]
  refine tree_h (i := 2) (by kernel_rfl) (by rfl) (by rfl) (by kernel_rfl) (by rfl) ?_
  apply Exists.intro
  apply And.intro
  ·intro w'
   apply VR.mk
   go_simp
   with_reducible rfl
  simp only [List.setIfInBounds_toArray, List.set_cons_zero, List.set_cons_succ]
  refine tree_h (i := 3) (by kernel_rfl) (by rfl) (by rfl) (by kernel_rfl) (by rfl) ?_
  apply Exists.intro
  apply And.intro
  ·intro w'
   apply VR.mk
   go_simp
   with_reducible rfl
  simp only [List.setIfInBounds_toArray, List.set_cons_zero, List.set_cons_succ]
  refine tree_3 (i := 4) (k := 5) (m := 8) (by kernel_rfl) ?_ ?_ ?_
  ·refine step_call (by rfl) (by rfl) (by rfl) (ER.go (by go_simp; with_reducible exact ⟨rfl, rfl⟩)) ?_
   refine (new_heap W0).mono ?_
   rintro e V34 ⟨h34, u34, rfl, hb34, HP34, hh34, hu34⟩
   refine ⟨_, rfl, ?_⟩
   simp only [List.setIfInBounds_toArray, List.set_cons_zero, List.set_cons_succ]
   have bn34 := below_then b0 (b0).size hb34
   have lh34 : W0.heap.size ≤ h34 := Nat.le_trans (b0).size hh34
   have lu34 : ∀ k, k < 4 → W0.heap.size ≤ u34 k := fun k hk => Nat.le_trans (b0).size (hu34 k hk)
   refine tree_2 (i := 5) (k := 8) (by kernel_rfl) ?_ ?_
   ·refine step_value (v := .slice (some ⟨V34.heap.size, 0, none⟩) 2816 2816) (w' := V34.alloc (Obj.cells (madeCells #[.int .i64 0] 2816) 3)) (by rfl) (by rfl) (by rfl) ⟨by go_simp⟩ ?_
    simp only [List.setIfInBounds_toArray, List.set_cons_zero, List.set_cons_succ]
    obtain ⟨V35, e35⟩ : ∃ V, V34.alloc (Obj.cells (madeCells #[.int .i64 0] 2816) 3) = V := ⟨_, rfl⟩
    rw [e35]
    have hb35 : Below V34.heap.size V34 V35 := e35 ▸ below_alloc (Below.refl _ V34) _
    have N35 : Has V35 V34.heap.size (madeCells #[.int .i64 0] 2816) 3 := e35 ▸ Has.new V34 _ 3
    have ln35 : W0.heap.size ≤ V34.heap.size := (bn34).size
    have bn35 := below_then bn34 (bn34).size hb35
    have H35 := (HP34).below hb35
    refine tree_h (i := 6) (by kernel_rfl) (by rfl) (by rfl) (by kernel_rfl) (by rfl) ?_
    apply Exists.intro
    apply And.intro
    ·intro w'
     apply VR.mk
     go_simp
     with_reducible rfl
    simp only [List.setIfInBounds_toArray, List.set_cons_zero, List.set_cons_succ]
    refine tree_2 (i := 7) (k := 8) (by kernel_rfl) ?_ ?_
    ·refine step_value (v := .pointer (some ⟨V35.heap.size, 0, none⟩)) (w' := V35.alloc (Obj.cells #[.slice none 0 0, .slice A1 l.length c1, .int .i64 fuel, .int .i64 0, .slice Ai inp.length ci, .slice none 0 0, .slice none 0 0, .pointer (some ⟨h34, 0, none⟩), .slice (some ⟨V34.heap.size, 0, none⟩) 2816 2816, .int .i64 0, .int .i64 0, .pointer none] 93)) (by rfl) (by rfl) (by rfl) ⟨by go_simp⟩ ?_
     simp only [List.setIfInBounds_toArray, List.set_cons_zero, List.set_cons_succ]
     obtain ⟨V36, e36⟩ : ∃ V, V35.alloc (Obj.cells #[.slice none 0 0, .slice A1 l.length c1, .int .i64 fuel, .int .i64 0, .slice Ai inp.length ci, .slice none 0 0, .slice none 0 0, .pointer (some ⟨h34, 0, none⟩), .slice (some ⟨V34.heap.size, 0, none⟩) 2816 2816, .int .i64 0, .int .i64 0, .pointer none] 93) = V := ⟨_, rfl⟩
     rw [e36]
     have hb36 : Below V35.heap.size V35 V36 := e36 ▸ below_alloc (Below.refl _ V35) _
     have N36 : Has V36 V35.heap.size #[.slice none 0 0, .slice A1 l.length c1, .int .i64 fuel, .int .i64 0, .slice Ai inp.length ci, .slice none 0 0, .slice none 0 0, .pointer (some ⟨h34, 0, none⟩), .slice (some ⟨V34.heap.size, 0, none⟩) 2816 2816, .int .i64 0, .int .i64 0, .pointer none] 93 := e36 ▸ Has.new V35 _ 93
     have ln36 : W0.heap.size ≤ V35.heap.size := (bn35).size
     have bn36 := below_then bn35 (bn35).size hb36
     have C36 := (N35).belowS hb36
     have H36 := (H35).below hb36
     refine tree_1 (i := 8) (by kernel_rfl) ?_
     ·refine step_value (v := .pointer (some ⟨V36.heap.size, 0, none⟩)) (w' := V36.alloc (Obj.cells #[.pointer none] 88)) (by rfl) (by rfl) (by rfl) ⟨by go_simp⟩ ?_
      simp only [List.setIfInBounds_toArray, List.set_cons_zero, List.set_cons_succ]
      obtain ⟨V37, e37⟩ : ∃ V, V36.alloc (Obj.cells #[.pointer none] 88) = V := ⟨_, rfl⟩
      rw [e37]
      have hb37 : Below V36.heap.size V36 V37 := e37 ▸ below_alloc (Below.refl _ V36) _
      have N37 : Has V37 V36.heap.size #[.pointer none] 88 := e37 ▸ Has.new V36 _ 88
      have ln37 : W0.heap.size ≤ V36.heap.size := (bn36).size
      have bn37 := below_then bn36 (bn36).size hb37
      have C37 := (C36).belowS hb37
      have M37 := (N36).belowS hb37
      have H37 := (H36).below hb37
      refine tree_1 (i := 9) (by kernel_rfl) ?_
      ·have cp38 := (N37).cell 0
       have fp38 := (N37).frozen 0
       simp only [List.getElem?_toArray, List.getElem?_cons_zero] at cp38
       refine step_store (w' := V37.setCell ⟨V36.heap.size, 0, none⟩ (.pointer (some ⟨V35.heap.size, 0, none⟩))) (by rfl) (by rfl) (by rfl) ⟨by go_simp⟩ ?_
       refine tree_end (by kernel_rfl) ?_
       exact ⟨h34, u34, V34.heap.size, V35.heap.size, V36.heap.size, rfl, RunFacts.mk (bn37) (H37) lh34 lu34 (C37) ln35 (M37) ln36 (N37) ln37⟩
    ·refine step_value (v := .pointer (some ⟨V35.heap.size, 0, none⟩)) (w' := V35.alloc (Obj.cells #[.pointer none] 88)) (by rfl) (by rfl) (by rfl) ⟨by go_simp⟩ ?_
     simp only [List.setIfInBounds_toArray, List.set_cons_zero, List.set_cons_succ]
     obtain ⟨V39, e39⟩ : ∃ V, V35.alloc (Obj.cells #[.pointer none] 88) = V := ⟨_, rfl⟩
     rw [e39]
     have hb39 : Below V35.heap.size V35 V39 := e39 ▸ below_alloc (Below.refl _ V35) _
     have N39 : Has V39 V35.heap.size #[.pointer none] 88 := e39 ▸ Has.new V35 _ 88
     have ln39 : W0.heap.size ≤ V35.heap.size := (bn35).size
     have bn39 := below_then bn35 (bn35).size hb39
     have C39 := (N35).belowS hb39
     have H39 := (H35).below hb39
     refine tree_1 (i := 7) (by kernel_rfl) ?_
     ·refine step_value (v := .pointer (some ⟨V39.heap.size, 0, none⟩)) (w' := V39.alloc (Obj.cells #[.slice none 0 0, .slice A1 l.length c1, .int .i64 fuel, .int .i64 0, .slice Ai inp.length ci, .slice none 0 0, .slice none 0 0, .pointer (some ⟨h34, 0, none⟩), .slice (some ⟨V34.heap.size, 0, none⟩) 2816 2816, .int .i64 0, .int .i64 0, .pointer none] 93)) (by rfl) (by rfl) (by rfl) ⟨by go_simp⟩ ?_
      simp only [List.setIfInBounds_toArray, List.set_cons_zero, List.set_cons_succ]
      obtain ⟨V40, e40⟩ : ∃ V, V39.alloc (Obj.cells #[.slice none 0 0, .slice A1 l.length c1, .int .i64 fuel, .int .i64 0, .slice Ai inp.length ci, .slice none 0 0, .slice none 0 0, .pointer (some ⟨h34, 0, none⟩), .slice (some ⟨V34.heap.size, 0, none⟩) 2816 2816, .int .i64 0, .int .i64 0, .pointer none] 93) = V := ⟨_, rfl⟩
      rw [e40]
      have hb40 : Below V39.heap.size V39 V40 := e40 ▸ below_alloc (Below.refl _ V39) _
      have N40 : Has V40 V39.heap.size #[.slice none 0 0, .slice A1 l.length c1, .int .i64 fuel, .int .i64 0, .slice Ai inp.length ci, .slice none 0 0, .slice none 0 0, .pointer (some ⟨h34, 0, none⟩), .slice (some ⟨V34.heap.size, 0, none⟩) 2816 2816, .int .i64 0, .int .i64 0, .pointer none] 93 := e40 ▸ Has.new V39 _ 93
      have ln40 : W0.heap.size ≤ V39.heap.size := (bn39).size
      have bn40 := below_then bn39 (bn39).size hb40
      have C40 := (C39).belowS hb40
      have P40 := (N39).belowS hb40
      have H40 := (H39).below hb40
      refine tree_1 (i := 9) (by kernel_rfl) ?_
      ·have cp41 := (P40).cell 0
       have fp41 := (P40).frozen 0
       simp only [List.getElem?_toArray, List.getElem?_cons_zero] at cp41
       refine step_store (w' := V40.setCell ⟨V35.heap.size, 0, none⟩ (.pointer (some ⟨V39.heap.size, 0, none⟩))) (by rfl) (by rfl) (by rfl) ⟨by go_simp⟩ ?_
       refine tree_end (by kernel_rfl) ?_
       exact ⟨h34, u34, V34.heap.size, V39.heap.size, V35.heap.size, rfl, RunFacts.mk (bn40) (H40) lh34 lu34 (C40) ln35 (N40) ln40 (P40) ln39⟩
   ·refine step_value (v := .pointer (some ⟨V34.heap.size, 0, none⟩)) (w' := V34.alloc (Obj.cells #[.pointer none] 88)) (by rfl) (by rfl) (by rfl) ⟨by go_simp⟩ ?_
    simp only [List.setIfInBounds_toArray, List.set_cons_zero, List.set_cons_succ]
    obtain ⟨V42, e42⟩ : ∃ V, V34.alloc (Obj.cells #[.pointer none] 88) = V := ⟨_, rfl⟩
    rw [e42]
    have hb42 : Below V34.heap.size V34 V42 := e42 ▸ below_alloc (Below.refl _ V34) _
    have N42 : Has V42 V34.heap.size #[.pointer none] 88 := e42 ▸ Has.new V34 _ 88
    have ln42 : W0.heap.size ≤ V34.heap.size := (bn34).size
    have bn42 := below_then bn34 (bn34).size hb42
    have H42 := (HP34).below hb42
    refine tree_1 (i := 5) (by kernel_rfl) ?_
    ·refine step_value (v := .slice (some ⟨V42.heap.size, 0, none⟩) 2816 2816) (w' := V42.alloc (Obj.cells (madeCells #[.int .i64 0] 2816) 3)) (by rfl) (by rfl) (by rfl) ⟨by go_simp⟩ ?_
     simp only [List.setIfInBounds_toArray, List.set_cons_zero, List.set_cons_succ]
     obtain ⟨V43, e43⟩ : ∃ V, V42.alloc (Obj.cells (madeCells #[.int .i64 0] 2816) 3) = V := ⟨_, rfl⟩
     rw [e43]
     have hb43 : Below V42.heap.size V42 V43 := e43 ▸ below_alloc (Below.refl _ V42) _
     have N43 : Has V43 V42.heap.size (madeCells #[.int .i64 0] 2816) 3 := e43 ▸ Has.new V42 _ 3
     have ln43 : W0.heap.size ≤ V42.heap.size := (bn42).size
     have bn43 := below_then bn42 (bn42).size hb43
     have P43 := (N42).belowS hb43
     have H43 := (H42).below hb43
     refine tree_h (i := 6) (by kernel_rfl) (by rfl) (by rfl) (by kernel_rfl) (by rfl) ?_
     apply Exists.intro
     apply And.intro
     ·intro w'
      apply VR.mk
      go_simp
      with_reducible rfl
     simp only [List.setIfInBounds_toArray, List.set_cons_zero, List.set_cons_succ]
     refine tree_1 (i := 7) (by kernel_rfl) ?_
     ·refine step_value (v := .pointer (some ⟨V43.heap.size, 0, none⟩)) (w' := V43.alloc (Obj.cells #[.slice none 0 0, .slice A1 l.length c1, .int .i64 fuel, .int .i64 0, .slice Ai inp.length ci, .slice none 0 0, .slice none 0 0, .pointer (some ⟨h34, 0, none⟩), .slice (some ⟨V42.heap.size, 0, none⟩) 2816 2816, .int .i64 0, .int .i64 0, .pointer none] 93)) (by rfl) (by rfl) (by rfl) ⟨by go_simp⟩ ?_
      simp only [List.setIfInBounds_toArray, List.set_cons_zero, List.set_cons_succ]
      obtain ⟨V44, e44⟩ : ∃ V, V43.alloc (Obj.cells #[.slice none 0 0, .slice A1 l.length c1, .int .i64 fuel, .int .i64 0, .slice Ai inp.length ci, .slice none 0 0, .slice none 0 0, .pointer (some ⟨h34, 0, none⟩), .slice (some ⟨V42.heap.size, 0, none⟩) 2816 2816, .int .i64 0, .int .i64 0, .pointer none] 93) = V := ⟨_, rfl⟩
      rw [e44]
      have hb44 : Below V43.heap.size V43 V44 := e44 ▸ below_alloc (Below.refl _ V43) _
      have N44 : Has V44 V43.heap.size #[.slice none 0 0, .slice A1 l.length c1, .int .i64 fuel, .int .i64 0, .slice Ai inp.length ci, .slice none 0 0, .slice none 0 0, .pointer (some ⟨h34, 0, none⟩), .slice (some ⟨V42.heap.size, 0, none⟩) 2816 2816, .int .i64 0, .int .i64 0, .pointer none] 93 := e44 ▸ Has.new V43 _ 93
      have ln44 : W0.heap.size ≤ V43.heap.size := (bn43).size
      have bn44 := below_then bn43 (bn43).size hb44
      have C44 := (N43).belowS hb44
      have P44 := (P43).belowS hb44
      have H44 := (H43).below hb44
      refine tree_1 (i := 9) (by kernel_rfl) ?_
      ·have cp45 := (P44).cell 0
       have fp45 := (P44).frozen 0
       simp only [List.getElem?_toArray, List.getElem?_cons_zero] at cp45
       refine step_store (w' := V44.setCell ⟨V34.heap.size, 0, none⟩ (.pointer (some ⟨V43.heap.size, 0, none⟩))) (by rfl) (by rfl) (by rfl) ⟨by go_simp⟩ ?_
       refine tree_end (by kernel_rfl) ?_
       exact ⟨h34, u34, V42.heap.size, V43.heap.size, V34.heap.size, rfl, RunFacts.mk (bn44) (H44) lh34 lu34 (C44) ln43 (N44) ln44 (P44) ln42⟩
  ·refine step_value (v := .slice (some ⟨W0.heap.size, 0, none⟩) 2816 2816) (w' := W0.alloc (Obj.cells (madeCells #[.int .i64 0] 2816) 3)) (by rfl) (by rfl) (by rfl) ⟨by go_simp⟩ ?_
   simp only [List.setIfInBounds_toArray, List.set_cons_zero, List.set_cons_succ]
   obtain ⟨V46, e46⟩ : ∃ V, W0.alloc (Obj.cells (madeCells #[.int .i64 0] 2816) 3) = V := ⟨_, rfl⟩
   rw [e46]
   have hb46 : Below W0.heap.size W0 V46 := e46 ▸ below_alloc (Below.refl _ W0) _
   have N46 : Has V46 W0.heap.size (madeCells #[.int .i64 0] 2816) 3 := e46 ▸ Has.new W0 _ 3
   have ln46 : W0.heap.size ≤ W0.heap.size := (b0).size
   have bn46 := below_then b0 (b0).size hb46
   refine tree_2 (i := 4) (k := 8) (by kernel_rfl) ?_ ?_
   ·refine step_call (by rfl) (by rfl) (by rfl) (ER.go (by go_simp; with_reducible exact ⟨rfl, rfl⟩)) ?_
    refine (new_heap V46).mono ?_
    rintro e V47 ⟨h47, u47, rfl, hb47, HP47, hh47, hu47⟩
    refine ⟨_, rfl, ?_⟩
    simp only [List.setIfInBounds_toArray, List.set_cons_zero, List.set_cons_succ]
    have bn47 := below_then bn46 (bn46).size hb47
    have lh47 : W0.heap.size ≤ h47 := Nat.le_trans (bn46).size hh47
    have lu47 : ∀ k, k < 4 → W0.heap.size ≤ u47 k := fun k hk => Nat.le_trans (bn46).size (hu47 k hk)
    have C47 := (N46).belowS hb47
    refine tree_h (i := 6) (by kernel_rfl) (by rfl) (by rfl) (by kernel_rfl) (by rfl) ?_
    apply Exists.intro
    apply And.intro
    ·intro w'
     apply VR.mk
     go_simp
     with_reducible rfl
    simp only [List.setIfInBounds_toArray, List.set_cons_zero, List.set_cons_succ]
    refine tree_2 (i := 7) (k := 8) (by kernel_rfl) ?_ ?_
    ·refine step_value (v := .pointer (some ⟨V47.heap.size, 0, none⟩)) (w' := V47.alloc (Obj.cells #[.slice none 0 0, .slice A1 l.length c1, .int .i64 fuel, .int .i64 0, .slice Ai inp.length ci, .slice none 0 0, .slice none 0 0, .pointer (some ⟨h47, 0, none⟩), .slice (some ⟨W0.heap.size, 0, none⟩) 2816 2816, .int .i64 0, .int .i64 0, .pointer none] 93)) (by rfl) (by rfl) (by rfl) ⟨by go_simp⟩ ?_
     simp only [List.setIfInBounds_toArray, List.set_cons_zero, List.set_cons_succ]
     obtain ⟨V48, e48⟩ : ∃ V, V47.alloc (Obj.cells #[.slice none 0 0, .slice A1 l.length c1, .int .i64 fuel, .int .i64 0, .slice Ai inp.length ci, .slice none 0 0, .slice none 0 0, .pointer (some ⟨h47, 0, none⟩), .slice (some ⟨W0.heap.size, 0, none⟩) 2816 2816, .int .i64 0, .int .i64 0, .pointer none] 93) = V := ⟨_, rfl⟩
     rw [e48]
     have hb48 : Below V47.heap.size V47 V48 := e48 ▸ below_alloc (Below.refl _ V47) _
     have N48 : Has V48 V47.heap.size #[.slice none 0 0, .slice A1 l.length c1, .int .i64 fuel, .int .i64 0, .slice Ai inp.length ci, .slice none 0 0, .slice none 0 0, .pointer (some ⟨h47, 0, none⟩), .slice (some ⟨W0.heap.size, 0, none⟩) 2816 2816, .int .i64 0, .int .i64 0, .pointer none] 93 := e48 ▸ Has.new V47 _ 93
     have ln48 : W0.heap.size ≤ V47.heap.size := (bn47).size
     have bn48 := below_then bn47 (bn47).size hb48
     have C48 := (C47).belowS hb48
     have H48 := (HP47).below hb48
     refine tree_1 (i := 8) (by kernel_rfl) ?_
     ·refine step_value (v := .pointer (some ⟨V48.heap.size, 0, none⟩)) (w' := V48.alloc (Obj.cells #[.pointer none] 88)) (by rfl) (by rfl) (by rfl) ⟨by go_simp⟩ ?_
      simp only [List.setIfInBounds_toArray, List.set_cons_zero, List.set_cons_succ]
      obtain ⟨V49, e49⟩ : ∃ V, V48.alloc (Obj.cells #[.pointer none] 88) = V := ⟨_, rfl⟩
      rw [e49]
      have hb49 : Below V48.heap.size V48 V49 := e49 ▸ below_alloc (Below.refl _ V48) _
      have N49 : Has V49 V48.heap.size #[.pointer none] 88 := e49 ▸ Has.new V48 _ 88
      have ln49 : W0.heap.size ≤ V48.heap.size := (bn48).size
      have bn49 := below_then bn48 (bn48).size hb49
      have C49 := (C48).belowS hb49
      have M49 := (N48).belowS hb49
      have H49 := (H48).below hb49
      refine tree_1 (i := 9) (by kernel_rfl) ?_
      ·have cp50 := (N49).cell 0
       have fp50 := (N49).frozen 0
       simp only [List.getElem?_toArray, List.getElem?_cons_zero] at cp50
       refine step_store (w' := V49.setCell ⟨V48.heap.size, 0, none⟩ (.pointer (some ⟨V47.heap.size, 0, none⟩))) (by rfl) (by rfl) (by rfl) ⟨by go_simp⟩ ?_
       refine tree_end (by kernel_rfl) ?_
       exact ⟨h47, u47, W0.heap.size, V47.heap.size, V48.heap.size, rfl, RunFacts.mk (bn49) (H49) lh47 lu47 (C49) ln46 (M49) ln48 (N49) ln49⟩
    ·refine step_value (v := .pointer (some ⟨V47.heap.size, 0, none⟩)) (w' := V47.alloc (Obj.cells #[.pointer none] 88)) (by rfl) (by rfl) (by rfl) ⟨by go_simp⟩ ?_
     simp only [List.setIfInBounds_toArray, List.set_cons_zero, List.set_cons_succ]
     obtain ⟨V51, e51⟩ : ∃ V, V47.alloc (Obj.cells #[.pointer none] 88) = V := ⟨_, rfl⟩
     rw [e51]
     have hb51 : Below V47.heap.size V47 V51 := e51 ▸ below_alloc (Below.refl _ V47) _
     have N51 : Has V51 V47.heap.size #[.pointer none] 88 := e51 ▸ Has.new V47 _ 88
     have ln51 : W0.heap.size ≤ V47.heap.size := (bn47).size
     have bn51 := below_then bn47 (bn47).size hb51
     have C51 := (C47).belowS hb51
     have H51 := (HP47).below hb51
     refine tree_1 (i := 7) (by kernel_rfl) ?_
     ·refine step_value (v := .pointer (some ⟨V51.heap.size, 0, none⟩)) (w' := V51.alloc (Obj.cells #[.slice none 0 0, .slice A1 l.length c1, .int .i64 fuel, .int .i64 0, .slice Ai inp.length ci, .slice none 0 0, .slice none 0 0, .pointer (some ⟨h47, 0, none⟩), .slice (some ⟨W0.heap.size, 0, none⟩) 2816 2816, .int .i64 0, .int .i64 0, .pointer none] 93)) (by rfl) (by rfl) (by rfl) ⟨by go_simp⟩ ?_
      simp only [List.setIfInBounds_toArray, List.set_cons_zero, List.set_cons_succ]
      obtain ⟨V52, e52⟩ : ∃ V, V51.alloc (Obj.cells #[.slice none 0 0, .slice A1 l.length c1, .int .i64 fuel, .int .i64 0, .slice Ai inp.length ci, .slice none 0 0, .slice none 0 0, .pointer (some ⟨h47, 0, none⟩), .slice (some ⟨W0.heap.size, 0, none⟩) 2816 2816, .int .i64 0, .int .i64 0, .pointer none] 93) = V := ⟨_, rfl⟩
      rw [e52]
      have hb52 : Below V51.heap.size V51 V52 := e52 ▸ below_alloc (Below.refl _ V51) _
      have N52 : Has V52 V51.heap.size #[.slice none 0 0, .slice A1 l.length c1, .int .i64 fuel, .int .i64 0, .slice Ai inp.length ci, .slice none 0 0, .slice none 0 0, .pointer (some ⟨h47, 0, none⟩), .slice (some ⟨W0.heap.size, 0, none⟩) 2816 2816, .int .i64 0, .int .i64 0, .pointer none] 93 := e52 ▸ Has.new V51 _ 93
      have ln52 : W0.heap.size ≤ V51.heap.size := (bn51).size
      have bn52 := below_then bn51 (bn51).size hb52
      have C52 := (C51).belowS hb52
      have P52 := (N51).belowS hb52
      have H52 := (H51).below hb52
      refine tree_1 (i := 9) (by kernel_rfl) ?_
      ·have cp53 := (P52).cell 0
       have fp53 := (P52).frozen 0
       simp only [List.getElem?_toArray, List.getElem?_cons_zero] at cp53
       refine step_store (w' := V52.setCell ⟨V47.heap.size, 0, none⟩ (.pointer (some ⟨V51.heap.size, 0, none⟩))) (by rfl) (by rfl) (by rfl) ⟨by go_simp⟩ ?_
       refine tree_end (by kernel_rfl) ?_
       exact ⟨h47, u47, W0.heap.size, V51.heap.size, V47.heap.size, rfl, RunFacts.mk (bn52) (H52) lh47 lu47 (C52) ln46 (N52) ln52 (P52) ln51⟩
   ·refine step_value (v := .pointer (some ⟨V46.heap.size, 0, none⟩)) (w' := V46.alloc (Obj.cells #[.pointer none] 88)) (by rfl) (by rfl) (by rfl) ⟨by go_simp⟩ ?_
    simp only [List.setIfInBounds_toArray, List.set_cons_zero, List.set_cons_succ]
    obtain ⟨V54, e54⟩ : ∃ V, V46.alloc (Obj.cells #[.pointer none] 88) = V := ⟨_, rfl⟩
    rw [e54]
    have hb54 : Below V46.heap.size V46 V54 := e54 ▸ below_alloc (Below.refl _ V46) _
    have N54 : Has V54 V46.heap.size #[.pointer none] 88 := e54 ▸ Has.new V46 _ 88
    have ln54 : W0.heap.size ≤ V46.heap.size := (bn46).size
    have bn54 := below_then bn46 (bn46).size hb54
    have C54 := (N46).belowS hb54
    refine tree_1 (i := 4) (by kernel_rfl) ?_
    ·refine step_call (by rfl) (by rfl) (by rfl) (ER.go (by go_simp; with_reducible exact ⟨rfl, rfl⟩)) ?_
     refine (new_heap V54).mono ?_
     rintro e V55 ⟨h55, u55, rfl, hb55, HP55, hh55, hu55⟩
     refine ⟨_, rfl, ?_⟩
     simp only [List.setIfInBounds_toArray, List.set_cons_zero, List.set_cons_succ]
     have bn55 := below_then bn54 (bn54).size hb55
     have lh55 : W0.heap.size ≤ h55 := Nat.le_trans (bn54).size hh55
     have lu55 : ∀ k, k < 4 → W0.heap.size ≤ u55 k := fun k hk => Nat.le_trans (bn54).size (hu55 k hk)
     have C55 := (C54).belowS hb55
     have P55 := (N54).belowS hb55
     refine tree_h (i := 6) (by kernel_rfl) (by rfl) (by rfl) (by kernel_rfl) (by rfl) ?_
     apply Exists.intro
     apply And.intro
     ·intro w'
      apply VR.mk
      go_simp
      with_reducible rfl
     simp only [List.setIfInBounds_toArray, List.set_cons_zero, List.set_cons_succ]
     refine tree_1 (i := 7) (by kernel_rfl) ?_
     ·refine step_value (v := .pointer (some ⟨V55.heap.size, 0, none⟩)) (w' := V55.alloc (Obj.cells #[.slice none 0 0, .slice A1 l.length c1, .int .i64 fuel, .int .i64 0, .slice Ai inp.length ci, .slice none 0 0, .slice none 0 0, .pointer (some ⟨h55, 0, none⟩), .slice (some ⟨W0.heap.size, 0, none⟩) 2816 2816, .int .i64 0, .int .i64 0, .pointer none] 93)) (by rfl) (by rfl) (by rfl) ⟨by go_simp⟩ ?_
      simp only [List.setIfInBounds_toArray, List.set_cons_zero, List.set_cons_succ]
      obtain ⟨V56, e56⟩ : ∃ V, V55.alloc (Obj.cells #[.slice none 0 0, .slice A1 l.length c1, .int .i64 fuel, .int .i64 0, .slice Ai inp.length ci, .slice none 0 0, .slice none 0 0, .pointer (some ⟨h55, 0, none⟩), .slice (some ⟨W0.heap.size, 0, none⟩) 2816 2816, .int .i64 0, .int .i64 0, .pointer none] 93) = V := ⟨_, rfl⟩
      rw [e56]
      have hb56 : Below V55.heap.size V55 V56 := e56 ▸ below_alloc (Below.refl _ V55) _
      have N56 : Has V56 V55.heap.size #[.slice none 0 0, .slice A1 l.length c1, .int .i64 fuel, .int .i64 0, .slice Ai inp.length ci, .slice none 0 0, .slice none 0 0, .pointer (some ⟨h55, 0, none⟩), .slice (some ⟨W0.heap.size, 0, none⟩) 2816 2816, .int .i64 0, .int .i64 0, .pointer none] 93 := e56 ▸ Has.new V55 _ 93
      have ln56 : W0.heap.size ≤ V55.heap.size := (bn55).size
      have bn56 := below_then bn55 (bn55).size hb56
      have C56 := (C55).belowS hb56
      have P56 := (P55).belowS hb56
      have H56 := (HP55).below hb56
      refine tree_1 (i := 9) (by kernel_rfl) ?_
      ·have cp57 := (P56).cell 0
       have fp57 := (P56).frozen 0
       simp only [List.getElem?_toArray, List.getElem?_cons_zero] at cp57
       refine step_store (w' := V56.setCell ⟨V46.heap.size, 0, none⟩ (.pointer (some ⟨V55.heap.size, 0, none⟩))) (by rfl) (by rfl) (by rfl) ⟨by go_simp⟩ ?_
       refine tree_end (by kernel_rfl) ?_
       exact ⟨h55, u55, W0.heap.size, V55.heap.size, V46.heap.size, rfl, RunFacts.mk (bn56) (H56) lh55 lu55 (C56) ln46 (N56) ln56 (P56) ln54⟩
  ·refine step_value (v := .pointer (some ⟨W0.heap.size, 0, none⟩)) (w' := W0.alloc (Obj.cells #[.pointer none] 88)) (by rfl) (by rfl) (by rfl) ⟨by go_simp⟩ ?_
   simp only [List.setIfInBounds_toArray, List.set_cons_zero, List.set_cons_succ]
   obtain ⟨V58, e58⟩ : ∃ V, W0.alloc (Obj.cells #[.pointer none] 88) = V := ⟨_, rfl⟩
   rw [e58]
   have hb58 : Below W0.heap.size W0 V58 := e58 ▸ below_alloc (Below.refl _ W0) _
   have N58 : Has V58 W0.heap.size #[.pointer none] 88 := e58 ▸ Has.new W0 _ 88
   have ln58 : W0.heap.size ≤ W0.heap.size := (b0).size
   have bn58 := below_then b0 (b0).size hb58
   refine tree_2 (i := 4) (k := 5) (by kernel_rfl) ?_ ?_
   ·refine step_call (by rfl) (by rfl) (by rfl) (ER.go (by go_simp; with_reducible exact ⟨rfl, rfl⟩)) ?_
    refine (new_heap V58).mono ?_
    rintro e V59 ⟨h59, u59, rfl, hb59, HP59, hh59, hu59⟩
    refine ⟨_, rfl, ?_⟩
    simp only [List.setIfInBounds_toArray, List.set_cons_zero, List.set_cons_succ]
    have bn59 := below_then bn58 (bn58).size hb59
    have lh59 : W0.heap.size ≤ h59 := Nat.le_trans (bn58).size hh59
    have lu59 : ∀ k, k < 4 → W0.heap.size ≤ u59 k := fun k hk => Nat.le_trans (bn58).size (hu59 k hk)
    have P59 := (N58).belowS hb59
    refine tree_1 (i := 5) (by kernel_rfl) ?_
    ·refine step_value (v := .slice (some ⟨V59.heap.size, 0, none⟩) 2816 2816) (w' := V59.alloc (Obj.cells (madeCells #[.int .i64 0] 2816) 3)) (by rfl) (by rfl) (by rfl) ⟨by go_simp⟩ ?_
     simp only [List.setIfInBounds_toArray, List.set_cons_zero, List.set_cons_succ]
     obtain ⟨V60, e60⟩ : ∃ V, V59.alloc (Obj.cells (madeCells #[.int .i64 0] 2816) 3) = V := ⟨_, rfl⟩
     rw [e60]
     have hb60 : Below V59.heap.size V59 V60 := e60 ▸ below_alloc (Below.refl _ V59) _
     have N60 : Has V60 V59.heap.size (madeCells #[.int .i64 0] 2816) 3 := e60 ▸ Has.new V59 _ 3
     have ln60 : W0.heap.size ≤ V59.heap.size := (bn59).size
     have bn60 := below_then bn59 (bn59).size hb60
     have P60 := (P59).belowS hb60
     have H60 := (HP59).below hb60
     refine tree_h (i := 6) (by kernel_rfl) (by rfl) (by rfl) (by kernel_rfl) (by rfl) ?_
     apply Exists.intro
     apply And.intro
     ·intro w'
      apply VR.mk
      go_simp
      with_reducible rfl
     simp only [List.setIfInBounds_toArray, List.set_cons_zero, List.set_cons_succ]
     refine tree_1 (i := 7) (by kernel_rfl) ?_
     ·refine step_value (v := .pointer (some ⟨V60.heap.size, 0, none⟩)) (w' := V60.alloc (Obj.cells #[.slice none 0 0, .slice A1 l.length c1, .int .i64 fuel, .int .i64 0, .slice Ai inp.length ci, .slice none 0 0, .slice none 0 0, .pointer (some ⟨h59, 0, none⟩), .slice (some ⟨V59.heap.size, 0, none⟩) 2816 2816, .int .i64 0, .int .i64 0, .pointer none] 93)) (by rfl) (by rfl) (by rfl) ⟨by go_simp⟩ ?_
      simp only [List.setIfInBounds_toArray, List.set_cons_zero, List.set_cons_succ]
      obtain ⟨V61, e61⟩ : ∃ V, V60.alloc (Obj.cells #[.slice none 0 0, .slice A1 l.length c1, .int .i64 fuel, .int .i64 0, .slice Ai inp.length ci, .slice none 0 0, .slice none 0 0, .pointer (some ⟨h59, 0, none⟩), .slice (some ⟨V59.heap.size, 0, none⟩) 2816 2816, .int .i64 0, .int .i64 0, .pointer none] 93) = V := ⟨_, rfl⟩
      rw [e61]
      have hb61 : Below V60.heap.size V60 V61 := e61 ▸ below_alloc (Below.refl _ V60) _
      have N61 : Has V61 V60.heap.size #[.slice none 0 0, .slice A1 l.length c1, .int .i64 fuel, .int .i64 0, .slice Ai inp.length ci, .slice none 0 0, .slice none 0 0, .pointer (some ⟨h59, 0, none⟩), .slice (some ⟨V59.heap.size, 0, none⟩) 2816 2816, .int .i64 0, .int .i64 0, .pointer none] 93 := e61 ▸ Has.new V60 _ 93
      have ln61 : W0.heap.size ≤ V60.heap.size := (bn60).size
      have bn61 := below_then bn60 (bn60).size hb61
      have C61 := (N60).belowS hb61
      have P61 := (P60).belowS hb61
      have H61 := (H60).below hb61
      refine tree_1 (i := 9) (by kernel_rfl) ?_
      ·have cp62 := (P61).cell 0
       have fp62 := (P61).frozen 0
       simp only [List.getElem?_toArray, List.getElem?_cons_zero] at cp62
       refine step_store (w' := V61.setCell ⟨W0.heap.size, 0, none⟩ (.pointer (some ⟨V60.heap.size, 0, none⟩))) (by rfl) (by rfl) (by rfl) ⟨by go_simp⟩ ?_
       refine tree_end (by kernel_rfl) ?_
       exact ⟨h59, u59, V59.heap.size, V60.heap.size, W0.heap.size, rfl, RunFacts.mk (bn61) (H61) lh59 lu59 (C61) ln60 (N61) ln61 (P61) ln58⟩
   ·refine step_value (v := .slice (some ⟨V58.heap.size, 0, none⟩) 2816 2816) (w' := V58.alloc (Obj.cells (madeCells #[.int .i64 0] 2816) 3)) (by rfl) (by rfl) (by rfl) ⟨by go_simp⟩ ?_
    simp only [List.setIfInBounds_toArray, List.set_cons_zero, List.set_cons_succ]
    obtain ⟨V63, e63⟩ : ∃ V, V58.alloc (Obj.cells (madeCells #[.int .i64 0] 2816) 3) = V := ⟨_, rfl⟩
    rw [e63]
    have hb63 : Below V58.heap.size V58 V63 := e63 ▸ below_alloc (Below.refl _ V58) _
    have N63 : Has V63 V58.heap.size (madeCells #[.int .i64 0] 2816) 3 := e63 ▸ Has.new V58 _ 3
    have ln63 : W0.heap.size ≤ V58.heap.size := (bn58).size
    have bn63 := below_then bn58 (bn58).size hb63
    have P63 := (N58).belowS hb63
    refine tree_1 (i := 4) (by kernel_rfl) ?_
    ·refine step_call (by rfl) (by rfl) (by rfl) (ER.go (by go_simp; with_reducible exact ⟨rfl, rfl⟩)) ?_
     refine (new_heap V63).mono ?_
     rintro e V64 ⟨h64, u64, rfl, hb64, HP64, hh64, hu64⟩
     refine ⟨_, rfl, ?_⟩
     simp only [List.setIfInBounds_toArray, List.set_cons_zero, List.set_cons_succ]
     have bn64 := below_then bn63 (bn63).size hb64
     have lh64 : W0.heap.size ≤ h64 := Nat.le_trans (bn63).size hh64
     have lu64 : ∀ k, k < 4 → W0.heap.size ≤ u64 k := fun k hk => Nat.le_trans (bn63).size (hu64 k hk)
     have C64 := (N63).belowS hb64
     have P64 := (P63).belowS hb64
     refine tree_h (i := 6) (by kernel_rfl) (by rfl) (by rfl) (by kernel_rfl) (by rfl) ?_
     apply Exists.intro
     apply And.intro
     ·intro w'
      apply VR.mk
      go_simp
      with_reducible rfl
     simp only [List.setIfInBounds_toArray, List.set_cons_zero, List.set_cons_succ]
     refine tree_1 (i := 7) (by kernel_rfl) ?_
     ·refine step_value (v := .pointer (some ⟨V64.heap.size, 0, none⟩)) (w' := V64.alloc (Obj.cells #[.slice none 0 0, .slice A1 l.length c1, .int .i64 fuel, .int .i64 0, .slice Ai inp.length ci, .slice none 0 0, .slice none 0 0, .pointer (some ⟨h64, 0, none⟩), .slice (some ⟨V58.heap.size, 0, none⟩) 2816 2816, .int .i64 0, .int .i64 0, .pointer none] 93)) (by rfl) (by rfl) (by rfl) ⟨by go_simp⟩ ?_
      simp only [List.setIfInBounds_toArray, List.set_cons_zero, List.set_cons_succ]
      obtain ⟨V65, e65⟩ : ∃ V, V64.alloc (Obj.cells #[.slice none 0 0, .slice A1 l.length c1, .int .i64 fuel, .int .i64 0, .slice Ai inp.length ci, .slice none 0 0, .slice none 0 0, .pointer (some ⟨h64, 0, none⟩), .slice (some ⟨V58.heap.size, 0, none⟩) 2816 2816, .int .i64 0, .int .i64 0, .pointer none] 93) = V := ⟨_, rfl⟩
      rw [e65]
      have hb65 : Below V64.heap.size V64 V65 := e65 ▸ below_alloc (Below.refl _ V64) _
      have N65 : Has V65 V64.heap.size #[.slice none 0 0, .slice A1 l.length c1, .int .i64 fuel, .int .i64 0, .slice Ai inp.length ci, .slice none 0 0, .slice none 0 0, .pointer (some ⟨h64, 0, none⟩), .slice (some ⟨V58.heap.size, 0, none⟩) 2816 2816, .int .i64 0, .int .i64 0, .pointer none] 93 := e65 ▸ Has.new V64 _ 93
      have ln65 : W0.heap.size ≤ V64.heap.size := (bn64).size
      have bn65 := below_then bn64 (bn64).size hb65
      have C65 := (C64).belowS hb65
      have P65 := (P64).belowS hb65
      have H65 := (HP64).below hb65
      refine tree_1 (i := 9) (by kernel_rfl) ?_
      ·have cp66 := (P65).cell 0
       have fp66 := (P65).frozen 0
       simp only [List.getElem?_toArray, List.getElem?_cons_zero] at cp66
       refine step_store (w' := V65.setCell ⟨W0.heap.size, 0, none⟩ (.pointer (some ⟨V64.heap.size, 0, none⟩))) (by rfl) (by rfl) (by rfl) ⟨by go_simp⟩ ?_
       refine tree_end (by kernel_rfl) ?_
       exact ⟨h64, u64, V58.heap.size, V64.heap.size, W0.heap.size, rfl, RunFacts.mk (bn65) (H65) lh64 lu64 (C65) ln63 (N65) ln65 (P65) ln58⟩
 ·rintro a' w' ⟨h, u, c, m, p, rfl, R⟩
  have bw0 : Below w.heap.size w w' := below_then (hW00 ▸ below_drew (below_alloc (below_alloc (Below.refl _ w) _) _) : Below w.heap.size w W00.drew) (by rw [← hW00]; simp [World.drew]; omega) R.B
  have hww0 : w.heap.size ≤ W00.drew.heap.size := by rw [← hW00]; simp [World.drew]; omega
  have RR := Aside0.mk R
  have BW0 := Aside0.mk bw0
  have HWW := Aside0.mk hW00
  obtain ⟨k, hk⟩ : ∃ k, findP l mainT = k := ⟨_, rfl⟩
  have HHK := Aside0.mk hk
  have HIN := Aside0.mk (R.in0g (l := l) bw0 hww0 HII.out hic)
  have hN := NN.out
  rw [hk] at hN
  clear R bw0 hww0 hW00 hk
  have FINISH : Aside0 (runP l inp fuel = .halt 5 0 (st0 fuel inp) → ∀ (w3 w4 w6 : World) (ch : List PanicEntry) (tmps : Array Value), Below w'.heap.size w' w3 → Below w3.heap.size w3 w4 → (∃ j, w6 = w4.drewN j) → HaltCh ch 5 0 → tmps[8]? = some (.pointer (some ⟨w.heap.size, 0, none⟩)) → tmps[9]? = some (.pointer (some ⟨w.heap.size + 1, 0, none⟩)) →
    Leaves Try.prog Try.f9 tmps (RunPost (runP l inp fuel) w) [runD p w.heap.size (w.heap.size + 1)] (.panicking ch) w6) := by
   constructor
   rintro hre w3 w4 w6 ch tmps B3 B4 ⟨jj, rfl⟩ hc t8 t9
   have BW5 := below_then (below_then BW0.out BW0.out.size B3) (below_then BW0.out BW0.out.size B3).size B4
   have I4 := (HIN.out.below B3).below B4
   have HP4 := (((RR.out.P.belowS B3).belowS B4).drewN jj)
   have I4d := I4.drewN jj
   have hsz : W00.drew.heap.size = w.heap.size + 2 := by rw [← HWW.out]; simp [World.drew]
   have hob : Has W00 w.heap.size #[.int .i64 0, .int .i64 0, .slice none 0 0] 26 := HWW.out ▸ (Has.new w _ 26).alloc _
   have hsb : Has W00 (w.heap.size + 1) #[.int .i64 0] 3 := by
    have h1 := Has.new (w.alloc (Obj.cells #[.int .i64 0, .int .i64 0, .slice none 0 0] 26)) #[.int .i64 0] 3
    rw [show (w.alloc (Obj.cells #[.int .i64 0, .int .i64 0, .slice none 0 0] 26)).heap.size = w.heap.size + 1 by simp, HWW.out] at h1
    exact h1
   have HO4 := ((((hob.drewN 1).belowS RR.out.B).belowS B3).belowS B4).drewN jj
   have HS4 := ((((hsb.drewN 1).belowS RR.out.B).belowS B3).belowS B4).drewN jj
   have hlow : ∀ b, b < w.heap.size + 2 → ¬ runS m h c u b := by
    intro b hb
    have l1 := RR.out.lm; have l2 := RR.out.lh; have l3 := RR.out.lc; have l4 := RR.out.lu
    rw [hsz] at l1 l2 l3 l4
    rintro (h1 | h1 | ⟨k, hk, h1⟩ | h1)
    ·omega
    ·omega
    ·have := l4 k hk; omega
    ·omega
   have hpn : w.heap.size + 2 ≤ p := by have := RR.out.lp; rw [hsz] at this; exact this
   have hp0 := HP4.cell 0
   simp only [List.getElem?_toArray, List.getElem?_cons_zero] at hp0
   exact run_leaves (r := runP l inp fuel) tmps t8 t9 (by rw [hre]; exact ⟨rfl, rfl, rfl⟩) _ (.inr ⟨ch, rfl, hc⟩) I4d.rep hp0 HO4 HS4 (by omega) (by omega) (hlow _ (by omega)) (hlow _ (by omega)) (pw_below_drewN BW5 jj) (Nat.le_refl _) (by omega)
  rcases hN with ⟨hre, h | ⟨h, h2⟩ | ⟨h, h2, h3⟩ | ⟨h, h2, h3, h4⟩⟩ | ⟨hre, g1, g2, g3, g4⟩
  ·have HCK := Aside0.mk h
   have HRE := Aside0.mk hre
   clear hre
   clear h
   go_wp2_with (first | (go_at_call 27; refine (PMirFuel.mir_find.calls (l.length + 1) A1 c1 l mainT k _ (Kd.C_below HLL.out BW0.out) hlc (HHK.out ▸ find_f l mainT hll)).mono ?_; rintro e w3 ⟨rfl, hd⟩; have B3 := Aside0.mk hd.below; skip; clear hd) | (go_at_call 13; refine (Form.check_said l A1 c1 _ (Kd.C_below HLL.out (below_then BW0.out BW0.out.size B3.out)) hlc HSZ.out).mono ?_; rintro e w4 ⟨he, hb⟩; rw [HCK.out] at he; subst he; have B4 := Aside0.mk hb; skip; clear hb) | (go_at_call 28; refine (stop 5 0 _).mono ?_; rintro e w5 ⟨rfl, rfl⟩))
   exact FINISH.out HRE.out _ _ _ _ _ B3.out B4.out ⟨0, rfl⟩ (.inl rfl) (by rfl) (by rfl)
  ·have HCK := Aside0.mk h
   have HRE := Aside0.mk hre
   clear hre
   have dk : decide (k < 0) = true := by simp [h2]
   clear h h2
   go_wp2_with (first | (go_at_call 27; refine (PMirFuel.mir_find.calls (l.length + 1) A1 c1 l mainT k _ (Kd.C_below HLL.out BW0.out) hlc (HHK.out ▸ find_f l mainT hll)).mono ?_; rintro e w3 ⟨rfl, hd⟩; have B3 := Aside0.mk hd.below; skip; clear hd) | (go_at_call 13; refine (Form.check_said l A1 c1 _ (Kd.C_below HLL.out (below_then BW0.out BW0.out.size B3.out)) hlc HSZ.out).mono ?_; rintro e w4 ⟨he, hb⟩; rw [HCK.out] at he; subst he; have B4 := Aside0.mk hb; skip; clear hb) | (go_at_call 28; refine (stop 5 0 _).mono ?_; rintro e w5 ⟨rfl, rfl⟩))
   exact FINISH.out HRE.out _ _ _ _ _ B3.out B4.out ⟨0, rfl⟩ (.inl rfl) (by rfl) (by rfl)
  ·have HCK := Aside0.mk h
   have HRE := Aside0.mk hre
   clear hre
   have dk : decide (k < 0) = false := by simp; omega
   have hkb : k < l.length := by rw [← HHK.out] at h2 ⊢; rcases findP_bounds l mainT with h | h <;> omega
   obtain ⟨ad, B1, b1, B5, b5, e, r0, r1, r2, r3, r4, r5, rl1, rg1, rl5, rg5⟩ := at_T48 HLL.out k h2 hkb
   subst e
   generalize rd_T48 l k = f at *
   have d3 : (f.f2 != 0) = true := by simp [h3]
   have q2 := pwcb BW0.out r2
   have q3 := pwcb BW0.out r3
   clear h h3 rl1 rg1 rl5 rg5 r0 r1 r2 r3 r4 r5
   go_wp2_with (first | (go_at_call 27; refine (PMirFuel.mir_find.calls (l.length + 1) (some ad) c1 l mainT k _ (Kd.C_below HLL.out BW0.out) hlc (HHK.out ▸ find_f l mainT hll)).mono ?_; rintro e w3 ⟨rfl, hd⟩; have B3 := Aside0.mk hd.below; have q2 := pwcb hd.below q2; have q3 := pwcb hd.below q3; clear hd) | (go_at_call 13; refine (Form.check_said l (some ad) c1 _ (Kd.C_below HLL.out (below_then BW0.out BW0.out.size B3.out)) hlc HSZ.out).mono ?_; rintro e w4 ⟨he, hb⟩; rw [HCK.out] at he; subst he; have B4 := Aside0.mk hb; have q2 := pwcb hb q2; have q3 := pwcb hb q3; clear hb) | (go_at_call 28; refine (stop 5 0 _).mono ?_; rintro e w5 ⟨rfl, rfl⟩))
   exact FINISH.out HRE.out _ _ _ _ _ B3.out B4.out ⟨0, rfl⟩ (.inl rfl) (by rfl) (by rfl)
  ·have HCK := Aside0.mk h
   have HRE := Aside0.mk hre
   clear hre
   have dk : decide (k < 0) = false := by simp; omega
   have hkb : k < l.length := by rw [← HHK.out] at h2 ⊢; rcases findP_bounds l mainT with h | h <;> omega
   obtain ⟨ad, B1, b1, B5, b5, e, r0, r1, r2, r3, r4, r5, rl1, rg1, rl5, rg5⟩ := at_T48 HLL.out k h2 hkb
   subst e
   generalize rd_T48 l k = f at *
   have d4 : (f.f3 != 0) = true := by simp [h4]
   rw [h3] at r2
   have q2 := pwcb BW0.out r2
   have q3 := pwcb BW0.out r3
   clear h h3 h4 rl1 rg1 rl5 rg5 r0 r1 r2 r3 r4 r5
   go_wp2_with (first | (go_at_call 27; refine (PMirFuel.mir_find.calls (l.length + 1) (some ad) c1 l mainT k _ (Kd.C_below HLL.out BW0.out) hlc (HHK.out ▸ find_f l mainT hll)).mono ?_; rintro e w3 ⟨rfl, hd⟩; have B3 := Aside0.mk hd.below; have q2 := pwcb hd.below q2; have q3 := pwcb hd.below q3; clear hd) | (go_at_call 13; refine (Form.check_said l (some ad) c1 _ (Kd.C_below HLL.out (below_then BW0.out BW0.out.size B3.out)) hlc HSZ.out).mono ?_; rintro e w4 ⟨he, hb⟩; rw [HCK.out] at he; subst he; have B4 := Aside0.mk hb; have q2 := pwcb hb q2; have q3 := pwcb hb q3; clear hb) | (go_at_call 28; refine (stop 5 0 _).mono ?_; rintro e w5 ⟨rfl, rfl⟩))
   exact FINISH.out HRE.out _ _ _ _ _ B3.out B4.out ⟨0, rfl⟩ (.inl rfl) (by rfl) (by rfl)
  ·have HCK := Aside0.mk (ckN_yes g1)
   have dk : decide (k < 0) = false := by simp; omega
   have hkb : k < l.length := by have hh := HHK.out; rcases findP_bounds l mainT with h | h <;> omega
   have HHR := Aside0.mk hre
   have HFFs := forms_chk HSZ.out g1 fun k h0 h1 => by have := HLC.out k h0 h1; omega
   obtain ⟨ad, B1, b1, B5, b5, e, r0, r1, r2, r3, r4, r5, rl1, rg1, rl5, rg5⟩ := at_T48 HLL.out k g2 hkb
   subst e
   obtain ⟨ad2, D1, d1, D5, d5, e2, hMA⟩ := MA.of HLL.out k g2 hkb
   obtain rfl : ad = ad2 := Option.some.inj e2
   obtain ⟨f, hf⟩ : ∃ f, rd_T48 l k = f := ⟨_, rfl⟩
   rw [hf] at hMA
   have HMA := Aside0.mk hMA
   have HFF := Aside0.mk (hf ▸ HFFs k g2 hkb)
   have HFS := Aside0.mk HFFs
   rw [hf] at g3 g4
   rw [hf, g3] at r2
   rw [hf, g4] at r3
   have q2 := pwcb BW0.out r2
   have q3 := pwcb BW0.out r3
   have HRE : Aside0 (runP l inp fuel = callP (XR l fuel.toNat) (st0 fuel inp) [] f []) := ⟨by rw [HHR.out, hf]⟩
   clear hMA e2 HFFs hf g1 g3 g4 hre HHR rl1 rg1 rl5 rg5 r0 r1 r2 r3 r4 r5
   go_wp2_with (first | (go_at_call 27; refine (PMirFuel.mir_find.calls (l.length + 1) (some ad) c1 l mainT k _ (Kd.C_below HLL.out BW0.out) hlc (HHK.out ▸ find_f l mainT hll)).mono ?_; rintro e w3 ⟨rfl, hd⟩; have B3 := Aside0.mk hd.below; have q2 := pwcb hd.below q2; have q3 := pwcb hd.below q3; clear hd) | (go_at_call 13; refine (Form.check_said l (some ad) c1 _ (Kd.C_below HLL.out (below_then BW0.out BW0.out.size B3.out)) hlc HSZ.out).mono ?_; rintro e w4 ⟨he, hb⟩; rw [HCK.out] at he; subst he; have B4 := Aside0.mk hb; have q2 := pwcb hb q2; have q3 := pwcb hb q3; clear hb) | (go_at_call 28; refine (stop 5 0 _).mono ?_; rintro e w5 ⟨rfl, rfl⟩))
   have BW5 := Aside0.mk (below_then (below_then BW0.out BW0.out.size B3.out) (below_then BW0.out BW0.out.size B3.out).size B4.out)
   have hW00 := HWW.out
   have I1 := HIN.out
   have I4 := Aside0.mk ((I1.below B3.out).below B4.out)
   have HP4 := Aside0.mk ((RR.out.P.belowS B3.out).belowS B4.out)
   have hp0 := HP4.out.cell 0
   simp only [List.getElem?_toArray, List.getElem?_cons_zero] at hp0
   have I4d := Aside0.mk (I4.out.drewN 1)
   have hsz : W00.drew.heap.size = w.heap.size + 2 := by rw [← hW00]; simp [World.drew]
   have hob : Has W00 w.heap.size #[.int .i64 0, .int .i64 0, .slice none 0 0] 26 := hW00 ▸ (Has.new w _ 26).alloc _
   have hsb : Has W00 (w.heap.size + 1) #[.int .i64 0] 3 := by
    have h1 := Has.new (w.alloc (Obj.cells #[.int .i64 0, .int .i64 0, .slice none 0 0] 26)) #[.int .i64 0] 3
    rw [show (w.alloc (Obj.cells #[.int .i64 0, .int .i64 0, .slice none 0 0] 26)).heap.size = w.heap.size + 1 by simp, hW00] at h1
    exact h1
   have HO4 := Aside0.mk (((((hob.drewN 1).belowS RR.out.B).belowS B3.out).belowS B4.out).drewN 1)
   have HS4 := Aside0.mk (((((hsb.drewN 1).belowS RR.out.B).belowS B3.out).belowS B4.out).drewN 1)
   have hpS : ¬ runS m h c u p := by
    rintro (h1 | h1 | ⟨k, hk, h1⟩ | h1)
    ·exact RR.out.P.ne RR.out.M (by decide) h1
    ·exact RR.out.P.ne RR.out.H.head (by decide) h1
    ·exact RR.out.P.ne (RR.out.H.row k hk) (by decide) h1
    ·exact RR.out.P.ne RR.out.C (by decide) h1
   have hlow : ∀ b, b < w.heap.size + 2 → ¬ runS m h c u b := by
    intro b hb
    have l1 := RR.out.lm; have l2 := RR.out.lh; have l3 := RR.out.lc; have l4 := RR.out.lu
    rw [hsz] at l1 l2 l3 l4
    rintro (h1 | h1 | ⟨k, hk, h1⟩ | h1)
    ·omega
    ·omega
    ·have := l4 k hk; omega
    ·omega
   have hge : ∀ b, runS m h c u b → w.heap.size ≤ b := fun b hb => by
    by_cases h1 : b < w.heap.size + 2
    ·exact absurd hb (hlow b h1)
    ·omega
   have hpn : w.heap.size + 2 ≤ p := by have := RR.out.lp; rw [hsz] at this; exact this
   have hw4 : w.heap.size + 2 ≤ w4.drew.heap.size := by
    have h1 : w.heap.size + 1 < w4.drew.heap.size := HS4.out.lt
    omega
   have AFT : Aside0 (∀ w5 : World, Kept (runS m h c u) w4.drew w5 → w5.cell? ⟨p, 0, none⟩ = some (.pointer (some ⟨m, 0, none⟩)) ∧ Has w5 w.heap.size #[.int .i64 0, .int .i64 0, .slice none 0 0] 26 ∧ Has w5 (w.heap.size + 1) #[.int .i64 0] 3 ∧ Below w.heap.size w w5) := ⟨fun w5 K =>
    ⟨(K.cell (w := w4.drew) hp0 hpS), K.has HO4.out (hlow _ (by omega)), K.has HS4.out (hlow _ (by omega)), (below_drew BW5.out).trans (K.below_of hge (below_drew BW5.out).size)⟩⟩
   have OUTS : Aside0 (∀ S' : Nat → Prop, (∀ b, S' b → runS m h c u b ∨ w4.drew.heap.size ≤ b) → ¬ S' w.heap.size ∧ ¬ S' (w.heap.size + 1)) := ⟨fun S' hs =>
    ⟨fun h1 => (hs _ h1).elim (hlow _ (by omega)) (fun h2 => by omega), fun h1 => (hs _ h1).elim (hlow _ (by omega)) (fun h2 => by omega)⟩⟩
   clear hob hsb hlow hge hpS
   have GG : GOK ⟨w, m, some ad, c1, l⟩ := ⟨HLL.out, hlc, hll, HFS.out⟩
   have FT0 : Fits (st0 fuel inp) := ⟨by simp [st0], hfu, by simp [st0], by simp [st0], by simp [st0], by simp [st0], by simp [st0]⟩
   have EN := Aside0.mk (enters (body_all GG fuel.toNat) HMA.out HFF.out (st := st0 fuel inp) (vs := []) FT0 (by simp [st0]) (by simp) (by simp [st0]; omega))
   clear GG FT0 I1
   refine region_mixD (fun ch w'' => CPost0 ⟨w, m, some ad, c1, l⟩ (runS m h c u) (callP (XR l fuel.toNat) (st0 fuel inp) [] f []) w4.drew (.panicked ch) w'') [runD p w.heap.size (w.heap.size + 1)] (.pointer (some ⟨w.heap.size, 0, none⟩)) (.pointer (some ⟨w.heap.size + 1, 0, none⟩)) [.h 0, .h 1, .h 2, .h 3, .c 4] (fun w' => w'.cell? ⟨p, 0, none⟩ = some (.pointer (some ⟨m, 0, none⟩))) (by kernel_rfl) (by kernel_rfl) hp0 ?_ ?_
   ·repeat (
     refine mix_h (by rfl) (by rfl) (by rfl) ?_
     apply Exists.intro
     apply And.intro
     ·intro w' k1
      apply VR.mk
      go_simp
      with_reducible rfl
     simp only [List.setIfInBounds_toArray, List.set_cons_zero, List.set_cons_succ])
    refine mix_call (by rfl) (by rfl) (by rfl) (ER.go (by go_simp; with_reducible exact ⟨rfl, rfl⟩)) ?_
    refine (call0_any I4d.out HMA.out HFF.out.hl (by have := HFF.out.hw; simp [st0]; omega) HFF.out.h0 ⟨own_nil _ _ _ _, fun b e => (by simp [Value.ownBlock] at e), fun v hv => (by simp at hv)⟩ (by simp) rfl rfl EN.out).mono ?_
    intro e w5 hC
    rcases CPost0.cases hC with ⟨st', held, out, v, S', L', hr, rfl, K, hs, I5⟩ | ⟨kd, cd, st', ch, hr, rfl, K, hc, hR⟩
    rotate_left
    ·exact .inr ⟨_, rfl, hC, rfl, rfl, rfl⟩
    have HC := Aside0.mk hC
    obtain ⟨hP5, HO5, HS5, HB5⟩ := AFT.out w5 K
    obtain ⟨os1, os2⟩ := OUTS.out S' hs
    refine .inl ⟨v, rfl, hP5, ?_⟩
    simp only [List.setIfInBounds_toArray, List.set_cons_zero, List.set_cons_succ]
    refine mix_nil ?_
    simp only [panicR]
    clear hC
    have b0 := HO5.cell 0
    have b1 := HO5.cell 1
    have b2 := HO5.cell 2
    have c0 := HS5.cell 0
    have f0 := HO5.frozen 0
    have f1 := HO5.frozen 1
    have f2 := HO5.frozen 2
    have e0 := HS5.frozen 0
    simp only [List.getElem?_toArray, List.getElem?_cons_zero, List.getElem?_cons_succ] at b0 b1 b2 c0
    have F5 := Aside0.mk (And.intro HO5 (And.intro HS5 (And.intro HB5 (And.intro I5 (And.intro hP5 (And.intro os1 (And.intro os2 hr)))))))
    have hne : w.heap.size ≠ w.heap.size + 1 := by omega
    have hne' : w.heap.size + 1 ≠ w.heap.size := by omega
    clear HO5 HS5 HB5 I5 hP5 os1 os2 hr K hs
    go_wp2
    refine region_mixD (fun _ _ => False) [] undef undef [.h 0, .h 1, .c 2, .c 3] (fun w' => w'.cell? ⟨w.heap.size, 0, none⟩ = some (.int .i64 0) ∧ w'.cell? ⟨w.heap.size, 1, none⟩ = some (.int .i64 0) ∧ w'.cell? ⟨w.heap.size, 2, none⟩ = some (.slice none 0 0) ∧ w'.cell? ⟨w.heap.size + 1, 0, none⟩ = some (.int .i64 0)) (by kernel_rfl) (by kernel_rfl) ⟨b0, b1, b2, c0⟩ ?_ (fun _ _ _ h => h.elim)
    repeat (
     refine mix_h (by rfl) (by rfl) (by rfl) ?_
     apply Exists.intro
     apply And.intro
     ·rintro w' ⟨k0, k1, k2, k3⟩
      apply VR.mk
      go_simp
      with_reducible rfl
     simp only [List.setIfInBounds_toArray, List.set_cons_zero, List.set_cons_succ])
    have hst := F5.out
    obtain ⟨HO5, HS5, HB5, I5, hP5, os1, os2, hr⟩ := hst
    have HO6 := ((HO5.set_ 0 (.int .i64 0)).set_ 1 (.int .i64 0)).set_ 2 (.slice none 0 0)
    have HS6 := ((HS5.other (a := ⟨w.heap.size, 0, none⟩) hne' (.int .i64 0)).other (a := ⟨w.heap.size, 1, none⟩) hne' (.int .i64 0)).other (a := ⟨w.heap.size, 2, none⟩) hne' (.slice none 0 0)
    have e0' := HS6.frozen 0
    have c0' := HS6.cell 0
    simp only [List.getElem?_toArray, List.getElem?_cons_zero] at c0'
    refine mix_store (w' := (((w5.setCell ⟨w.heap.size, 0, none⟩ (.int .i64 0)).setCell ⟨w.heap.size, 1, none⟩ (.int .i64 0)).setCell ⟨w.heap.size, 2, none⟩ (.slice none 0 0)).drew) (by rfl) (by rfl) (by rfl) ⟨?_⟩ ?_ ?_
    ·go_simp
    ·exact ⟨HO6.cell 0, HO6.cell 1, HO6.cell 2, HS6.cell 0⟩
    have HO7 := HO6.other (a := ⟨w.heap.size + 1, 0, none⟩) hne (.int .i64 0)
    have HS7 := HS6.set_ 0 (.int .i64 0)
    refine mix_store (w' := ((((w5.setCell ⟨w.heap.size, 0, none⟩ (.int .i64 0)).setCell ⟨w.heap.size, 1, none⟩ (.int .i64 0)).setCell ⟨w.heap.size, 2, none⟩ (.slice none 0 0)).setCell ⟨w.heap.size + 1, 0, none⟩ (.int .i64 0)).drew) (by rfl) (by rfl) (by rfl) ⟨?_⟩ ?_ ?_
    ·go_simp
    ·exact ⟨HO7.cell 0, HO7.cell 1, HO7.cell 2, HS7.cell 0⟩
    refine mix_nil ?_
    simp only [panicR]
    have R7 := (((((I5.rep.other (a := ⟨w.heap.size, 0, none⟩) os1 (.int .i64 0)).other (a := ⟨w.heap.size, 1, none⟩) os1 (.int .i64 0)).other (a := ⟨w.heap.size, 2, none⟩) os1 (.slice none 0 0)).other (a := ⟨w.heap.size + 1, 0, none⟩) os2 (.int .i64 0)).drewN 1)
    have B7 : Below w.heap.size w ((((w5.setCell ⟨w.heap.size, 0, none⟩ (.int .i64 0)).setCell ⟨w.heap.size, 1, none⟩ (.int .i64 0)).setCell ⟨w.heap.size, 2, none⟩ (.slice none 0 0)).setCell ⟨w.heap.size + 1, 0, none⟩ (.int .i64 0)).drew := below_drew ((((HB5.setCell (Nat.le_refl _) _).setCell (Nat.le_refl _) _).setCell (Nat.le_refl _) _).setCell (Nat.le_succ _) _)
    have P7 : ((((w5.setCell ⟨w.heap.size, 0, none⟩ (.int .i64 0)).setCell ⟨w.heap.size, 1, none⟩ (.int .i64 0)).setCell ⟨w.heap.size, 2, none⟩ (.slice none 0 0)).setCell ⟨w.heap.size + 1, 0, none⟩ (.int .i64 0)).drew.cell? ⟨p, 0, none⟩ = some (.pointer (some ⟨m, 0, none⟩)) := (far4 w5 w.heap.size (w.heap.size + 1) _ _ _ _ ⟨p, 0, none⟩ (by show p ≠ w.heap.size; omega) (by show p ≠ w.heap.size + 1; omega)).trans hP5
    have O7 := HO7.drewN 1
    have S7 := HS7.drewN 1
    have ALL := Aside0.mk (And.intro R7 (And.intro B7 (And.intro P7 (And.intro O7 (And.intro S7 (And.intro os1 (And.intro os2 hr)))))))
    clear R7 B7 P7 O7 S7 HO6 HS6 HO7 HS7 HO5 HS5 HB5 I5 hP5 os1 os2 hr e0' c0'
    go_wp2
    obtain ⟨R7, B7, P7, O7, S7, os1, os2, hr⟩ := ALL.out
    exact run_leaves _ (by rfl) (by rfl) (by rw [HRE.out, hr]; exact ⟨rfl, rfl, rfl⟩) _ (.inl ⟨rfl, rfl, rfl⟩) R7 P7 O7 S7 (by omega) (by omega) os1 os2 B7 (Nat.le_refl _) (by omega)
   ·intro ch a' w'' hPn hD h8 h9
    rcases CPost0.cases hPn with ⟨_, _, _, _, _, _, _, h, _⟩ | ⟨kd, cd, st', ch', hr, he, K, hc, S', L', x', hs, R⟩
    ·cases h
    injection he with he
    subst he
    obtain ⟨hP5, HO5, HS5, HB5⟩ := AFT.out w'' K
    obtain ⟨os1, os2⟩ := OUTS.out S' hs
    show Leaves Try.prog Try.f9 a'.tmps (RunPost (runP l inp fuel) w) a'.defers (.panicking ch) w''
    rw [hD]
    exact run_leaves a'.tmps h8 h9 (by rw [HRE.out, hr]; exact ⟨rfl, rfl, rfl⟩) _ (.inr ⟨ch, rfl, hc⟩) R hP5 HO5 HS5 (by omega) (by omega) os1 os2 HB5 (Nat.le_refl _) (by omega)
end Go.Proofs.Ytpphpcmbpbppoaa.Mach
end
section
namespace Go.Proofs.Ytpphpcmbpbppoaa.Mach
open Go.RowKit Go.Proofs.YtpphpcmbpbppoaaW.PrintWords Go.Proofs.YtpphpcmbpbppoaaW.PrintLast Go.Proofs.YtpphpcmbpbppoaaW.PrintMore
open Go.Proofs.Ytpphpcmbpbppoaa.Calm
open Go.Proofs.Ytpphpcmbpbppoaa.PMirFuel (S30 S57 S34 S37 S40 S43 S45 S48 k30 k57 k34 k37 k40 k43 k45 k48 rd_T30 rd_T57 rd_T34 rd_T37 rd_T40 rd_T43 rd_T45 rd_T48 at_T30 at_T57 at_T34 at_T40 at_T45 at_T48)
set_option linter.unusedVariables false
set_option linter.unusedSimpArgs false
open Go.Proofs.Ytpphpcmbpbppoaa.Form (SzL ckN chkB ckN_no ckN_yes ChkT.of forms_chk)
theorem XR_rel (l : List S48) {a b : Int} (hb : 0 ≤ b) (st : St) (at_ : List Int) (held : List Bool) (f : S48) : Rel b (XR l a.toNat st at_ held f) (XR l (a + b).toNat (up b st) at_ held f) :=
 exec_rel l hb a.toNat (a + b).toNat (by omega) st at_ held f 0 0
theorem runP_rel (l : List S48) (inp : List Int) (a b : Int) (hb : 0 ≤ b) : Rel b (runP l inp a) (runP l inp (a + b)) := by
 unfold runP
 by_cases hg : goodB l = true
 ·rw [if_pos hg, if_pos hg]
  exact callP_rel (fun st at_ held f => XR_rel l hb st at_ held f) (st0 a inp) [] _ []
 ·rw [if_neg hg, if_neg hg]
  exact .same_halt b 5 0 (st0 a inp)
theorem runP_steps (l : List S48) (inp : List Int) (a : Int) (h0 : 0 ≤ a) : (runP l inp a).st.steps ≤ a := by
 unfold runP
 by_cases hg : goodB l = true
 ·rw [if_pos hg]
  exact (callP_ex (fun st at_ held f => exec_ex l a.toNat st at_ held f 0 0) (st0 a inp) [] _ []).steps h0
 ·rw [if_neg hg]; exact h0
theorem runP_print (l : List S48) (inp : List Int) (a : Int) (h0 : 0 ≤ a) : ((runP l inp a).st.print.length : Int) ≤ a := by
 have h := runP_steps l inp a h0
 have hp : ((runP l inp a).st.print.length : Int) ≤ (runP l inp a).st.steps := by
  unfold runP
  by_cases hg : goodB l = true
  ·rw [if_pos hg]
   have h2 := (callP_pm (fun st at_ held f => exec_pm l a.toNat st at_ held f 0 0) (st0 a inp) [] (rd_T48 l (findP l mainT)) []).le
   simp only [st0] at h2
   simpa [st0] using h2
  ·rw [if_neg hg]; exact Int.le_refl _
 omega
def kindR : ResC → Int
 | .ok _ _ _ => 1
 | .halt k _ _ => k
def codeR : ResC → Int
 | .ok _ _ _ => 0
 | .halt _ c _ => c
theorem RunRes.tell {r : ResC} {kd cd : Int} {st : St} (h : RunRes r kd cd st) : kd = kindR r ∧ cd = codeR r ∧ st = r.st := by
 cases r with
 | ok st' h' o => exact h
 | halt k c st' => exact h
theorem Rel.same {d : Int} {R R' : ResC} (h : Rel d R R') (hk : kindR R ≠ 0) : kindR R' = kindR R ∧ codeR R' = codeR R ∧ R'.st.print = R.st.print ∧ R'.st.steps = R.st.steps := by
 cases R with
 | ok st h' o => rw [h.ok _ _ _ rfl]; exact ⟨rfl, rfl, rfl, rfl⟩
 | halt k c st => rw [h.halt _ _ _ rfl hk]; exact ⟨rfl, rfl, rfl, rfl⟩
theorem runP_bad {l : List S48} (inp : List Int) (a : Int) (h : ckN l ≠ 0) : kindR (runP l inp a) = 5 ∧ (runP l inp a).st.print = [] ∧ (runP l inp a).st.steps = 0 := by
 have hc : chkB l = false := by
  cases hc : chkB l with
  | false => rfl
  | true => exact absurd (ckN_yes hc) h
 have hg : ¬ goodB l = true := by simp [goodB, hc]
 have e : runP l inp a = .halt 5 0 (st0 a inp) := if_neg hg
 rw [e]
 exact ⟨rfl, rfl, rfl⟩
theorem ckN_two (l : List S48) : ckN l = 0 ∨ ckN l = 10 := by
 cases hc : chkB l with
 | false => exact .inr (ckN_no hc)
 | true => exact .inl (ckN_yes hc)
structure FuelFacts (l : List S48) (a b k1 c1 n1 k2 c2 n2 : Int) (p1 p2 : List Int) : Prop where
 s1 : n1 ≤ a
 s2 : n2 ≤ a + b
 l1 : (p1.length : Int) ≤ a
 l2 : (p2.length : Int) ≤ a + b
 pr : p1 <+: p2
 same : k1 ≠ 0 → k2 = k1 ∧ c2 = c1 ∧ p2 = p1 ∧ n2 = n1
 bad : ckN l ≠ 0 → k1 = 5 ∧ p1 = [] ∧ n1 = 0
theorem fuel_facts (l : List S48) (inp : List Int) (a b : Int) (ha : 0 ≤ a) (hb : 0 ≤ b) :
  FuelFacts l a b (kindR (runP l inp a)) (codeR (runP l inp a)) (runP l inp a).st.steps (kindR (runP l inp (a + b))) (codeR (runP l inp (a + b))) (runP l inp (a + b)).st.steps (runP l inp a).st.print (runP l inp (a + b)).st.print :=
 have R := runP_rel l inp a b hb
 ⟨runP_steps l inp a ha, runP_steps l inp (a + b) (by omega), runP_print l inp a ha, runP_print l inp (a + b) (by omega), R.pr, R.same, runP_bad inp a⟩
def fst48 : S48 := ⟨mainT, [], 0, 0, false, [⟨[⟨13, 0, ⟨true, -1⟩, ⟨false, 0⟩, ⟨0, []⟩, ⟨0, []⟩, 1, ⟨#[]⟩, ⟨0, ⟨#[]⟩, 0, []⟩, [], []⟩], ⟨4, ⟨false, 0⟩, 0, 0, []⟩⟩]⟩
theorem fst_sz : SzL [fst48] := by
 refine ⟨by decide, fun f hf => ?_⟩
 obtain rfl : f = fst48 := by simpa using hf
 refine ⟨by decide, by decide, fun B hB => ?_⟩
 simp only [fst48, List.mem_cons, List.not_mem_nil, or_false] at hB
 subst hB
 refine ⟨by decide, by decide, fun s hs => ?_⟩
 simp only [List.mem_cons, List.not_mem_nil, or_false] at hs
 subst hs
 exact ⟨by decide, by decide, by decide, by decide, by decide, trivial⟩
theorem fst_lc : ∀ k : Int, 0 ≤ k → k < ([fst48] : List S48).length → (rd_T48 [fst48] k).f1.length ≤ 5001 := by
 intro k h0 h1
 obtain rfl : k = 0 := by simp at h1; omega
 decide
theorem fst_run : kindR (runP [fst48] [] 5) = 1 ∧ codeR (runP [fst48] [] 5) = 101 ∧ (runP [fst48] [] 5).st.print = [4294967295] ∧ (runP [fst48] [] 5).st.steps = 2 := by
 refine ⟨?_, ?_, ?_, ?_⟩ <;> kernel_rfl
end Go.Proofs.Ytpphpcmbpbppoaa.Mach
end
section
namespace Go.Proofs.Ytpphpcmbpbppoaa.PMirFuel
open Go.RowKit Go.Proofs.YtpphpcmbpbppoaaW.PrintWords Go.Proofs.YtpphpcmbpbppoaaW.PrintLast Go.Proofs.YtpphpcmbpbppoaaW.PrintMore
attribute [local go_sem] max2_int min2_int max_two min_two max_three min_three max_four min_four   
set_option linter.unusedVariables false
set_option linter.unusedSimpArgs false
mutual
def ferrulelaw12_Great.l0 : Nat → List (S48) → Int → Int → Option (Int)
 | 0, _, _, _ => none
 | k + 1, x0, x3, x4 => if x4 < (x0.length : Int) then (ferrulelaw12_Great.l1 k x0 x3 x4 0) else (some 0)
def ferrulelaw12_Great.l1 : Nat → List (S48) → Int → Int → Int → Option (Int)
 | 0, _, _, _, _ => none
 | k + 1, x0, x3, x4, x5 => if 0 ≤ x4 then (if x4 < (x0.length : Int) then (if x5 < (((rd_T48 x0 x4).f1).length : Int) then (if 0 ≤ x5 then (if (rd ((rd_T48 x0 x4).f1) x5) > 1000 then (ferrulelaw12_Great.j2 k x0 x3 x4 x5 (rd ((rd_T48 x0 x4).f1) x5) true) else (ferrulelaw12_Great.j2 k x0 x3 x4 x5 (rd ((rd_T48 x0 x4).f1) x5) (decide (x3 > 5000)))) else (none)) else (ferrulelaw12_Great.l0 k x0 x3 (wrap64 (x4 + 1)))) else (none)) else (none)
def ferrulelaw12_Great.j2 : Nat → List (S48) → Int → Int → Int → Int → Bool → Option (Int)
 | 0, _, _, _, _, _, _ => none
 | k + 1, x0, x3, x4, x5, x6, x36 => if x36 = true then (some 1) else (if x6 > 0 then (ferrulelaw12_Great.l1 k x0 (wrap64 ((wrap64 (x3 + x6)) + 1)) x4 (wrap64 (x5 + 1))) else (ferrulelaw12_Great.l1 k x0 (wrap64 (x3 + 1)) x4 (wrap64 (x5 + 1))))
end
def ferrulelaw12_Great.f (k : Nat) (l0 : List (S48)) : Option (Int) := ferrulelaw12_Great.l0 k l0 0 0
theorem ferrulelaw12_Great.mono_l : ∀ k, (∀ y0 y1 y2, LeO (ferrulelaw12_Great.l0 k y0 y1 y2) (ferrulelaw12_Great.l0 (k + 1) y0 y1 y2)) ∧ (∀ y0 y1 y2 y3, LeO (ferrulelaw12_Great.l1 k y0 y1 y2 y3) (ferrulelaw12_Great.l1 (k + 1) y0 y1 y2 y3)) ∧ (∀ y0 y1 y2 y3 y4 y5, LeO (ferrulelaw12_Great.j2 k y0 y1 y2 y3 y4 y5) (ferrulelaw12_Great.j2 (k + 1) y0 y1 y2 y3 y4 y5))
 | 0 => ⟨fun _ _ _ r h => by simp [ferrulelaw12_Great.l0] at h, fun _ _ _ _ r h => by simp [ferrulelaw12_Great.l1] at h, fun _ _ _ _ _ _ r h => by simp [ferrulelaw12_Great.j2] at h⟩
 | k + 1 => by
  obtain ⟨ih0, ih1, ih2⟩ := ferrulelaw12_Great.mono_l k
  refine ⟨?_, ?_, ?_⟩
  ·intro y0 y1 y2
   unfold ferrulelaw12_Great.l0
   repeat' first
   | (with_reducible exact ih0 _ _ _)
   | (with_reducible exact ih1 _ _ _ _)
   | (with_reducible exact ih2 _ _ _ _ _ _)
   | (with_reducible exact LeO.refl _)
   | (with_reducible exact LeO.none _)
   | (with_reducible refine LeO.ite ?_ ?_)
   | (with_reducible refine LeO.bind ?_ (fun _ => ?_))
   | exact ih0 _ _ _
   | exact ih1 _ _ _ _
   | exact ih2 _ _ _ _ _ _
   | exact LeO.none _
   | refine LeO.ite ?_ ?_
   | refine LeO.bind ?_ (fun _ => ?_)
  ·intro y0 y1 y2 y3
   unfold ferrulelaw12_Great.l1
   repeat' first
   | (with_reducible exact ih0 _ _ _)
   | (with_reducible exact ih1 _ _ _ _)
   | (with_reducible exact ih2 _ _ _ _ _ _)
   | (with_reducible exact LeO.refl _)
   | (with_reducible exact LeO.none _)
   | (with_reducible refine LeO.ite ?_ ?_)
   | (with_reducible refine LeO.bind ?_ (fun _ => ?_))
   | exact ih0 _ _ _
   | exact ih1 _ _ _ _
   | exact ih2 _ _ _ _ _ _
   | exact LeO.none _
   | refine LeO.ite ?_ ?_
   | refine LeO.bind ?_ (fun _ => ?_)
  ·intro y0 y1 y2 y3 y4 y5
   unfold ferrulelaw12_Great.j2
   repeat' first
   | (with_reducible exact ih0 _ _ _)
   | (with_reducible exact ih1 _ _ _ _)
   | (with_reducible exact ih2 _ _ _ _ _ _)
   | (with_reducible exact LeO.refl _)
   | (with_reducible exact LeO.none _)
   | (with_reducible refine LeO.ite ?_ ?_)
   | (with_reducible refine LeO.bind ?_ (fun _ => ?_))
   | exact ih0 _ _ _
   | exact ih1 _ _ _ _
   | exact ih2 _ _ _ _ _ _
   | exact LeO.none _
   | refine LeO.ite ?_ ?_
   | refine LeO.bind ?_ (fun _ => ?_)
theorem ferrulelaw12_Great.mono : ∀ a0 k, LeO (ferrulelaw12_Great.f k a0) (ferrulelaw12_Great.f (k + 1) a0) := by
 intro a0 k
 obtain ⟨ih0, ih1, ih2⟩ := ferrulelaw12_Great.mono_l k
 unfold ferrulelaw12_Great.f
 repeat' first
   | (with_reducible exact ih0 _ _ _)
   | (with_reducible exact ih1 _ _ _ _)
   | (with_reducible exact ih2 _ _ _ _ _ _)
   | (with_reducible exact LeO.refl _)
   | (with_reducible exact LeO.none _)
   | (with_reducible refine LeO.ite ?_ ?_)
   | (with_reducible refine LeO.bind ?_ (fun _ => ?_))
   | exact ih0 _ _ _
   | exact ih1 _ _ _ _
   | exact ih2 _ _ _ _ _ _
   | exact LeO.none _
   | refine LeO.ite ?_ ?_
   | refine LeO.bind ?_ (fun _ => ?_)
set_option maxHeartbeats 8000000 in
set_option maxRecDepth 100000 in
theorem ferrulelaw12_Great.calls (k : Nat) (A0 : Option Addr) (c0 : Nat) (l0 : List (S48)) (r : Int) (w : World) (hr0 : Kd.C k48 w A0 l0.length l0) (hc0 : l0.length ≤ c0) (h : ferrulelaw12_Great.f k l0 = some r) :
  Calls Try.prog 12 #[.slice A0 l0.length c0] w fun e w' => e = .returned (.int .i64 r) ∧ Drawn0 w w' := by
 have HR0 := Aside0.mk hr0
 have HC0 := Aside0.mk hc0
 clear hr0 hc0
 have H : (ferrulelaw12_Great.l0 k l0 0 0) = some r := h
 clear h
 have H' := Aside0.mk H
 clear H
 go_enter Try.func12, Try.ntmps12
 go_wp2
 go_loopg [3, 4] k (fun kq v3 v4 w' => ∃ (x3_1 : Int) (x4_1 : Int), v3 = .int .i64 x3_1 ∧ v4 = .int .i64 x4_1 ∧ Aside0 (ferrulelaw12_Great.l0 kq l0 x3_1 x4_1 = some r) ∧ Aside0 (kq ≤ k) ∧ Drawn0 w w')
 case atStart => exact ⟨(0), (0), (by first | rfl | (simp; done) | (simp [*]; done)), (by first | rfl | (simp; done) | (simp [*]; done)), H', ⟨Nat.le_refl _⟩, by repeat (first | exact Drawn0.refl _ | apply Drawn0.step)⟩
 case round =>
  clear H'
  try clear c1
  obtain ⟨x3_1, x4_1, rfl, rfl, HA, HK1, ⟨m1, rfl⟩⟩ := hrel
  cases gk with
  | zero => exact absurd HA.out (by simp [ferrulelaw12_Great.l0])
  | succ k1 =>
   have H := HA.out
   clear HA
   simp only [ferrulelaw12_Great.l0] at H
   by_cases c2 : x4_1 < (l0.length : Int)
   ·rw [if_pos c2] at H
    have c2b0 : decide (x4_1 < (l0.length : Int)) = true := decide_eq_true c2
    clear c2
    have H' := Aside0.mk H
    clear H
    go_wp2
    go_loopg [3, 5] k1 (fun kq v3 v5 w' => ∃ (x3_2 : Int) (x5_2 : Int), v3 = .int .i64 x3_2 ∧ v5 = .int .i64 x5_2 ∧ Aside0 (ferrulelaw12_Great.l1 kq l0 x3_2 x4_1 x5_2 = some r) ∧ Aside0 (kq ≤ k1) ∧ Drawn0 w w')
    case atStart => exact ⟨(x3_1), (0), (by first | rfl | (simp; done) | (simp [*]; done)), (by first | rfl | (simp; done) | (simp [*]; done)), H', ⟨Nat.le_refl _⟩, by repeat (first | exact Drawn0.refl _ | apply Drawn0.step)⟩
    case round =>
     clear H'
     try clear c1
     try clear c2
     try clear c2b0
     try clear p2
     obtain ⟨x3_2, x5_2, rfl, rfl, HA, HK2, ⟨m2, rfl⟩⟩ := hrel
     cases gk with
     | zero => exact absurd HA.out (by simp [ferrulelaw12_Great.l1])
     | succ k2 =>
      have H := HA.out
      clear HA
      simp only [ferrulelaw12_Great.l1] at H
      by_cases c3 : 0 ≤ x4_1
      ·rw [if_pos c3] at H
       have c3b0 : decide (0 ≤ x4_1) = true := decide_eq_true c3
       clear c3
       by_cases c4 : x4_1 < (l0.length : Int)
       ·rw [if_pos c4] at H
        have c4b0 : decide (x4_1 < (l0.length : Int)) = true := decide_eq_true c4
        clear c4
        by_cases c5 : x5_2 < (((rd_T48 l0 x4_1).f1).length : Int)
        ·rw [if_pos c5] at H
         have c5b0 : decide (x5_2 < (((rd_T48 l0 x4_1).f1).length : Int)) = true := decide_eq_true c5
         clear c5
         by_cases c6 : 0 ≤ x5_2
         ·rw [if_pos c6] at H
          have c6b0 : decide (0 ≤ x5_2) = true := decide_eq_true c6
          clear c6
          have HC7 := Aside0.mk H
          clear H
          have p202 : 0 ≤ (x4_1 : Int) := of_decide_eq_true (by first | (with_reducible assumption) | assumption)
          have q202 : x4_1 < (l0.length : Int) := of_decide_eq_true (by first | (with_reducible assumption) | assumption)
          obtain ⟨ad202, A202_1, c202_1, A202_5, c202_5, e202, hx202_0, hx202_1, hx202_2, hx202_3, hx202_4, hx202_5, hl202_1, hi202_1, hl202_5, hi202_5⟩ := at_T48 HR0.out x4_1 p202 q202
          cases e202
          have HR202_1 := Aside0.mk hi202_1
          have HC202_1 := Aside0.mk hl202_1
          clear hi202_1 hl202_1
          have HR202_5 := Aside0.mk hi202_5
          have HC202_5 := Aside0.mk hl202_5
          clear hi202_5 hl202_5
          replace p202 := eq_true p202
          replace q202 := eq_true q202
          have p203 : 0 ≤ (x4_1 : Int) := of_decide_eq_true (by first | (with_reducible assumption) | assumption)
          have q203 : x4_1 < (l0.length : Int) := of_decide_eq_true (by first | (with_reducible assumption) | assumption)
          obtain ⟨ad203, A203_1, c203_1, A203_5, c203_5, e203, hx203_0, hx203_1, hx203_2, hx203_3, hx203_4, hx203_5, hl203_1, hi203_1, hl203_5, hi203_5⟩ := at_T48 HR0.out x4_1 p203 q203
          obtain rfl : ad202 = ad203 := (by injection e203)
          have HR203_1 := Aside0.mk hi203_1
          have HC203_1 := Aside0.mk hl203_1
          clear hi203_1 hl203_1
          have HR203_5 := Aside0.mk hi203_5
          have HC203_5 := Aside0.mk hl203_5
          clear hi203_5 hl203_5
          replace p203 := eq_true p203
          replace q203 := eq_true q203
          have ea_ := Option.some.inj (hx202_1.symm.trans hx203_1)
          injection ea_ with ea_ en_ ec_
          subst ea_
          subst ec_
          clear en_
          have ea_ := Option.some.inj (hx202_5.symm.trans hx203_5)
          injection ea_ with ea_ en_ ec_
          subst ea_
          subst ec_
          clear en_
          have p204 : 0 ≤ (x5_2 : Int) := of_decide_eq_true (by first | (with_reducible assumption) | assumption)
          have q204 : x5_2 < (((rd_T48 l0 x4_1).f1).length : Int) := of_decide_eq_true (by first | (with_reducible assumption) | assumption)
          obtain ⟨ad204, e204, hx204_0⟩ := Kd.at_int HR203_1.out x5_2 p204 q204
          cases e204
          replace p204 := eq_true p204
          replace q204 := eq_true q204
          go_upto_region 9 with (fail)
          go_cut [36] (fun v36 wc => ∃ (kq : Nat) (x36_6 : Bool), v36 = .bool x36_6 ∧ Aside0 (ferrulelaw12_Great.j2 kq l0 x3_2 x4_1 x5_2 (rd ((rd_T48 l0 x4_1).f1) x5_2) x36_6 = some r) ∧ Aside0 (kq ≤ k2) ∧ Drawn0 w wc)
          case first =>
           have H := HC7.out
           clear HC7
           by_cases c8 : (rd ((rd_T48 l0 x4_1).f1) x5_2) > 1000
           ·rw [if_pos c8] at H
            have c8b0 : decide (1000 < (rd ((rd_T48 l0 x4_1).f1) x5_2)) = true := decide_eq_true c8
            clear c8
            (first | rw [c8b0] | (simp only [i64_w, i32_w]; rw [c8b0]) | skip)
            have H' := Aside0.mk H
            clear H
            go_wp2
            go_meet
            case rel => exact ⟨_, (true), (by first | rfl | (simp; done) | (simp [*]; done)), H', ⟨by have := HK1.out; have := HK2.out; first | omega | exact Nat.le_refl _⟩, by repeat (first | exact Drawn0.refl _ | apply Drawn0.step)⟩
           ·rw [if_neg c8] at H
            have c8b0 : decide (1000 < (rd ((rd_T48 l0 x4_1).f1) x5_2)) = false := decide_eq_false c8
            clear c8
            (first | rw [c8b0] | (simp only [i64_w, i32_w]; rw [c8b0]) | skip)
            have H' := Aside0.mk H
            clear H
            go_wp2
            go_meet
            case rel => exact ⟨_, (decide (x3_2 > 5000)), (by first | rfl | (simp; done) | (simp [*]; done)), H', ⟨by have := HK1.out; have := HK2.out; first | omega | exact Nat.le_refl _⟩, by repeat (first | exact Drawn0.refl _ | apply Drawn0.step)⟩
          case rest =>
           clear HC7
           try clear c1
           try clear c2
           try clear c2b0
           try clear p2
           try clear q2
           try clear hx2
           try clear c3
           try clear c3b0
           try clear c4
           try clear c4b0
           try clear c5
           try clear c5b0
           try clear c6
           try clear c6b0
           try clear c8
           try clear c8b0
           try clear hx202_0
           try clear hx202_1
           try clear hx202_2
           try clear hx202_3
           try clear hx202_4
           try clear hx202_5
           try clear hx203_0
           try clear hx203_1
           try clear hx203_2
           try clear hx203_3
           try clear hx203_4
           try clear hx203_5
           try clear hx204_0
           try clear p2
           try clear p202
           try clear p203
           try clear p204
           try clear q202
           try clear q203
           try clear q204
           obtain ⟨kq, x36_6, rfl, HA, HJ6, ⟨mc6, rfl⟩⟩ := hcut
           cases kq with
           | zero => exact absurd HA.out (by simp [ferrulelaw12_Great.j2])
           | succ kj6 =>
            have H := HA.out
            clear HA
            simp only [ferrulelaw12_Great.j2] at H
            by_cases c9 : x36_6 = true
            ·subst c9
             have H1 : (some 1) = some r := by rw [if_pos rfl] at H; exact H
             clear H
             have H := H1
             clear H1
             obtain rfl := Option.some.inj H
             go_wp2
             go_ret
             exact ⟨by first | rfl | (simp; done) | (simp [*]; done), by repeat (first | exact Drawn0.refl _ | apply Drawn0.step)⟩
            ·replace c9 := Bool.eq_false_iff.mpr c9
             subst c9
             have H1 : (if (rd ((rd_T48 l0 x4_1).f1) x5_2) > 0 then (ferrulelaw12_Great.l1 kj6 l0 (wrap64 ((wrap64 (x3_2 + (rd ((rd_T48 l0 x4_1).f1) x5_2))) + 1)) x4_1 (wrap64 (x5_2 + 1))) else (ferrulelaw12_Great.l1 kj6 l0 (wrap64 (x3_2 + 1)) x4_1 (wrap64 (x5_2 + 1)))) = some r := by rw [if_neg (show ¬ (false = true) by decide)] at H; exact H
             clear H
             have H := H1
             clear H1
             by_cases c10 : (rd ((rd_T48 l0 x4_1).f1) x5_2) > 0
             ·rw [if_pos c10] at H
              have c10b0 : decide (0 < (rd ((rd_T48 l0 x4_1).f1) x5_2)) = true := decide_eq_true c10
              clear c10
              have H' := Aside0.mk H
              clear H
              go_wp2
              go_roundg kj6
              case measure => have := HK1.out; have := HK2.out; have := HJ6.out; omega
              case rel => exact ⟨(wrap64 ((wrap64 (x3_2 + (rd ((rd_T48 l0 x4_1).f1) x5_2))) + 1)), (wrap64 (x5_2 + 1)), (by first | rfl | (simp; done) | (simp [*]; done)), (by first | rfl | (simp; done) | (simp [*]; done)), H', ⟨by have := HK1.out; have := HK2.out; have := HJ6.out; omega⟩, by repeat (first | exact Drawn0.refl _ | apply Drawn0.step)⟩
             ·rw [if_neg c10] at H
              have c10b0 : decide (0 < (rd ((rd_T48 l0 x4_1).f1) x5_2)) = false := decide_eq_false c10
              clear c10
              have H' := Aside0.mk H
              clear H
              go_wp2
              go_roundg kj6
              case measure => have := HK1.out; have := HK2.out; have := HJ6.out; omega
              case rel => exact ⟨(wrap64 (x3_2 + 1)), (wrap64 (x5_2 + 1)), (by first | rfl | (simp; done) | (simp [*]; done)), (by first | rfl | (simp; done) | (simp [*]; done)), H', ⟨by have := HK1.out; have := HK2.out; have := HJ6.out; omega⟩, by repeat (first | exact Drawn0.refl _ | apply Drawn0.step)⟩
         ·rw [if_neg c6] at H
          exact absurd H (by simp)
        ·rw [if_neg c5] at H
         have c5b0 : decide (x5_2 < (((rd_T48 l0 x4_1).f1).length : Int)) = false := decide_eq_false c5
         clear c5
         have H' := Aside0.mk H
         clear H
         have p202 : 0 ≤ (x4_1 : Int) := of_decide_eq_true (by first | (with_reducible assumption) | assumption)
         have q202 : x4_1 < (l0.length : Int) := of_decide_eq_true (by first | (with_reducible assumption) | assumption)
         obtain ⟨ad202, A202_1, c202_1, A202_5, c202_5, e202, hx202_0, hx202_1, hx202_2, hx202_3, hx202_4, hx202_5, hl202_1, hi202_1, hl202_5, hi202_5⟩ := at_T48 HR0.out x4_1 p202 q202
         cases e202
         have HR202_1 := Aside0.mk hi202_1
         have HC202_1 := Aside0.mk hl202_1
         clear hi202_1 hl202_1
         have HR202_5 := Aside0.mk hi202_5
         have HC202_5 := Aside0.mk hl202_5
         clear hi202_5 hl202_5
         replace p202 := eq_true p202
         replace q202 := eq_true q202
         go_wp2
         go_roundg k2
         case measure => have := HK1.out; have := HK2.out; omega
         case rel => exact ⟨(x3_2), (wrap64 (x4_1 + 1)), (by first | rfl | (simp; done) | (simp [*]; done)), (by first | rfl | (simp; done) | (simp [*]; done)), H', ⟨by have := HK1.out; have := HK2.out; omega⟩, by repeat (first | exact Drawn0.refl _ | apply Drawn0.step)⟩
       ·rw [if_neg c4] at H
        exact absurd H (by simp)
      ·rw [if_neg c3] at H
       exact absurd H (by simp)
   ·rw [if_neg c2] at H
    have c2b0 : decide (x4_1 < (l0.length : Int)) = false := decide_eq_false c2
    clear c2
    obtain rfl := Option.some.inj H
    go_wp2
    go_ret
    exact ⟨by first | rfl | (simp; done) | (simp [*]; done), by repeat (first | exact Drawn0.refl _ | apply Drawn0.step)⟩
end Go.Proofs.Ytpphpcmbpbppoaa.PMirFuel
end
section
namespace Go.Proofs.Ytpphpcmbpbppoaa.PMirFuel
open Go.RowKit Go.Proofs.YtpphpcmbpbppoaaW.PrintWords Go.Proofs.YtpphpcmbpbppoaaW.PrintLast Go.Proofs.YtpphpcmbpbppoaaW.PrintMore
set_option linter.unusedVariables false
set_option linter.unusedSimpArgs false
def GreR (Q : Prop) (r : Int) : Prop := (r = 0 ∨ r = 1) ∧ (r = 0 → Q)
theorem great_l1 (l : List S48) (i : Int) (i0 : 0 ≤ i) (i1 : i < l.length) (hn : l.length < 4611686018427387904) (hl : (rd_T48 l i).f1.length < 4611686018427387904) (Q : Prop)
  (NX : ∀ n : Int, 0 ≤ n → n ≤ 6001 → ∃ K r, ferrulelaw12_Great.l0 K l n (i + 1) = some r ∧ GreR Q r) :
  ∀ (m : Nat) (j n : Int), ((rd_T48 l i).f1.length : Int) - j = m → 0 ≤ j → 0 ≤ n → n ≤ 6001 →
   ∃ K r, ferrulelaw12_Great.l1 K l n i j = some r ∧ GreR ((((rd_T48 l i).f1.length : Int) - j ≤ 0 ∨ ((rd_T48 l i).f1.length : Int) - j ≤ 5001 - n) ∧ Q) r
 | 0, j, n, hm, h0, n0, n1 => by
  obtain ⟨K, r, hr, h1, h2⟩ := NX n n0 n1
  refine ⟨K + 1, r, ?_, h1, fun h => ⟨.inl (by omega), h2 h⟩⟩
  unfold ferrulelaw12_Great.l1
  rw [if_pos i0, if_pos i1, if_neg (by omega), show wrap64 (i + 1) = i + 1 by unfold wrap64; omega]
  exact hr
 | m + 1, j, n, hm, h0, n0, n1 => by
  have hj : j < ((rd_T48 l i).f1.length : Int) := by omega
  have step : ∀ (x : Int) (b : Bool), ∀ K, ferrulelaw12_Great.l1 (K + 1) l n i j = (if rd (rd_T48 l i).f1 j > 1000 then ferrulelaw12_Great.j2 K l n i j (rd (rd_T48 l i).f1 j) true else ferrulelaw12_Great.j2 K l n i j (rd (rd_T48 l i).f1 j) (decide (n > 5000))) := by
   intro x b K
   conv => lhs; unfold ferrulelaw12_Great.l1
   rw [if_pos i0, if_pos i1, if_pos hj, if_pos h0]
  by_cases hw : rd (rd_T48 l i).f1 j > 1000
  ·refine ⟨2, 1, ?_, .inr rfl, fun h => absurd h (by omega)⟩
   rw [step 0 true 1, if_pos hw]
   rfl
  by_cases hq : n > 5000
  ·refine ⟨2, 1, ?_, .inr rfl, fun h => absurd h (by omega)⟩
   rw [step 0 true 1, if_neg hw, decide_eq_true hq]
   rfl
  by_cases hp : rd (rd_T48 l i).f1 j > 0
  ·obtain ⟨K, r, hr, h1, h2⟩ := great_l1 l i i0 i1 hn hl Q NX m (j + 1) (n + rd (rd_T48 l i).f1 j + 1) (by omega) (by omega) (by omega) (by omega)
   refine ⟨K + 2, r, ?_, h1, fun h => ⟨?_, (h2 h).2⟩⟩
   ·rw [step 0 true (K + 1), if_neg hw, decide_eq_false hq]
    show (if false = true then some 1 else if rd (rd_T48 l i).f1 j > 0 then ferrulelaw12_Great.l1 K l (wrap64 (wrap64 (n + rd (rd_T48 l i).f1 j) + 1)) i (wrap64 (j + 1)) else ferrulelaw12_Great.l1 K l (wrap64 (n + 1)) i (wrap64 (j + 1))) = some r
    rw [if_neg (by decide), if_pos hp, show wrap64 (n + rd (rd_T48 l i).f1 j) = n + rd (rd_T48 l i).f1 j by unfold wrap64; omega, show wrap64 (n + rd (rd_T48 l i).f1 j + 1) = n + rd (rd_T48 l i).f1 j + 1 by unfold wrap64; omega, show wrap64 (j + 1) = j + 1 by unfold wrap64; omega]
    exact hr
   ·rcases (h2 h).1 with h3 | h3
    ·exact .inr (by omega)
    ·exact .inr (by omega)
  ·obtain ⟨K, r, hr, h1, h2⟩ := great_l1 l i i0 i1 hn hl Q NX m (j + 1) (n + 1) (by omega) (by omega) (by omega) (by omega)
   refine ⟨K + 2, r, ?_, h1, fun h => ⟨?_, (h2 h).2⟩⟩
   ·rw [step 0 true (K + 1), if_neg hw, decide_eq_false hq]
    show (if false = true then some 1 else if rd (rd_T48 l i).f1 j > 0 then ferrulelaw12_Great.l1 K l (wrap64 (wrap64 (n + rd (rd_T48 l i).f1 j) + 1)) i (wrap64 (j + 1)) else ferrulelaw12_Great.l1 K l (wrap64 (n + 1)) i (wrap64 (j + 1))) = some r
    rw [if_neg (by decide), if_neg hp, show wrap64 (n + 1) = n + 1 by unfold wrap64; omega, show wrap64 (j + 1) = j + 1 by unfold wrap64; omega]
    exact hr
   ·rcases (h2 h).1 with h3 | h3
    ·exact .inr (by omega)
    ·exact .inr (by omega)
theorem great_l0 (l : List S48) (hn : l.length < 4611686018427387904) (hl : ∀ k : Int, (rd_T48 l k).f1.length < 4611686018427387904) :
  ∀ (m : Nat) (i n : Int), (l.length : Int) - i = m → 0 ≤ i → 0 ≤ n → n ≤ 6001 →
   ∃ K r, ferrulelaw12_Great.l0 K l n i = some r ∧ GreR (∀ k : Int, i ≤ k → k < l.length → (rd_T48 l k).f1.length ≤ 5001) r
 | 0, i, n, hm, h0, n0, n1 => by
  refine ⟨1, 0, ?_, .inl rfl, fun _ k hk hk2 => by omega⟩
  unfold ferrulelaw12_Great.l0
  rw [if_neg (by omega)]
 | m + 1, i, n, hm, h0, n0, n1 => by
  obtain ⟨K, r, hr, h1, h2⟩ := great_l1 l i h0 (by omega) hn (hl i) (∀ k : Int, i + 1 ≤ k → k < l.length → (rd_T48 l k).f1.length ≤ 5001)
   (fun n n0 n1 => great_l0 l hn hl m (i + 1) n (by omega) (by omega) n0 n1) (rd_T48 l i).f1.length 0 n (by omega) (Int.le_refl 0) n0 n1
  refine ⟨K + 1, r, ?_, h1, fun h k hk hk2 => ?_⟩
  ·unfold ferrulelaw12_Great.l0
   rw [if_pos (by omega)]
   exact hr
  ·by_cases e : k = i
   ·subst e
    have := (h2 h).1
    omega
   ·exact (h2 h).2 k (by omega) hk2
theorem great_f (l : List S48) (hn : l.length < 4611686018427387904) (hl : ∀ k : Int, (rd_T48 l k).f1.length < 4611686018427387904) :
  ∃ K r, ferrulelaw12_Great.f K l = some r ∧ (r = 0 ∨ r = 1) ∧ (r = 0 → ∀ k : Int, 0 ≤ k → k < l.length → (rd_T48 l k).f1.length ≤ 5001) :=
 great_l0 l hn hl l.length 0 0 (by omega) (Int.le_refl 0) (Int.le_refl 0) (by omega)
end Go.Proofs.Ytpphpcmbpbppoaa.PMirFuel
end
section
namespace Go.Proofs.Ytpphpcmbpbppoaa.Mach
open Go.RowKit Go.Proofs.YtpphpcmbpbppoaaW.PrintWords Go.Proofs.YtpphpcmbpbppoaaW.PrintLast Go.Proofs.YtpphpcmbpbppoaaW.PrintMore
open Go.Proofs.Ytpphpcmbpbppoaa.Calm
open Go.Proofs.Ytpphpcmbpbppoaa.PMirFuel (S30 S57 S34 S37 S40 S43 S45 S48 k30 k57 k34 k37 k40 k43 k45 k48 rd_T30 rd_T57 rd_T34 rd_T37 rd_T40 rd_T43 rd_T45 rd_T48 at_T30 at_T57 at_T34 at_T40 at_T45 at_T48)
set_option linter.unusedVariables false
set_option linter.unusedSimpArgs false
open Go.Proofs.Ytpphpcmbpbppoaa.PMirFuel (z30 z34 z37 z40)
namespace LawP
def S (o : St) (pre : List Int) (a b c : Int) : St := { o with stack := pre ++ [a, b, c] }
section
variable {o : St} {pre : List Int} {a b c : Int} {h : List Bool}
end
end LawP
end Go.Proofs.Ytpphpcmbpbppoaa.Mach
end
section
namespace Go.Proofs.Ytpphpcmbpbppoaa.Mach
open Go.RowKit Go.Proofs.YtpphpcmbpbppoaaW.PrintWords Go.Proofs.YtpphpcmbpbppoaaW.PrintLast Go.Proofs.YtpphpcmbpbppoaaW.PrintMore
open Go.Proofs.Ytpphpcmbpbppoaa.Calm
open Go.Proofs.Ytpphpcmbpbppoaa.PMirFuel (S30 S57 S34 S37 S40 S43 S45 S48 k30 k57 k34 k37 k40 k43 k45 k48 rd_T30 rd_T57 rd_T34 rd_T37 rd_T40 rd_T43 rd_T45 rd_T48 at_T30 at_T57 at_T34 at_T40 at_T45 at_T48)
set_option linter.unusedVariables false
set_option linter.unusedSimpArgs false
open Go.Proofs.Ytpphpcmbpbppoaa.Form
theorem same_l (a b c d : Int) (l : List Int) (hl : l.length < 4611686018427387904) : ∀ (k i : Nat), i ≤ l.length → l.length - i < k → PMirFuel.ferruleref10_Same.l0 k (i : Int) a b l c d l = some true := by
 intro k
 induction k with
 | zero => intro i _ h; omega
 | succ k ih =>
  intro i hi hk
  unfold PMirFuel.ferruleref10_Same.l0
  by_cases h : i < l.length
  ·rw [if_pos (by omega), if_pos (by omega), if_pos (by omega), if_pos rfl, show wrap64 ((i : Int) + 1) = ((i + 1 : Nat) : Int) by unfold wrap64; omega]
   exact ih _ (by omega) (by omega)
  ·rw [if_neg (by omega)]
theorem same_f (a b : Int) (l : List Int) (hl : l.length < 4611686018427387904) : PMirFuel.ferruleref10_Same.f (l.length + 2) a b l a b l = some true := by
 unfold PMirFuel.ferruleref10_Same.f
 rw [if_pos rfl, if_pos rfl]
 show (if ((l.length : Int) != (l.length : Int)) = true then some false else PMirFuel.ferruleref10_Same.l0 (l.length + 1) 0 a b l a b l) = some true
 rw [if_neg (by simp)]
 exact same_l a b a b l hl _ 0 (by omega) (by omega)
theorem same_said (a b : Int) (l : List Int) (A0 A1 : Option Addr) (c0 c1 : Nat) (w : World) (hl : l.length < 4611686018427387904) (h0 : Kd.C (Kd.int .i64) w A0 l.length l) (n0 : l.length ≤ c0) (h1 : Kd.C (Kd.int .i64) w A1 l.length l) (n1 : l.length ≤ c1) :
  Calls Try.prog 11 #[.agg #[.int .i64 a, .int .i64 b, .slice A0 l.length c0], .agg #[.int .i64 a, .int .i64 b, .slice A1 l.length c1]] w fun e w' => e = .returned (.bool true) ∧ Below w.heap.size w w' :=
 PMirFuel.ferruleref10_Same.calls _ a b A0 c0 l a b A1 c1 l true w h0 n0 h1 n1 (same_f a b l hl)
theorem own_ints_C {w : World} {b n : Nat} {v : Value} {xs : List Int} (h : w.ownsRow b 3 1 v n (nums .i64 xs)) (hn : xs.length = n) : ∃ A c, v = .slice A n c ∧ n ≤ c ∧ Kd.C (Kd.int .i64) w A n xs := by
 obtain ⟨A, c, e, hr⟩ := own_reads_row h (ints_reps w xs) hn
 subst e
 exact ⟨A, c, rfl, own_le h, hr⟩
end Go.Proofs.Ytpphpcmbpbppoaa.Mach
end
section
namespace Go.Proofs.Ytpphpcmbpbppoaa.Mach
open Go.RowKit Go.Proofs.YtpphpcmbpbppoaaW.PrintWords Go.Proofs.YtpphpcmbpbppoaaW.PrintLast Go.Proofs.YtpphpcmbpbppoaaW.PrintMore
open Go.Proofs.Ytpphpcmbpbppoaa.Calm
open Go.Proofs.Ytpphpcmbpbppoaa.PMirFuel (S30 S57 S34 S37 S40 S43 S45 S48 k30 k57 k34 k37 k40 k43 k45 k48 rd_T30 rd_T57 rd_T34 rd_T37 rd_T40 rd_T43 rd_T45 rd_T48 at_T30 at_T57 at_T34 at_T40 at_T45 at_T48)
set_option linter.unusedVariables false
set_option linter.unusedSimpArgs false
open Go.Proofs.Ytpphpcmbpbppoaa.Form (SzL ckN check_said)
open Go.Proofs.Ytpphpcmbpbppoaa.PMirFuel (k45_mk k48_mk k40_mk)
def fstW (V : World) : World := ((V.alloc (Obj.cells #[.int .i64 13, .int .i64 0, .bool true, .int .i64 (-1), .bool false, .int .i64 0, .int .i64 0, .slice none 0 0, .int .i64 0, .slice none 0 0, .int .i64 1, .string ⟨#[]⟩, .int .i64 0, .string ⟨#[]⟩, .int .i64 0, .slice none 0 0, .slice none 0 0, .slice none 0 0] 40)).alloc (Obj.cells #[.slice (some ⟨V.heap.size, 0, none⟩) 1 1, .int .i64 4, .bool false, .int .i64 0, .int .i64 0, .int .i64 0, .slice none 0 0] 45)).alloc (Obj.cells #[.string ⟨#[109, 97, 105, 110]⟩, .slice none 0 0, .int .i64 0, .int .i64 0, .bool false, .slice (some ⟨V.heap.size + 1, 0, none⟩) 1 1] 48)
theorem fst_C (V : World) : k48.C (fstW V) (some ⟨V.heap.size + 1 + 1, 0, none⟩) 1 [fst48] ∧ Below V.heap.size V (fstW V) := by
 have h40 : k40.C (V.alloc (Obj.cells #[.int .i64 13, .int .i64 0, .bool true, .int .i64 (-1), .bool false, .int .i64 0, .int .i64 0, .slice none 0 0, .int .i64 0, .slice none 0 0, .int .i64 1, .string ⟨#[]⟩, .int .i64 0, .string ⟨#[]⟩, .int .i64 0, .slice none 0 0, .slice none 0 0, .slice none 0 0] 40)) (some ⟨V.heap.size, 0, none⟩) 1 [(⟨13, 0, ⟨true, -1⟩, ⟨false, 0⟩, ⟨0, []⟩, ⟨0, []⟩, 1, ⟨#[]⟩, ⟨0, ⟨#[]⟩, 0, []⟩, [], []⟩ : S40)] :=
  lit_C k40 rfl 40 (inner := [.int .i64 13, .int .i64 0, .bool true, .int .i64 (-1), .bool false, .int .i64 0, .int .i64 0, .slice none 0 0, .int .i64 0, .slice none 0 0, .int .i64 1, .string ⟨#[]⟩, .int .i64 0, .string ⟨#[]⟩, .int .i64 0, .slice none 0 0, .slice none 0 0, .slice none 0 0]) (reps_cons (encI_K (⟨13, 0, ⟨true, -1⟩, ⟨false, 0⟩, ⟨0, []⟩, ⟨0, []⟩, 1, ⟨#[]⟩, ⟨0, ⟨#[]⟩, 0, []⟩, [], []⟩ : S40) (Kd.C_nil _ _) rfl rfl rfl rfl) rfl (Reps.none _ _)) (by simp)
 have b40 : Below V.heap.size V (V.alloc (Obj.cells #[.int .i64 13, .int .i64 0, .bool true, .int .i64 (-1), .bool false, .int .i64 0, .int .i64 0, .slice none 0 0, .int .i64 0, .slice none 0 0, .int .i64 1, .string ⟨#[]⟩, .int .i64 0, .string ⟨#[]⟩, .int .i64 0, .slice none 0 0, .slice none 0 0, .slice none 0 0] 40)) := below_alloc (Below.refl _ _) _
 have s40 : (V.alloc (Obj.cells #[.int .i64 13, .int .i64 0, .bool true, .int .i64 (-1), .bool false, .int .i64 0, .int .i64 0, .slice none 0 0, .int .i64 0, .slice none 0 0, .int .i64 1, .string ⟨#[]⟩, .int .i64 0, .string ⟨#[]⟩, .int .i64 0, .slice none 0 0, .slice none 0 0, .slice none 0 0] 40)).heap.size = V.heap.size + 1 := by simp
 unfold fstW
 generalize V.alloc (Obj.cells #[.int .i64 13, .int .i64 0, .bool true, .int .i64 (-1), .bool false, .int .i64 0, .int .i64 0, .slice none 0 0, .int .i64 0, .slice none 0 0, .int .i64 1, .string ⟨#[]⟩, .int .i64 0, .string ⟨#[]⟩, .int .i64 0, .slice none 0 0, .slice none 0 0, .slice none 0 0] 40) = V1 at *
 have h45 : k45.C (V1.alloc (Obj.cells #[.slice (some ⟨V.heap.size, 0, none⟩) 1 1, .int .i64 4, .bool false, .int .i64 0, .int .i64 0, .int .i64 0, .slice none 0 0] 45)) (some ⟨V.heap.size + 1, 0, none⟩) 1 [(⟨[(⟨13, 0, ⟨true, -1⟩, ⟨false, 0⟩, ⟨0, []⟩, ⟨0, []⟩, 1, ⟨#[]⟩, ⟨0, ⟨#[]⟩, 0, []⟩, [], []⟩ : S40)], ⟨4, ⟨false, 0⟩, 0, 0, []⟩⟩ : S45)] :=
  lit_C k45 s40 45 (inner := [.slice (some ⟨V.heap.size, 0, none⟩) 1 1, .int .i64 4, .bool false, .int .i64 0, .int .i64 0, .int .i64 0, .slice none 0 0]) (reps_cons (k45_mk V1 (⟨[(⟨13, 0, ⟨true, -1⟩, ⟨false, 0⟩, ⟨0, []⟩, ⟨0, []⟩, 1, ⟨#[]⟩, ⟨0, ⟨#[]⟩, 0, []⟩, [], []⟩ : S40)], ⟨4, ⟨false, 0⟩, 0, 0, []⟩⟩ : S45) (Nat.le_refl _) h40 (A6 := none) (c6 := 0) (Nat.le_refl 0) (Kd.C_nil _ _)) rfl (Reps.none _ _)) (by simp)
 have b45 : Below V1.heap.size V1 (V1.alloc (Obj.cells #[.slice (some ⟨V.heap.size, 0, none⟩) 1 1, .int .i64 4, .bool false, .int .i64 0, .int .i64 0, .int .i64 0, .slice none 0 0] 45)) := below_alloc (Below.refl _ _) _
 have s45 : (V1.alloc (Obj.cells #[.slice (some ⟨V.heap.size, 0, none⟩) 1 1, .int .i64 4, .bool false, .int .i64 0, .int .i64 0, .int .i64 0, .slice none 0 0] 45)).heap.size = V.heap.size + 1 + 1 := by simp [s40]
 generalize V1.alloc (Obj.cells #[.slice (some ⟨V.heap.size, 0, none⟩) 1 1, .int .i64 4, .bool false, .int .i64 0, .int .i64 0, .int .i64 0, .slice none 0 0] 45) = V2 at *
 have h48 : k48.C (V2.alloc (Obj.cells #[.string ⟨#[109, 97, 105, 110]⟩, .slice none 0 0, .int .i64 0, .int .i64 0, .bool false, .slice (some ⟨V.heap.size + 1, 0, none⟩) 1 1] 48)) (some ⟨V.heap.size + 1 + 1, 0, none⟩) 1 [fst48] :=
  lit_C k48 s45 48 (inner := [.string ⟨#[109, 97, 105, 110]⟩, .slice none 0 0, .int .i64 0, .int .i64 0, .bool false, .slice (some ⟨V.heap.size + 1, 0, none⟩) 1 1]) (reps_cons (k48_mk V2 fst48 (A1 := none) (c1 := 0) (Nat.le_refl 0) (Kd.C_nil _ _) (Nat.le_refl _) h45) rfl (Reps.none _ _)) (by simp)
 exact ⟨h48, below_then b40 b40.size (below_then b45 b45.size (below_alloc (Below.refl _ _) _))⟩
theorem i64_and4095 (n : Int) : Go.bits .and .i64 n 4095 = n % 4096 := by
 have h63 : (BitVec.ofInt 64 4095).toNat = 2 ^ 12 - 1 := by decide
 have key : (BitVec.ofInt 64 n &&& BitVec.ofInt 64 4095).toNat = (n % ((2 ^ 64 : Nat) : Int)).toNat % 2 ^ 12 := by
  rw [BitVec.toNat_and, BitVec.toNat_ofInt, h63, Nat.and_two_pow_sub_one_eq_mod]
 show IntKind.i64.wrap ((BitVec.ofInt 64 n &&& BitVec.ofInt 64 4095).toNat : Nat) = n % 4096
 rw [key, IntKind.wrap_i64]
 omega
attribute [local go_sem] i64_and4095
set_option maxRecDepth 100000 in
set_option maxHeartbeats 8000000 in
theorem fuel_walk (l : List S48) (A1 : Option Addr) (c1 : Nat) (Ai : Option Addr) (inp : List Int) (ci : Nat) (f0 f1 : Int) (w : World) (HL : Kd.C k48 w A1 l.length l) (hlc : l.length ≤ c1) (HI : ReadsInt w .i64 Ai inp.length inp) (hic : inp.length ≤ ci) (SZ : SzL l) :
  Calls Try.prog 3 #[.slice A1 l.length c1, .slice Ai inp.length ci, .agg #[.int .i64 f0, .int .i64 f1]] w fun e w' => e = .returned (.bool true) ∧ Below w.heap.size w w' := by
 have HLL := Aside0.mk HL
 have HII := Aside0.mk HI
 have HSZ := Aside0.mk SZ
 have hll := SZ.n
 clear HL HI SZ
 go_enter Try.func3, Try.ntmps3
 go_wp2_with fail
 refine (PMirFuel.ferrulelaw12_num.calls (-1) true (-1) _ rfl).mono ?_
 rintro e w1 ⟨rfl, hd⟩
 have B1 := Aside0.mk (below_then (below_alloc (Below.refl _ w) _) (below_alloc (Below.refl w.heap.size w) (Obj.cells #[.int .i64 f0, .int .i64 f1] 24)).size hd)
 have HX1 := Aside0.mk ((Has.new w #[.int .i64 f0, .int .i64 f1] 24).belowS hd)
 clear hd
 go_wp2_with fail
 refine (run_all [fst48] (some ⟨w1.heap.size + 1 + 1, 0, none⟩) 1 none [] 0 5 _ (fst_C w1).1 (Nat.le_refl 1) ⟨rfl, by simp, fun h => absurd h (Nat.lt_irrefl 0)⟩ (Nat.le_refl 0) fst_sz fst_lc (by decide)).mono ?_
 rintro e w2 ⟨kd, cd, st', pv, hr, rfl, hb, ho⟩
 obtain ⟨e1, e2, e3⟩ := hr.tell
 rw [fst_run.1] at e1
 rw [fst_run.2.1] at e2
 have e4 : st'.steps = 2 := by rw [e3]; exact fst_run.2.2.2
 have e5 : st'.print = [4294967295] := by rw [e3]; exact fst_run.2.2.1
 rw [e5] at ho
 rw [e4]
 subst e1 e2
 obtain ⟨P0, q0, rfl, hq0, hC0⟩ := own_ints_C ho rfl
 have hb1 : Below w1.heap.size w1 w2 := below_then (fst_C w1).2 (fst_C w1).2.size hb
 have B2 := Aside0.mk (below_then B1.out B1.out.size hb1)
 have HX2 := Aside0.mk (HX1.out.belowS hb1)
 have HC0 := Aside0.mk hC0
 clear e3 e4 e5 hr ho hC0 hb hb1 B1 HX1
 go_wp2_with fail
 have hbW : Below w2.heap.size w2 ((w2.alloc (Obj.cells #[.int .i64 1, .int .i64 101, .slice P0 1 q0] 26)).alloc (Obj.cells #[.int .i64 4294967295] 3)) := below_alloc (below_alloc (Below.refl _ _) _) _
 refine (same_said 1 101 [4294967295] P0 (some ⟨w2.heap.size + 1, 0, none⟩) q0 1 _ (by show 1 < 4611686018427387904; decide) (Kd.C_below HC0.out hbW) hq0 (lit_C (Kd.int .i64) (W := w2.alloc (Obj.cells #[.int .i64 1, .int .i64 101, .slice P0 1 q0] 26)) (by simp) 3 (inner := [.int .i64 4294967295]) (ints_reps _ [4294967295]) (by simp)) (Nat.le_refl 1)).mono ?_
 rintro e w3 ⟨rfl, hb⟩
 have hb3 := below_then hbW hbW.size hb
 have B3 := Aside0.mk (below_then B2.out B2.out.size hb3)
 have HX3 := Aside0.mk (HX2.out.belowS hb3)
 clear hb hb3 hbW HC0 B2 HX2
 obtain ⟨K, r, hr, h01, hLC⟩ := PMirFuel.great_f l hll (fun k => HSZ.out.f1 k)
 have HGR := Aside0.mk hr
 have HLC := Aside0.mk hLC
 clear hr hLC
 go_wp2_with fail
 refine (PMirFuel.ferrulelaw12_Great.calls K A1 c1 l r _ (Kd.C_below HLL.out B3.out) hlc HGR.out).mono ?_
 rintro e w4 ⟨rfl, hb⟩
 have B4 := Aside0.mk (below_then B3.out B3.out.size hb.below)
 have HX4 := Aside0.mk (HX3.out.belowS hb.below)
 clear hb B3 HX3
 rcases h01 with rfl | rfl
 rotate_left
 ·go_wp2_with fail
  go_ret
  exact ⟨rfl, B4.out⟩
 have HL5 := Aside0.mk (HLC.out rfl)
 clear HLC HGR
 have x0 := HX4.out.cell 0
 have x1 := HX4.out.cell 1
 simp only [List.getElem?_toArray, List.getElem?_cons_zero, List.getElem?_cons_succ] at x0 x1
 go_wp2_with fail
 refine region_mix [.h 0, .h 1, .h 2, .h 3, .h 4, .h 5, .h 6, .h 7] (fun w' => w'.cell? ⟨w.heap.size, 0, none⟩ = some (.int .i64 f0) ∧ w'.cell? ⟨w.heap.size, 1, none⟩ = some (.int .i64 f1)) (by kernel_rfl) (by kernel_rfl) ⟨x0, x1⟩ (by intro c a a' w1 hd h; simp +zetaDelta only [Exit.then, Exit.inBlock, bodyPost] at h ⊢; simp at h) ?_
 repeat (
  refine mix_h (by rfl) (by rfl) (by rfl) ?_
  apply Exists.intro
  apply And.intro
  ·rintro w' ⟨k0, k1⟩
   apply VR.mk
   go_simp
   with_reducible rfl
  simp only [List.setIfInBounds_toArray, List.set_cons_zero, List.set_cons_succ])
 refine mix_nil ?_
 have B5 := Aside0.mk (below_drew B4.out)
 have HX5 := Aside0.mk (HX4.out.drewN 1)
 clear x0 x1 B4 HX4
 go_wp2_with fail
 obtain ⟨a, ha⟩ : ∃ a, f0 % 4096 = a := ⟨_, rfl⟩
 obtain ⟨b, hb⟩ : ∃ b, f1 % 4096 = b := ⟨_, rfl⟩
 rw [ha, hb]
 have ha0 : 0 ≤ a := by omega
 have ha1 : a ≤ 4095 := by omega
 have hb0 : 0 ≤ b := by omega
 have hb1 : b ≤ 4095 := by omega
 have FF0 := Aside0.mk (fuel_facts l inp a b ha0 hb0)
 clear ha hb HX5
 refine (run_all l A1 c1 Ai inp ci a _ (Kd.C_below HLL.out B5.out) hlc (HII.out.below B5.out) hic HSZ.out HL5.out (by omega)).mono ?_
 rintro e w6 ⟨k1, d1, st1, pv1, hr, rfl, hb, ho⟩
 have HT1 := Aside0.mk hr.tell
 obtain ⟨P1, q1, rfl, hq1, hC1⟩ := own_ints_C ho rfl
 have B6 := Aside0.mk (below_then B5.out B5.out.size hb)
 have HC1 := Aside0.mk hC1
 clear hr hb ho hC1 B5
 go_wp2_with fail
 have bA := below_alloc (Below.refl w6.heap.size w6) (Obj.cells #[.int .i64 k1, .int .i64 d1, .slice P1 st1.print.length q1] 26)
 have B6A := below_then B6.out B6.out.size bA
 refine (run_all l A1 c1 Ai inp ci (a + b) _ (Kd.C_below HLL.out B6A) hlc (HII.out.below B6A) hic HSZ.out HL5.out (by omega)).mono ?_
 rintro e w7 ⟨k2, d2, st2, pv2, hr, rfl, hb, ho⟩
 have FF : FuelFacts l a b k1 d1 st1.steps k2 d2 st2.steps st1.print st2.print := by
  obtain ⟨e1, e2, e3⟩ := HT1.out
  obtain ⟨e4, e5, e6⟩ := hr.tell
  rw [e1, e2, e3, e4, e5, e6]
  exact FF0.out
 obtain ⟨P2, q2, rfl, hq2, hC2⟩ := own_ints_C ho rfl
 have HO1 := (Has.new w6 #[.int .i64 k1, .int .i64 d1, .slice P1 st1.print.length q1] 26).belowS hb
 have hC1 := Kd.C_below HC1.out (below_then bA bA.size hb)
 have B7 := Aside0.mk (below_then B6A B6A.size hb)
 clear hr hb ho HT1 HC1 B6 FF0 bA B6A
 generalize st1.steps = n1 at *
 generalize st1.print = p1 at *
 generalize st2.steps = n2 at *
 generalize st2.print = p2 at *
 have bA := below_alloc (Below.refl w7.heap.size w7) (Obj.cells #[.int .i64 k2, .int .i64 d2, .slice P2 p2.length q2] 26)
 have B8 := Aside0.mk (below_then B7.out B7.out.size bA)
 have HO1 := Aside0.mk (HO1.belowS bA)
 have HO2 := Aside0.mk (Has.new w7 #[.int .i64 k2, .int .i64 d2, .slice P2 p2.length q2] 26)
 have HC1 := Aside0.mk (Kd.C_below hC1 bA)
 have HC2 := Aside0.mk (Kd.C_below hC2 bA)
 have FF := Aside0.mk FF
 clear bA hC1 hC2 B7
 go_wp2_with fail
 obtain ⟨w8, hw8⟩ : ∃ W, w7.alloc (Obj.cells #[.int .i64 k2, .int .i64 d2, .slice P2 p2.length q2] 26) = W := ⟨_, rfl⟩
 rw [hw8] at B8 HO1 HO2 HC1 HC2 ⊢
 clear hw8
 obtain ⟨g1, hg1⟩ : ∃ g, w6.heap.size = g := ⟨_, rfl⟩
 obtain ⟨g2, hg2⟩ : ∃ g, w7.heap.size = g := ⟨_, rfl⟩
 rw [hg1] at HO1 ⊢
 rw [hg2] at HO2 ⊢
 clear hg1 hg2
 refine (check_said l A1 c1 _ (Kd.C_below HLL.out B8.out) hlc HSZ.out).mono ?_
 rintro e w9 ⟨he, hb⟩
 have B9 := Aside0.mk (below_then B8.out B8.out.size hb)
 have HO1 := Aside0.mk (HO1.out.belowS hb)
 have HO2 := Aside0.mk (HO2.out.belowS hb)
 have HC1 := Aside0.mk (Kd.C_below HC1.out hb)
 have HC2 := Aside0.mk (Kd.C_below HC2.out hb)
 clear hb B8
 rcases ckN_two l with h0 | h10
 rotate_left
 ·rw [h10] at he
  subst he
  have HCK := Aside0.mk h10
  obtain ⟨rfl, rfl, rfl⟩ := FF.out.bad (by rw [h10]; decide)
  clear h10
  go_wp2_with fail
  refine (check_said l A1 c1 _ (Kd.C_below HLL.out B9.out) hlc HSZ.out).mono ?_
  rintro e w10 ⟨he, hb⟩
  rw [HCK.out] at he
  subst he
  have B10 := Aside0.mk (below_then B9.out B9.out.size hb)
  have HO1 := HO1.out.belowS hb
  have y0 := HO1.cell 0
  have y2 := HO1.cell 2
  simp only [List.getElem?_toArray, List.getElem?_cons_zero, List.getElem?_cons_succ] at y0 y2
  clear hb HO1
  go_wp2_with fail
  go_ret
  exact ⟨rfl, B10.out⟩
 rw [h0] at he
 subst he
 have y0 := HO1.out.cell 0
 have y1 := HO1.out.cell 1
 have y2 := HO1.out.cell 2
 have z0 := HO2.out.cell 0
 have z1 := HO2.out.cell 1
 have z2 := HO2.out.cell 2
 simp only [List.getElem?_toArray, List.getElem?_cons_zero, List.getElem?_cons_succ] at y0 y1 y2 z0 z1 z2
 have hn1 : decide (n1 > a) = false := by have := FF.out.s1; simp; omega
 have hn2 : decide (n2 > a + b) = false := by have := FF.out.s2; simp; omega
 have hln : decide ((p1.length : Int) > p2.length) = false := by have := FF.out.pr.length_le; simp; omega
 have hle := FF.out.pr.length_le
 clear h0
 by_cases hk : k1 = 0
 rotate_left
 ·obtain ⟨rfl, rfl, rfl, rfl⟩ := FF.out.same hk
  have hkk : (k2 != 0) = true := by simp [hk]
  clear hk
  go_wp2_with fail
  refine (same_said k2 d2 p2 P1 P2 q1 q2 _ (by have := FF.out.l1; omega) HC1.out hq1 HC2.out hq2).mono ?_
  rintro e w10 ⟨rfl, hb⟩
  have B10 := Aside0.mk (below_then B9.out B9.out.size hb)
  clear hb
  go_wp2_with fail
  go_ret
  exact ⟨rfl, B10.out⟩
 subst hk
 have hp1 : (p1.length : Int) ≤ 4095 := by have := FF.out.l1; omega
 have HPR := Aside0.mk FF.out.pr
 obtain ⟨wo, hwo⟩ : ∃ wo, wo = w9 := ⟨_, rfl⟩
 subst hwo
 have HB0 := Aside0.mk (Below.refl wo.heap.size wo)
 go_wp2_with fail
 go_loopw [14] (fun v wr => ∃ i : Int, v = .int .i64 i ∧ 0 ≤ i ∧ i ≤ p1.length ∧ Aside0 (Below wo.heap.size wo wr)) (fun v _ => p1.length - (intOf v).toNat)
 case atStart => exact ⟨0, rfl, by omega, by omega, HB0⟩
 case round =>
  clear HB0 y0 y1 y2 z0 z1 z2
  obtain ⟨i, rfl, hi0, hi1, HB⟩ := hrel
  have y2 := (HO1.out.belowS HB.out).cell 2
  have z2 := (HO2.out.belowS HB.out).cell 2
  simp only [List.getElem?_toArray, List.getElem?_cons_zero, List.getElem?_cons_succ] at y2 z2
  by_cases hlt : i < p1.length
  ·obtain ⟨ad1, rfl, v1⟩ := Kd.at_int (Kd.C_below HC1.out HB.out) i hi0 hlt
   obtain ⟨ad2, rfl, v2⟩ := Kd.at_int (Kd.C_below HC2.out HB.out) i hi0 (by omega)
   have hrd : rd p2 i = rd p1 i := by
    obtain ⟨t, ht⟩ := HPR.out
    have hi : i.toNat < p1.length := by omega
    rw [← ht]
    simp [rd, List.getD_eq_getElem?_getD, List.getElem?_append_left hi]
   rw [hrd] at v2
   clear hrd
   have hlt2 : i < p2.length := by omega
   go_wp2_with fail
   refine region_mix [.h 0, .h 1, .h 2, .h 3, .h 4, .h 5, .h 6, .h 7, .h 8, .h 9, .h 10] (fun w' => w'.cell? ⟨g1, 2, none⟩ = some (.slice (some ad1) p1.length q1) ∧ w'.cell? ⟨g2, 2, none⟩ = some (.slice (some ad2) p2.length q2) ∧ w'.cell? (ad1.add i.toNat) = some (.int .i64 (rd p1 i)) ∧ w'.cell? (ad2.add i.toNat) = some (.int .i64 (rd p1 i))) (by kernel_rfl) (by kernel_rfl) ⟨y2, z2, v1, v2⟩ (by intro c a a' w1 hd h; simp +zetaDelta only [Exit.then, Exit.inBlock, bodyPost] at h ⊢; simp at h) ?_
   repeat (
    refine mix_h (by rfl) (by rfl) (by rfl) ?_
    apply Exists.intro
    apply And.intro
    ·rintro w' ⟨k0, k1, k2, k3⟩
     apply VR.mk
     go_simp
     with_reducible rfl
    simp only [List.setIfInBounds_toArray, List.set_cons_zero, List.set_cons_succ])
   refine mix_nil ?_
   have HBD := Aside0.mk (below_drew HB.out)
   clear y2 z2 v1 v2 HB
   go_wp2_with fail
   exact ⟨⟨i + 1, rfl, by omega, by omega, HBD⟩, by simp [intOf]; omega⟩
  ·have hd : decide (i < (p1.length : Int)) = false := decide_eq_false hlt
   go_wp2_with fail
   go_ret
   exact ⟨rfl, below_then B9.out B9.out.size HB.out⟩
end Go.Proofs.Ytpphpcmbpbppoaa.Mach
end
section
namespace Go.Proofs.Ytpphpcmbpbppoaa.Opens
open Go.RowKit Go.Proofs.YtpphpcmbpbppoaaW.PrintWords
set_option linter.unusedVariables false
structure Opens {α : Type} (P : Program) (t : TypeId) (n : Nat) (k : Kd α) (ok : α → Prop) (m : α → Nat) : Prop where
 get : ∀ {H : Type} {enc : TypeId × Value → H} {w : World} {base : Nat} {spare : Nat → Bool} {held : Bool} {cs : List Value} {y : DataW H × List MemPlace},
  DataW.trod enc P w base spare held n t cs = some y → (∀ z ∈ y.1.weights P t, z ≤ reachBytes) → ∃ x, k.K w x cs ∧ ok x ∧ m x ≤ Rows.uptoBulk y.1
theorem of_int {P : Program} {t : TypeId} {κ : IntKind} (ht : P.underlying t = some (.int κ)) (n : Nat) : Opens P t n (Kd.int κ) (fun x => (Lit.int κ x).wf = true) (fun _ => 1) := by
 constructor
 intro H enc w base spare held cs y h _
 obtain ⟨x, rfl, rfl, hw⟩ := DataW.trod_int ht h
 exact ⟨x, rfl, hw, by simp [Rows.uptoBulk]⟩
theorem of_bool {P : Program} {t : TypeId} (ht : P.underlying t = some .bool) (n : Nat) : Opens P t n Kd.bool (fun _ => True) (fun _ => 1) := by
 constructor
 intro H enc w base spare held cs y h _
 obtain ⟨x, rfl, rfl⟩ := DataW.trod_bool ht h
 exact ⟨x, rfl, trivial, by simp [Rows.uptoBulk]⟩
theorem of_string {P : Program} {t : TypeId} (ht : P.underlying t = some .string) (n : Nat) : Opens P t n Kd.string (fun x => x.size ≤ reachBytes) (fun x => x.size + 1) := by
 constructor
 intro H enc w base spare held cs y h hz
 obtain ⟨x, rfl, rfl, hw⟩ := DataW.trod_string ht h
 have := hz x.data.toList.length (by simp [DataW.weights])
 refine ⟨x, rfl, by simpa using this, by simp [Rows.uptoBulk]⟩
theorem choose_list {α : Type} {Q : Nat → α → Prop} : ∀ n, (∀ i, i < n → ∃ x, Q i x) → ∃ xs : List α, xs.length = n ∧ ∀ i x, xs[i]? = some x → Q i x
 | 0, _ => ⟨[], rfl, fun i x h => by simp at h⟩
 | n + 1, h => by
  obtain ⟨xs, hl, hx⟩ := choose_list n (fun i hi => h i (by omega))
  obtain ⟨x, hq⟩ := h n (by omega)
  refine ⟨xs ++ [x], by simp [hl], fun i y hy => ?_⟩
  by_cases hi : i < xs.length
  ·rw [List.getElem?_append_left hi] at hy; exact hx i y hy
  ·rw [List.getElem?_append_right (by omega)] at hy
   have h0 : i - xs.length = 0 := by
    rcases Nat.eq_zero_or_pos (i - xs.length) with e | e
    ·exact e
    ·rw [List.getElem?_eq_none (by simp; omega)] at hy; cases hy
   rw [h0] at hy
   have : i = n := by omega
   subst this
   simp at hy; subst hy; exact hq
theorem sum_le {α β : Type} {f : α → Nat} {g : β → Nat} : ∀ {xs : List α} {ys : List β}, xs.length = ys.length → (∀ (i : Nat) (x : α) (y : β), xs[i]? = some x → ys[i]? = some y → f x ≤ g y) → (xs.map f).sum ≤ (ys.map g).sum
 | [], [], _, _ => Nat.le_refl _
 | x :: xs, y :: ys, hl, h => by
  have h0 := h 0 x y rfl rfl
  have h1 := sum_le (f := f) (g := g) (xs := xs) (ys := ys) (by simpa using hl) (fun i a b ha hb => h (i + 1) a b (by simpa using ha) (by simpa using hb))
  simp only [List.map_cons, List.sum_cons]; omega
 | [], _ :: _, hl, _ => by simp at hl
 | _ :: _, [], hl, _ => by simp at hl
theorem bulkAll_sum {H : Type} : ∀ l : List (DataW H), Rows.uptoBulkAll l = (l.map Rows.uptoBulk).sum
 | [] => by simp [Rows.uptoBulkAll]
 | d :: r => by simp [Rows.uptoBulkAll, bulkAll_sum r]
theorem weightsAll_mem {H : Type} {P : Program} {e : TypeId} : ∀ {l : List (DataW H)} {i : Nat} {d : DataW H}, l[i]? = some d → ∀ z ∈ d.weights P e, z ∈ DataW.weightsAll P e l
 | d0 :: r, 0, d, h, z, hz => by
  simp only [List.getElem?_cons_zero, Option.some.injEq] at h
  subst h
  simp only [DataW.weightsAll, List.mem_append]; exact .inl hz
 | d0 :: r, i + 1, d, h, z, hz => by
  simp only [List.getElem?_cons_succ] at h
  simp only [DataW.weightsAll, List.mem_append]; exact .inr (weightsAll_mem h z hz)
 | [], _, _, h, _, _ => by simp at h
theorem of_slice {α : Type} {P : Program} {t e : TypeId} {k : Kd α} {ok : α → Prop} {m : α → Nat} (ht : P.underlying t = some (.slice e)) (hsz : k.sz = P.cellsOf e) {n : Nat} (h : ∀ j, j < n → Opens P e j k ok m) :
  Opens P t n (Kd.slice e k) (fun xs => (∀ x ∈ xs, ok x) ∧ xs.length * P.bytesOf e ≤ reachBytes) (fun xs => (xs.map m).sum + 1) := by
 constructor
 intro H enc w base spare held cs y hy hz
 rcases DataW.trod_slice ht hy with ⟨rfl, rfl⟩ | ⟨a, len, cap, elems, rest, j, rfl, rfl, rfl, hb, hl, hc, he, hel, _, _⟩
 ·exact ⟨[], ⟨none, 0, rfl, Nat.le_refl _, Kd.C_nil _ _⟩, ⟨fun x hx => by simp at hx, by simp⟩, by simp [Rows.uptoBulk]⟩
 ·simp only [DataW.weights, ht] at hz
  have pick : ∀ i, i < len → ∃ x, ∃ d c, elems[i]? = some d ∧ w.cells? base (a.add (i * P.cellsOf e)) (P.cellsOf e) = some c ∧ k.K w x c ∧ ok x ∧ m x ≤ Rows.uptoBulk d.1 := by
   intro i hi
   have h1 := hel i hi
   rw [List.getElem?_eq_getElem (by omega : i < elems.length)] at h1
   obtain ⟨c, hcells, htr⟩ := Option.bind_eq_some_iff.1 h1
   obtain ⟨x, hK, hok, hm⟩ := (h j (by omega)).get htr (fun z hzz => hz z (by
    refine List.mem_cons_of_mem _ (List.mem_append.2 (.inl ?_))
    exact weightsAll_mem (i := i) (by rw [List.getElem?_map, List.getElem?_eq_getElem (by omega : i < elems.length)]; rfl) z hzz))
   exact ⟨x, elems[i], c, List.getElem?_eq_getElem _, hcells, hK, hok, hm⟩
  obtain ⟨xs, hxl, hx⟩ := choose_list len pick
  refine ⟨xs, ⟨some a, cap, by rw [hxl], by omega, hxl ▸ rfl, by rw [hxl]; unfold maxLen at hc; omega, fun hn => ⟨a, rfl, fun i x hi => ?_⟩⟩, ⟨fun x hx' => ?_, ?_⟩, ?_⟩
  ·obtain ⟨d, c, _, hcells, hK, _, _⟩ := hx i x hi
   obtain ⟨_, hcl, hcell⟩ := World.cells?_some hcells
   refine ⟨c, by rw [hcl, hsz], hK, fun q u hq => ?_⟩
   have hlt : q < P.cellsOf e := by
    have := (List.getElem?_eq_some_iff.1 hq).1; omega
   have := hcell q hlt
   rw [hq] at this
   rw [hsz, ← this]
   congr 1
   unfold Addr.add
   by_cases e1 : q = 0 <;> by_cases e2 : i * P.cellsOf e = 0 <;> simp [e1, e2, Nat.add_assoc]
  ·obtain ⟨i, hi, rfl⟩ := List.getElem_of_mem hx'
   obtain ⟨d, c, _, _, _, hok, _⟩ := hx i _ (List.getElem?_eq_getElem hi)
   exact hok
  ·have h1 := hz _ (List.mem_cons_self ..)
   rw [List.length_map, List.length_map] at h1
   refine Nat.le_trans (Nat.mul_le_mul_right _ ?_) h1
   omega
  ·have h1 : (xs.map m).sum ≤ ((elems.map (·.1)).map Rows.uptoBulk).sum := sum_le (by simp [hxl, he]) (fun i x d hxi hdi => by
    obtain ⟨d', c, hd', _, _, _, hm⟩ := hx i x hxi
    rw [List.getElem?_map, hd'] at hdi
    simp at hdi; subst hdi; exact hm)
   rw [← bulkAll_sum] at h1
   simp only [Rows.uptoBulk]; omega
structure OpensFs {α : Type} (P : Program) (n : Nat) (fs : List Field) (off : Nat) (k : Kd α) (ok : α → Prop) (m : α → Nat) : Prop where
 get : ∀ {H : Type} {enc : TypeId × Value → H} {w : World} {base : Nat} {spare : Nat → Bool} {held : Bool} {cs : List Value} {xs : List (DataW H × List MemPlace)},
  xs.length = fs.length → (∀ (i : Nat) (f : Field), fs[i]? = some f → DataW.trod enc P w base spare held n f.type ((cs.drop f.offset).take (P.cellsOf f.type)) = xs[i]?) → cs.length = off + k.sz →
  (∀ z ∈ DataW.weightsEach P (fs.map (·.type)) (xs.map (·.1)), z ≤ reachBytes) → ∃ x, k.K w x (cs.drop off) ∧ ok x ∧ m x ≤ Rows.uptoBulkAll (xs.map (·.1))
theorem fs_one {α : Type} {P : Program} {n : Nat} {f : Field} {off : Nat} {k : Kd α} {ok : α → Prop} {m : α → Nat} (h : Opens P f.type n k ok m) (ho : f.offset = off) (hsz : P.cellsOf f.type = k.sz) : OpensFs P n [f] off k ok m := by
 constructor
 intro H enc w base spare held cs xs hl hx hc hz
 match xs, hl with
 | [y], _ =>
  have h0 := hx 0 f rfl
  rw [ho, hsz, List.take_of_length_le (by simp; omega)] at h0
  obtain ⟨x, hK, hok, hm⟩ := h.get h0 (fun z hzz => hz z (by simp [DataW.weightsEach, hzz]))
  exact ⟨x, hK, hok, by simp [Rows.uptoBulkAll]; omega⟩
theorem fs_cons {α β : Type} {P : Program} {n : Nat} {f : Field} {fs : List Field} {off : Nat} {k : Kd α} {k' : Kd β} {ok : α → Prop} {ok' : β → Prop} {m : α → Nat} {m' : β → Nat} (h : Opens P f.type n k ok m) (ho : f.offset = off) (hsz : P.cellsOf f.type = k.sz)
  (hr : OpensFs P n fs (off + k.sz) k' ok' m') : OpensFs P n (f :: fs) off (Kd.pair k k') (fun x => ok x.1 ∧ ok' x.2) (fun x => m x.1 + m' x.2) := by
 constructor
 intro H enc w base spare held cs xs hl hx hc hz
 match xs, hl with
 | y :: ys, hl =>
  have h0 := hx 0 f rfl
  rw [ho, hsz] at h0
  have hc' : cs.length = off + (k.sz + k'.sz) := hc
  obtain ⟨x, hK, hok, hm⟩ := h.get h0 (fun z hzz => hz z (by simp [DataW.weightsEach, hzz]))
  obtain ⟨x', hK', hok', hm'⟩ := hr.get (xs := ys) (cs := cs) (by simpa using hl) (fun i g hg => by simpa using hx (i + 1) g (by simpa using hg)) (by omega) (fun z hzz => hz z (by simp [DataW.weightsEach, hzz]))
  refine ⟨(x, x'), ⟨(cs.drop off).take k.sz, cs.drop (off + k.sz), ?_, hK, hK'⟩, ⟨hok, hok'⟩, ?_⟩
  ·rw [← List.drop_drop, List.take_append_drop]
  ·simp [Rows.uptoBulkAll]; omega
theorem of_struct {α : Type} {P : Program} {t : TypeId} {fs : Array Field} {k : Kd α} {ok : α → Prop} {m : α → Nat} (ht : P.underlying t = some (.struct fs)) (hsz : P.cellsOf t = k.sz) {n : Nat} (h : ∀ j, j < n → OpensFs P j fs.toList 0 k ok m) : Opens P t n k ok (fun x => m x + 1) := by
 constructor
 intro H enc w base spare held cs y hy hz
 obtain ⟨xs, j, rfl, rfl, hl, hxl, hx⟩ := DataW.trod_struct ht hy
 simp only [DataW.weights, ht] at hz
 obtain ⟨x, hK, hok, hm⟩ := (h j (by omega)).get (xs := xs) (cs := cs) (by simpa using hxl) (fun i f hf => hx i f (by simpa using hf)) (by omega) hz
 exact ⟨x, by simpa using hK, hok, by simp only [Rows.uptoBulk]; omega⟩
theorem of_iso {α β : Type} {P : Program} {t : TypeId} {n : Nat} {k : Kd β} {f : α → β} {ok : β → Prop} {m : β → Nat} (g : β → α) (hg : ∀ y, f (g y) = y) (h : Opens P t n k ok m) : Opens P t n (Kd.iso k f) (fun x => ok (f x)) (fun x => m (f x)) := by
 constructor
 intro H enc w base spare held cs y hy hz
 obtain ⟨x, hK, hok, hm⟩ := h.get hy hz
 exact ⟨g x, by show k.K w (f (g x)) cs; rw [hg]; exact hK, by rw [hg]; exact hok, by rw [hg]; exact hm⟩
theorem imp {α : Type} {P : Program} {t : TypeId} {n : Nat} {k : Kd α} {ok ok' : α → Prop} {m m' : α → Nat} (h : Opens P t n k ok m) (ho : ∀ x, ok x → ok' x) (hm : ∀ x, m' x ≤ m x) : Opens P t n k ok' m' := by
 constructor
 intro H enc w base spare held cs y hy hz
 obtain ⟨x, hK, hok, hmx⟩ := h.get hy hz
 exact ⟨x, hK, ho x hok, Nat.le_trans (hm x) hmx⟩
theorem of_fix {α : Type} {P : Program} {t : TypeId} {n : Nat} {F : Kd α → Kd α} {sz : Nat} {E : List Nat} {hs : ∀ n, (Kd.upto F sz E n).sz = sz} {hE : ∀ n q, q ∈ (Kd.upto F sz E n).E → q ∈ E} {ok : α → Prop} {m : α → Nat} (j : Nat) (h : Opens P t n (Kd.upto F sz E j) ok m) : Opens P t n (Kd.fix F sz E hs hE) ok m := by
 constructor
 intro H enc w base spare held cs y hy hz
 obtain ⟨x, hK, hok, hmx⟩ := h.get hy hz
 exact ⟨x, ⟨j, hK⟩, hok, hmx⟩
theorem of_zero {α : Type} {P : Program} {t : TypeId} {k : Kd α} {ok : α → Prop} {m : α → Nat} : Opens P t 0 k ok m := by
 constructor
 intro H enc w base spare held cs y hy
 simp [DataW.trod] at hy
theorem upto_mono {α : Type} {P : Program} {t : TypeId} {n : Nat} {F : Kd α → Kd α} {sz : Nat} {E : List Nat} {ok : α → Prop} {m : α → Nat} (hm : Kd.Mono F) (hs : ∀ n, (Kd.upto F sz E n).sz = sz) {i j : Nat} (hij : i ≤ j) (h : Opens P t n (Kd.upto F sz E i) ok m) : Opens P t n (Kd.upto F sz E j) ok m := by
 constructor
 intro H enc w base spare held cs y hy hz
 obtain ⟨x, hK, hok, hmx⟩ := h.get hy hz
 exact ⟨x, Kd.upto_K_le hm hs hij hK, hok, hmx⟩
end Go.Proofs.Ytpphpcmbpbppoaa.Opens
end
section
namespace Go.Proofs.Ytpphpcmbpbppoaa.OpenK
open Go.RowKit Go.Proofs.YtpphpcmbpbppoaaW.PrintWords Go.Proofs.YtpphpcmbpbppoaaW.PrintLast Go.Proofs.YtpphpcmbpbppoaaW.PrintMore
open Go.Proofs.Ytpphpcmbpbppoaa.Opens Go.Proofs.Ytpphpcmbpbppoaa.PMirFuel Go.Proofs.Ytpphpcmbpbppoaa.Form
open Go.Proofs.Ytpphpcmbpbppoaa.Mach (tyOk)
set_option linter.unusedVariables false
theorem len_of {n B : Nat} (h : n * B ≤ reachBytes) (hB : 0 < B) : n < 4611686018427387904 := by
 have h1 : n * 1 ≤ n * B := Nat.mul_le_mul_left n hB
 have h2 : reachBytes < 4611686018427387904 := by decide
 omega
theorem b3 : 0 < Try.prog.bytesOf 3 := of_decide_eq_true (by kernel_rfl)
theorem b30 : 0 < Try.prog.bytesOf 30 := of_decide_eq_true (by kernel_rfl)
theorem b57 : 0 < Try.prog.bytesOf 57 := of_decide_eq_true (by kernel_rfl)
theorem b40 : 0 < Try.prog.bytesOf 40 := of_decide_eq_true (by kernel_rfl)
theorem b45 : 0 < Try.prog.bytesOf 45 := of_decide_eq_true (by kernel_rfl)
theorem b48 : 0 < Try.prog.bytesOf 48 := of_decide_eq_true (by kernel_rfl)
theorem int_le {n : Int} (h : (Lit.int .i64 n).wf = true) : n ≤ 9223372036854775807 := by
 simp only [Lit.wf, Bool.and_eq_true, decide_eq_true_eq] at h
 have h2 : n ≤ IntKind.i64.max := h.2
 have e : IntKind.i64.max = 9223372036854775807 := by decide
 omega
theorem ty_of (t : S37) (h : (Lit.int .i64 t.f0).wf = true ∧ t.f1.size ≤ reachBytes ∧ (Lit.int .i64 t.f2).wf = true ∧ (∀ x ∈ t.f3, tyOk x) ∧ t.f3.length * Try.prog.bytesOf 37 ≤ reachBytes) : tyOk t := by
 obtain ⟨k, s, n, es⟩ := t
 obtain ⟨_, _, h3, h4, _⟩ := h
 unfold tyOk
 refine ⟨int_le h3, ?_⟩
 cases es with
 | nil => trivial
 | cons e r => exact h4 e (List.mem_cons_self ..)
theorem c3 : Try.prog.cellsOf 3 = 1 := by kernel_rfl
theorem c4 : Try.prog.cellsOf 4 = 1 := by kernel_rfl
theorem c9 : Try.prog.cellsOf 9 = 1 := by kernel_rfl
theorem c23 : Try.prog.cellsOf 23 = 1 := by kernel_rfl
theorem c30 : Try.prog.cellsOf 30 = 2 := by kernel_rfl
theorem c32 : Try.prog.cellsOf 32 = 1 := by kernel_rfl
theorem c34 : Try.prog.cellsOf 34 = 2 := by kernel_rfl
theorem c35 : Try.prog.cellsOf 35 = 1 := by kernel_rfl
theorem c37 : Try.prog.cellsOf 37 = 4 := by kernel_rfl
theorem c38 : Try.prog.cellsOf 38 = 1 := by kernel_rfl
theorem c40 : Try.prog.cellsOf 40 = 18 := by kernel_rfl
theorem c41 : Try.prog.cellsOf 41 = 1 := by kernel_rfl
theorem c43 : Try.prog.cellsOf 43 = 6 := by kernel_rfl
theorem c45 : Try.prog.cellsOf 45 = 7 := by kernel_rfl
theorem c46 : Try.prog.cellsOf 46 = 1 := by kernel_rfl
theorem c48 : Try.prog.cellsOf 48 = 6 := by kernel_rfl
theorem c57 : Try.prog.cellsOf 57 = 3 := by kernel_rfl
theorem opens30 (n : Nat) : Opens Try.prog 30 n k30 (fun _ => True) (fun _ => 0) :=
 imp (of_iso (fun y => ⟨y.1, y.2⟩) (fun _ => rfl) (of_struct Try.underlying30 c30 (fun j hj => fs_cons (of_bool Try.underlying4 j) rfl c4 (fs_one (of_int Try.underlying3 j) rfl c3)))) (fun _ _ => trivial) (fun _ => Nat.zero_le _)
theorem opens57 (n : Nat) : Opens Try.prog 57 n k57 (fun _ => True) (fun _ => 0) :=
 imp (of_iso (fun y => ⟨y.1, y.2.1, y.2.2⟩) (fun _ => rfl) (of_struct Try.underlying57 c57 (fun j hj => fs_cons (of_int Try.underlying3 j) rfl c3 (fs_cons (of_int Try.underlying3 j) rfl c3 (fs_one (of_int Try.underlying3 j) rfl c3))))) (fun _ _ => trivial) (fun _ => Nat.zero_le _)
theorem opens34 (n : Nat) : Opens Try.prog 34 n k34 (fun p => p.f1.length < 4611686018427387904) (fun _ => 0) :=
 imp (of_iso (fun y => ⟨y.1, y.2⟩) (fun _ => rfl) (of_struct Try.underlying34 c34 (fun j hj => fs_cons (of_int Try.underlying3 j) rfl c3 (fs_one (of_slice Try.underlying32 c57.symm (fun i hi => opens57 i)) rfl c32)))) (fun _ h => len_of h.2.2 b57) (fun _ => Nat.zero_le _)
theorem upto37 (n : Nat) : Opens Try.prog 37 n (Kd.upto F37 4 [37] n) tyOk (fun _ => 0) := by
 induction n using Nat.strongRecOn with
 | _ n ih =>
 cases n with
 | zero => exact of_zero
 | succ n => exact imp (of_iso (fun y => ⟨y.1, y.2.1, y.2.2.1, y.2.2.2⟩) (fun _ => rfl) (of_struct Try.underlying37 c37 (fun j hj => fs_cons (of_int Try.underlying3 j) rfl c3 (fs_cons (of_string Try.underlying9 j) rfl c9 (fs_cons (of_int Try.underlying3 j) rfl c3 (fs_one (of_slice Try.underlying35 ((sz37 n).trans c37.symm) (fun i hi => upto_mono mono37 sz37 (show i ≤ n by omega) (ih i (by omega)))) rfl c35)))))) ty_of (fun _ => Nat.zero_le _)
theorem opens37 (n : Nat) : Opens Try.prog 37 n k37 tyOk (fun _ => 0) := of_fix n (upto37 n)
theorem opens40 (n : Nat) : Opens Try.prog 40 n k40 SzI (fun _ => 0) :=
 imp (of_iso (fun y => ⟨y.1, y.2.1, y.2.2.1, y.2.2.2.1, y.2.2.2.2.1, y.2.2.2.2.2.1, y.2.2.2.2.2.2.1, y.2.2.2.2.2.2.2.1, y.2.2.2.2.2.2.2.2.1, y.2.2.2.2.2.2.2.2.2.1, y.2.2.2.2.2.2.2.2.2.2⟩) (fun _ => rfl) (of_struct Try.underlying40 c40 (fun j hj => fs_cons (of_int Try.underlying3 j) rfl c3 (fs_cons (of_int Try.underlying3 j) rfl c3 (fs_cons (opens30 j) rfl c30 (fs_cons (opens30 j) rfl c30 (fs_cons (opens34 j) rfl c34 (fs_cons (opens34 j) rfl c34 (fs_cons (of_int Try.underlying3 j) rfl c3 (fs_cons (of_string Try.underlying9 j) rfl c9 (fs_cons (opens37 j) rfl c37 (fs_cons (of_slice Try.underlying38 c30.symm (fun i hi => opens30 i)) rfl c38 (fs_one (of_slice Try.underlying23 c3.symm (fun i hi => (of_int Try.underlying3 i))) rfl c23))))))))))))) (fun _ ⟨h0, h1, h2, h3, h4, h5, h6, h7, h8, h9, h10⟩ => ⟨h4, h5, len_of h9.2 b30, len_of h10.2 b3, h8⟩) (fun _ => Nat.zero_le _)
theorem opens43 (n : Nat) : Opens Try.prog 43 n k43 (fun t => t.f4.length < 4611686018427387904) (fun _ => 0) :=
 imp (of_iso (fun y => ⟨y.1, y.2.1, y.2.2.1, y.2.2.2.1, y.2.2.2.2⟩) (fun _ => rfl) (of_struct Try.underlying43 c43 (fun j hj => fs_cons (of_int Try.underlying3 j) rfl c3 (fs_cons (opens30 j) rfl c30 (fs_cons (of_int Try.underlying3 j) rfl c3 (fs_cons (of_int Try.underlying3 j) rfl c3 (fs_one (of_slice Try.underlying38 c30.symm (fun i hi => opens30 i)) rfl c38))))))) (fun _ ⟨h0, h1, h2, h3, h4⟩ => len_of h4.2 b30) (fun _ => Nat.zero_le _)
theorem opens45 (n : Nat) : Opens Try.prog 45 n k45 SzB (fun _ => 0) :=
 imp (of_iso (fun y => ⟨y.1, y.2⟩) (fun _ => rfl) (of_struct Try.underlying45 c45 (fun j hj => fs_cons (of_slice Try.underlying41 c40.symm (fun i hi => opens40 i)) rfl c41 (fs_one (opens43 j) rfl c43)))) (fun _ ⟨h0, h1⟩ => ⟨len_of h0.2 b40, h1, h0.1⟩) (fun _ => Nat.zero_le _)
theorem opens48 (n : Nat) : Opens Try.prog 48 n k48 SzF (fun _ => 0) :=
 imp (of_iso (fun y => ⟨y.1, y.2.1, y.2.2.1, y.2.2.2.1, y.2.2.2.2.1, y.2.2.2.2.2⟩) (fun _ => rfl) (of_struct Try.underlying48 c48 (fun j hj => fs_cons (of_string Try.underlying9 j) rfl c9 (fs_cons (of_slice Try.underlying23 c3.symm (fun i hi => (of_int Try.underlying3 i))) rfl c23 (fs_cons (of_int Try.underlying3 j) rfl c3 (fs_cons (of_int Try.underlying3 j) rfl c3 (fs_cons (of_bool Try.underlying4 j) rfl c4 (fs_one (of_slice Try.underlying46 c45.symm (fun i hi => opens45 i)) rfl c46)))))))) (fun _ ⟨h0, h1, h2, h3, h4, h5⟩ => ⟨len_of h1.2 b3, len_of h5.2 b45, h5.1⟩) (fun _ => Nat.zero_le _)
end Go.Proofs.Ytpphpcmbpbppoaa.OpenK
end
