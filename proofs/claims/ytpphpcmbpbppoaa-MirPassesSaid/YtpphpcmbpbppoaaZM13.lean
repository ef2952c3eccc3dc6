/- Steps toward laws of the middle form (M), merged from several texts (some of them began as the kit's print). No condition. -/
import Derived.Laws.BitsAllLaws
import Derived.Test.YtpphpcmbpbppoaaZM12
section
namespace Go.Proofs.Ytpphpcmbpbppoaa.Mach
open Go.Proofs.Ytpphpcmbpbppoaa.Form (ChkT)
open Go.RowKit Go.Proofs.YtpphpcmbpbppoaaW.PrintWords Go.Proofs.YtpphpcmbpbppoaaW.PrintLast Go.Proofs.YtpphpcmbpbppoaaW.PrintMore
open Go.Proofs.Ytpphpcmbpbppoaa.Calm
open Go.Proofs.Ytpphpcmbpbppoaa.PMirFuel (S30 S57 S34 S37 S40 S43 S45 S48 k30 k57 k34 k37 k40 k43 k45 k48 rd_T30 rd_T57 rd_T34 rd_T37 rd_T40 rd_T43 rd_T45 rd_T48 at_T30 at_T57 at_T34 at_T40 at_T45 at_T48)
set_option linter.unusedVariables false
set_option linter.unusedSimpArgs false
structure RunMade (w0 w' : World) (MC : Array Value) (h : Nat) (u : Nat → Nat) (c m p : Nat) : Prop where
  B : Below w0.heap.size w0 w'
  H : HeapIs w' h u (fun _ _ => false)
  lh : w0.heap.size ≤ h
  lu : ∀ k, k < 4 → w0.heap.size ≤ u k
  C : Has w' c (madeCells #[.int .i64 0] 2816) 3
  lc : w0.heap.size ≤ c
  M : Has w' m MC 93
  lm : w0.heap.size ≤ m
  P : Has w' p #[.pointer (some ⟨m, 0, none⟩)] 88
  lp : w0.heap.size ≤ p
theorem RunFacts.mk {w0 W : World} {MC : Array Value} {h : Nat} {u : Nat → Nat} {c m p : Nat} (B : Below w0.heap.size w0 W) (H : HeapIs W h u (fun _ _ => false)) (lh : w0.heap.size ≤ h) (lu : ∀ k, k < 4 → w0.heap.size ≤ u k) (C : Has W c (madeCells #[.int .i64 0] 2816) 3) (lc : w0.heap.size ≤ c)
    (M : Has W m MC 93) (lm : w0.heap.size ≤ m) (P : Has W p #[.pointer none] 88) (lp : w0.heap.size ≤ p) : RunMade w0 (W.setCell ⟨p, 0, none⟩ (.pointer (some ⟨m, 0, none⟩))) MC h u c m p :=
  ⟨B.setCell lp _, H.other (H.head.ne P (by decide)) (fun k hk => (H.row k hk).ne P (by decide)) _, lh, lu, C.other (C.ne P (by decide)) _, lc, M.other (M.ne P (by decide)) _, lm, P.set_ 0 _, lp⟩
def mainT : ByteArray := ⟨#[109, 97, 105, 110]⟩
theorem make_ints (n : Nat) (h : n ≤ 17592186044416) : ∀ W : World, (Instr.makeSlice 23 (.int .i64 (n : Int)) (.int .i64 (n : Int))).run Try.prog W = .ok (.slice (some ⟨W.heap.size, 0, none⟩) n n) (W.alloc (.cells (madeCells #[.int .i64 0] n) 3)) :=
  print_make_of (P := Try.prog) 23 3 (.int .i64 0) 8 Try.underlying23 info3 rfl (by omega) n (by omega)
theorem made_cells : madeCells #[Value.int .i64 0] 2816 = cellsA (fun _ => 0) := by
  apply Array.ext
  · simp [size_madeCells, cellsA, rowF]
  · intro i h1 h2
    simp [madeCells, cellsA, rowF, Nat.mod_one]
def st0 (fuel : Int) (inp : List Int) : St := ⟨fuel, 0, 0, 0, inp, [], [], fun _ _ => false, fun _ => 0⟩
abbrev runS (m h c : Nat) (u : Nat → Nat) : Nat → Prop := fun b => b = m ∨ b = h ∨ (∃ k, k < 4 ∧ b = u k) ∨ b = c
theorem RunMade.in0 {w w0 w' : World} {l : List S48} {ad : Addr} {c1 : Nat} {fuel : Int} {Ai : Option Addr} {inp : List Int} {ci h c m p : Nat} {u : Nat → Nat}
    (R : RunMade w0 w' #[.slice none 0 0, .slice (some ad) l.length c1, .int .i64 fuel, .int .i64 0, .slice Ai inp.length ci, .slice none 0 0, .slice none 0 0, .pointer (some ⟨h, 0, none⟩), .slice (some ⟨c, 0, none⟩) 2816 2816, .int .i64 0, .int .i64 0, .pointer none] h u c m p) (hb : Below w.heap.size w w') (hw : w.heap.size ≤ w0.heap.size) (HI : ReadsInt w .i64 Ai inp.length inp) (hic : inp.length ≤ ci) :
    In0 ⟨w, m, some ad, c1, l⟩ (runS m h c u) ⟨h, c, u, .slice none 0 0, .slice none 0 0, Ai, ci, some ad, c1, l.length⟩ (st0 fuel inp) w' := by
  have HC : Has w' c (cellsA (fun _ => 0)) 3 := made_cells ▸ R.C
  refine ⟨⟨R.M, R.H, HC, own_nil _ _ _ _, own_nil _ _ _ _, .inl rfl, .inr (.inl rfl), fun k hk => .inr (.inr (.inl ⟨k, hk, rfl⟩)), .inr (.inr (.inr rfl)), fun b e => (by simp [Value.ownBlock] at e), fun b e => (by simp [Value.ownBlock] at e), by simp [Value.ownBlock], by simp [Value.ownBlock], .inl rfl, fun v hv => (by simp [st0] at hv), fun j => (by simp [st0])⟩, rfl, rfl, rfl, hb, ?_, HI, hic, ?_⟩
  · have := R.lm; have := R.lh; have := R.lc; have := R.lu
    rintro b (rfl | rfl | ⟨k, hk, rfl⟩ | rfl)
    · show w.heap.size ≤ _; omega
    · show w.heap.size ≤ _; omega
    · show w.heap.size ≤ _; have := R.lu k hk; omega
    · show w.heap.size ≤ _; omega
  · rintro b (rfl | rfl | ⟨k, hk, rfl⟩ | rfl)
    · exact R.M.lt
    · exact R.H.head.lt
    · exact (R.H.row k hk).lt
    · exact R.C.lt
theorem call0_any {G : Glob} {S : Nat → Prop} {L : Lay} {st : St} {w : World} (I : In0 G S L st w) {q : Addr} {f : S48} {A1 A5 : Option Addr} {c1 c5 : Nat} (M : MA G.w0 q f A1 c1 A5 c5) (hl : f.f1.length < 100000) (hN : st.stack.length + need f.f1 < 1099511627776)
    (h0 : ∀ k, k ∈ f.f1 → 0 ≤ k) {av : Value} {vs : List Int} (V : ArgsAt S w av vs) (hvn : vs.length ≤ need f.f1) (hc : st.calls = 0) (hd : st.depth = 0) {X : Runs} (B : EntersOk G q f st vs X) :
    Calls Try.prog 29 #[.pointer (some ⟨G.m, 0, none⟩), .pointer (some q), av] w (CPost0 G S (callP X st [] f vs) w) := by
  cases hq : f.f4 with
  | true => exact call0_quiet I M hl hN h0 V hvn hq (by omega) (by omega) (by omega) B
  | false => exact call0_loud I M hl hN h0 V hvn hq (by omega) (by omega) (by omega) (by omega) B
theorem CPost0.cases {G : Glob} {S : Nat → Prop} {r : ResC} {w w' : World} {e : Ending} (h : CPost0 G S r w e w') :
    (∃ st' held out v S' L', r = .ok st' held out ∧ e = .returned v ∧ Kept S w w' ∧ (∀ b, S' b → S b ∨ w.heap.size ≤ b) ∧ In0 G S' L' st' w') ∨
    ∃ k c st' ch, r = .halt k c st' ∧ e = .panicked ch ∧ Kept S w w' ∧ HaltCh ch k c ∧ ∃ S' L' x', (∀ b, S' b → S b ∨ w.heap.size ≤ b) ∧ Rep S' G.m L' x' st' w' := by
  cases r with
  | ok st held out => obtain ⟨K, v, he, S', L', hs, I⟩ := h; exact .inl ⟨st, held, out, v, S', L', rfl, he, K, hs, I⟩
  | halt k c st => obtain ⟨K, ⟨ch, he, hc⟩, R⟩ := h; exact .inr ⟨k, c, st, ch, rfl, he, K, hc, R⟩
set_option maxRecDepth 100000 in
set_option maxHeartbeats 8000000 in
theorem run_ok (l : List S48) (A1 : Option Addr) (c1 : Nat) (Ai : Option Addr) (inp : List Int) (ci : Nat) (fuel : Int) (w : World) (HL : Kd.C k48 w A1 l.length l) (hlc : l.length ≤ c1) (HI : ReadsInt w .i64 Ai inp.length inp) (hic : inp.length ≤ ci) (CT : ChkT l) (FS : Forms l) {k : Int} (hk : findP l mainT = k) (hk0 : 0 ≤ k) {f : S48} (hf : rd_T48 l k = f) (hp : f.f2 = 0) (ha : f.f3 = 0) (hfu : fuel ≤ 1000000000000) :
    Calls Try.prog 9 #[.slice none 0 0, .slice A1 l.length c1, .slice Ai inp.length ci, .int .i64 fuel] w fun e w' => RunPost (callP (XR l fuel.toNat) (st0 fuel inp) [] f []) w e w' := by
  have hkb : k < l.length := by rcases findP_bounds l mainT with h | h <;> omega
  obtain ⟨ad, B1, b1, B5, b5, e, r0, r1, r2, r3, r4, r5, rl1, rg1, rl5, rg5⟩ := at_T48 HL k hk0 hkb
  subst e
  obtain ⟨ad2, D1, d1, D5, d5, e2, hMA⟩ := MA.of HL k hk0 hkb
  obtain rfl : ad = ad2 := Option.some.inj e2
  rw [hf] at hMA
  have HMA := Aside0.mk hMA
  have HFF := Aside0.mk (hf ▸ FS k hk0 hkb)
  clear hMA e2
  rw [hf, hp] at r2
  rw [hf, ha] at r3
  have dk : decide (k < 0) = false := by simp; omega
  have HLL := Aside0.mk HL
  have HII := Aside0.mk HI
  have HCT := Aside0.mk CT
  have HFS := Aside0.mk FS
  have HHK := Aside0.mk hk
  have hll := CT.1
  clear HL HI CT FS hk hf hp ha rl1 rg1 rl5 rg5 r0 r1 r4 r5
  have hmf : ∀ (fn : Fn) (first cap : Array Value) (w : World), (Instr.makeFunc fn first cap).run Try.prog w = .ok (.func fn first cap) w := fun _ _ _ _ => rfl
  have mki : ∀ W : World, (Instr.makeSlice 23 (.int .i64 2816) (.int .i64 2816)).run Try.prog W = .ok (.slice (some ⟨W.heap.size, 0, none⟩) 2816 2816) (W.alloc (.cells (madeCells #[.int .i64 0] 2816) 3)) := make_ints 2816 (by omega)
  go_enter_defers Try.func9, Try.ntmps9
  go_wp2
  obtain ⟨W00, hW00⟩ : ∃ W, ((w.alloc (Obj.cells #[.int .i64 0, .int .i64 0, .slice none 0 0] 26)).alloc (Obj.cells #[.int .i64 0] 3)) = W := ⟨_, rfl⟩
  rw [hW00]
  refine region_tree (by kernel_rfl) (fun a' w' => ∃ h u c m p, a' = { tmps := #[.slice none 0 0, .slice (some ad) l.length c1, .slice Ai inp.length ci, .int .i64 fuel, undef, undef, undef, undef, .pointer (some ⟨w.heap.size, 0, none⟩), .pointer (some ⟨w.heap.size + 1, 0, none⟩), .pointer (some ⟨p, 0, none⟩), undef, .slice none 0 0, .slice (some ad) l.length c1, .int .i64 fuel, .slice Ai inp.length ci, .pointer (some ⟨h, 0, none⟩), .slice (some ⟨c, 0, none⟩) 2816 2816, .agg #[.slice none 0 0, .slice (some ad) l.length c1, .int .i64 fuel, .int .i64 0, .slice Ai inp.length ci, .slice none 0 0, .slice none 0 0, .pointer (some ⟨h, 0, none⟩), .slice (some ⟨c, 0, none⟩) 2816 2816, .int .i64 0, .int .i64 0, .pointer none], .pointer (some ⟨m, 0, none⟩), undef, undef, undef, undef, undef, undef, undef, undef, undef, undef, undef, undef, undef, undef, undef, undef, undef, undef, undef, undef, undef, undef, undef, undef, undef, undef, undef, undef, undef, undef, undef, undef, undef, undef], defers := [] } ∧ RunMade W00.drew w' #[.slice none 0 0, .slice (some ad) l.length c1, .int .i64 fuel, .int .i64 0, .slice Ai inp.length ci, .slice none 0 0, .slice none 0 0, .pointer (some ⟨h, 0, none⟩), .slice (some ⟨c, 0, none⟩) 2816 2816, .int .i64 0, .int .i64 0, .pointer none] h u c m p) ?_ ?_
  · obtain ⟨W0, hW0⟩ : ∃ W, W00.drew = W := ⟨_, rfl⟩
    rw [hW0]
    have b0 := Below.refl W0.heap.size W0
    refine tree_h (i := 0) (by kernel_rfl) (by rfl) (by rfl) (by kernel_rfl) (by rfl) ?_
    apply Exists.intro
    apply And.intro
    · intro w'
      apply VR.mk
      go_simp
      with_reducible rfl
    simp only [List.setIfInBounds_toArray, List.set_cons_zero, List.set_cons_succ]
    refine tree_h (i := 1) (by kernel_rfl) (by rfl) (by rfl) (by kernel_rfl) (by rfl) ?_
    apply Exists.intro
    apply And.intro
    · intro w'
      apply VR.mk
      go_simp
      with_reducible rfl
    simp only [List.setIfInBounds_toArray, List.set_cons_zero, List.set_cons_succ]
    refine tree_h (i := 2) (by kernel_rfl) (by rfl) (by rfl) (by kernel_rfl) (by rfl) ?_
    apply Exists.intro
    apply And.intro
    · intro w'
      apply VR.mk
      go_simp
      with_reducible rfl
    simp only [List.setIfInBounds_toArray, List.set_cons_zero, List.set_cons_succ]
    refine tree_h (i := 3) (by kernel_rfl) (by rfl) (by rfl) (by kernel_rfl) (by rfl) ?_
    apply Exists.intro
    apply And.intro
    · intro w'
      apply VR.mk
      go_simp
      with_reducible rfl
    simp only [List.setIfInBounds_toArray, List.set_cons_zero, List.set_cons_succ]
    refine tree_3 (i := 4) (k := 5) (m := 8) (by kernel_rfl) ?_ ?_ ?_
    · refine step_call (by rfl) (by rfl) (by rfl) (ER.go (by go_simp; with_reducible exact ⟨rfl, rfl⟩)) ?_
      refine (new_heap W0).mono ?_
      rintro e V1 ⟨h1, u1, rfl, hb1, HP1, hh1, hu1⟩
      refine ⟨_, rfl, ?_⟩
      simp only [List.setIfInBounds_toArray, List.set_cons_zero, List.set_cons_succ]
      have bn1 := below_then b0 (b0).size hb1
      have lh1 : W0.heap.size ≤ h1 := Nat.le_trans (b0).size hh1
      have lu1 : ∀ k, k < 4 → W0.heap.size ≤ u1 k := fun k hk => Nat.le_trans (b0).size (hu1 k hk)
      refine tree_2 (i := 5) (k := 8) (by kernel_rfl) ?_ ?_
      · refine step_value (v := .slice (some ⟨V1.heap.size, 0, none⟩) 2816 2816) (w' := V1.alloc (Obj.cells (madeCells #[.int .i64 0] 2816) 3)) (by rfl) (by rfl) (by rfl) ⟨by go_simp⟩ ?_
        simp only [List.setIfInBounds_toArray, List.set_cons_zero, List.set_cons_succ]
        obtain ⟨V2, e2⟩ : ∃ V, V1.alloc (Obj.cells (madeCells #[.int .i64 0] 2816) 3) = V := ⟨_, rfl⟩
        rw [e2]
        have hb2 : Below V1.heap.size V1 V2 := e2 ▸ below_alloc (Below.refl _ V1) _
        have N2 : Has V2 V1.heap.size (madeCells #[.int .i64 0] 2816) 3 := e2 ▸ Has.new V1 _ 3
        have ln2 : W0.heap.size ≤ V1.heap.size := (bn1).size
        have bn2 := below_then bn1 (bn1).size hb2
        have H2 := (HP1).below hb2
        refine tree_h (i := 6) (by kernel_rfl) (by rfl) (by rfl) (by kernel_rfl) (by rfl) ?_
        apply Exists.intro
        apply And.intro
        · intro w'
          apply VR.mk
          go_simp
          with_reducible rfl
        simp only [List.setIfInBounds_toArray, List.set_cons_zero, List.set_cons_succ]
        refine tree_2 (i := 7) (k := 8) (by kernel_rfl) ?_ ?_
        · refine step_value (v := .pointer (some ⟨V2.heap.size, 0, none⟩)) (w' := V2.alloc (Obj.cells #[.slice none 0 0, .slice (some ad) l.length c1, .int .i64 fuel, .int .i64 0, .slice Ai inp.length ci, .slice none 0 0, .slice none 0 0, .pointer (some ⟨h1, 0, none⟩), .slice (some ⟨V1.heap.size, 0, none⟩) 2816 2816, .int .i64 0, .int .i64 0, .pointer none] 93)) (by rfl) (by rfl) (by rfl) ⟨by go_simp⟩ ?_
          simp only [List.setIfInBounds_toArray, List.set_cons_zero, List.set_cons_succ]
          obtain ⟨V3, e3⟩ : ∃ V, V2.alloc (Obj.cells #[.slice none 0 0, .slice (some ad) l.length c1, .int .i64 fuel, .int .i64 0, .slice Ai inp.length ci, .slice none 0 0, .slice none 0 0, .pointer (some ⟨h1, 0, none⟩), .slice (some ⟨V1.heap.size, 0, none⟩) 2816 2816, .int .i64 0, .int .i64 0, .pointer none] 93) = V := ⟨_, rfl⟩
          rw [e3]
          have hb3 : Below V2.heap.size V2 V3 := e3 ▸ below_alloc (Below.refl _ V2) _
          have N3 : Has V3 V2.heap.size #[.slice none 0 0, .slice (some ad) l.length c1, .int .i64 fuel, .int .i64 0, .slice Ai inp.length ci, .slice none 0 0, .slice none 0 0, .pointer (some ⟨h1, 0, none⟩), .slice (some ⟨V1.heap.size, 0, none⟩) 2816 2816, .int .i64 0, .int .i64 0, .pointer none] 93 := e3 ▸ Has.new V2 _ 93
          have ln3 : W0.heap.size ≤ V2.heap.size := (bn2).size
          have bn3 := below_then bn2 (bn2).size hb3
          have C3 := (N2).belowS hb3
          have H3 := (H2).below hb3
          refine tree_1 (i := 8) (by kernel_rfl) ?_
          · refine step_value (v := .pointer (some ⟨V3.heap.size, 0, none⟩)) (w' := V3.alloc (Obj.cells #[.pointer none] 88)) (by rfl) (by rfl) (by rfl) ⟨by go_simp⟩ ?_
            simp only [List.setIfInBounds_toArray, List.set_cons_zero, List.set_cons_succ]
            obtain ⟨V4, e4⟩ : ∃ V, V3.alloc (Obj.cells #[.pointer none] 88) = V := ⟨_, rfl⟩
            rw [e4]
            have hb4 : Below V3.heap.size V3 V4 := e4 ▸ below_alloc (Below.refl _ V3) _
            have N4 : Has V4 V3.heap.size #[.pointer none] 88 := e4 ▸ Has.new V3 _ 88
            have ln4 : W0.heap.size ≤ V3.heap.size := (bn3).size
            have bn4 := below_then bn3 (bn3).size hb4
            have C4 := (C3).belowS hb4
            have M4 := (N3).belowS hb4
            have H4 := (H3).below hb4
            refine tree_1 (i := 9) (by kernel_rfl) ?_
            · have cp5 := (N4).cell 0
              have fp5 := (N4).frozen 0
              simp only [List.getElem?_toArray, List.getElem?_cons_zero] at cp5
              refine step_store (w' := V4.setCell ⟨V3.heap.size, 0, none⟩ (.pointer (some ⟨V2.heap.size, 0, none⟩))) (by rfl) (by rfl) (by rfl) ⟨by go_simp⟩ ?_
              refine tree_end (by kernel_rfl) ?_
              exact ⟨h1, u1, V1.heap.size, V2.heap.size, V3.heap.size, rfl, RunFacts.mk (bn4) (H4) lh1 lu1 (C4) ln2 (M4) ln3 (N4) ln4⟩
        · refine step_value (v := .pointer (some ⟨V2.heap.size, 0, none⟩)) (w' := V2.alloc (Obj.cells #[.pointer none] 88)) (by rfl) (by rfl) (by rfl) ⟨by go_simp⟩ ?_
          simp only [List.setIfInBounds_toArray, List.set_cons_zero, List.set_cons_succ]
          obtain ⟨V6, e6⟩ : ∃ V, V2.alloc (Obj.cells #[.pointer none] 88) = V := ⟨_, rfl⟩
          rw [e6]
          have hb6 : Below V2.heap.size V2 V6 := e6 ▸ below_alloc (Below.refl _ V2) _
          have N6 : Has V6 V2.heap.size #[.pointer none] 88 := e6 ▸ Has.new V2 _ 88
          have ln6 : W0.heap.size ≤ V2.heap.size := (bn2).size
          have bn6 := below_then bn2 (bn2).size hb6
          have C6 := (N2).belowS hb6
          have H6 := (H2).below hb6
          refine tree_1 (i := 7) (by kernel_rfl) ?_
          · refine step_value (v := .pointer (some ⟨V6.heap.size, 0, none⟩)) (w' := V6.alloc (Obj.cells #[.slice none 0 0, .slice (some ad) l.length c1, .int .i64 fuel, .int .i64 0, .slice Ai inp.length ci, .slice none 0 0, .slice none 0 0, .pointer (some ⟨h1, 0, none⟩), .slice (some ⟨V1.heap.size, 0, none⟩) 2816 2816, .int .i64 0, .int .i64 0, .pointer none] 93)) (by rfl) (by rfl) (by rfl) ⟨by go_simp⟩ ?_
            simp only [List.setIfInBounds_toArray, List.set_cons_zero, List.set_cons_succ]
            obtain ⟨V7, e7⟩ : ∃ V, V6.alloc (Obj.cells #[.slice none 0 0, .slice (some ad) l.length c1, .int .i64 fuel, .int .i64 0, .slice Ai inp.length ci, .slice none 0 0, .slice none 0 0, .pointer (some ⟨h1, 0, none⟩), .slice (some ⟨V1.heap.size, 0, none⟩) 2816 2816, .int .i64 0, .int .i64 0, .pointer none] 93) = V := ⟨_, rfl⟩
            rw [e7]
            have hb7 : Below V6.heap.size V6 V7 := e7 ▸ below_alloc (Below.refl _ V6) _
            have N7 : Has V7 V6.heap.size #[.slice none 0 0, .slice (some ad) l.length c1, .int .i64 fuel, .int .i64 0, .slice Ai inp.length ci, .slice none 0 0, .slice none 0 0, .pointer (some ⟨h1, 0, none⟩), .slice (some ⟨V1.heap.size, 0, none⟩) 2816 2816, .int .i64 0, .int .i64 0, .pointer none] 93 := e7 ▸ Has.new V6 _ 93
            have ln7 : W0.heap.size ≤ V6.heap.size := (bn6).size
            have bn7 := below_then bn6 (bn6).size hb7
            have C7 := (C6).belowS hb7
            have P7 := (N6).belowS hb7
            have H7 := (H6).below hb7
            refine tree_1 (i := 9) (by kernel_rfl) ?_
            · have cp8 := (P7).cell 0
              have fp8 := (P7).frozen 0
              simp only [List.getElem?_toArray, List.getElem?_cons_zero] at cp8
              refine step_store (w' := V7.setCell ⟨V2.heap.size, 0, none⟩ (.pointer (some ⟨V6.heap.size, 0, none⟩))) (by rfl) (by rfl) (by rfl) ⟨by go_simp⟩ ?_
              refine tree_end (by kernel_rfl) ?_
              exact ⟨h1, u1, V1.heap.size, V6.heap.size, V2.heap.size, rfl, RunFacts.mk (bn7) (H7) lh1 lu1 (C7) ln2 (N7) ln7 (P7) ln6⟩
      · refine step_value (v := .pointer (some ⟨V1.heap.size, 0, none⟩)) (w' := V1.alloc (Obj.cells #[.pointer none] 88)) (by rfl) (by rfl) (by rfl) ⟨by go_simp⟩ ?_
        simp only [List.setIfInBounds_toArray, List.set_cons_zero, List.set_cons_succ]
        obtain ⟨V9, e9⟩ : ∃ V, V1.alloc (Obj.cells #[.pointer none] 88) = V := ⟨_, rfl⟩
        rw [e9]
        have hb9 : Below V1.heap.size V1 V9 := e9 ▸ below_alloc (Below.refl _ V1) _
        have N9 : Has V9 V1.heap.size #[.pointer none] 88 := e9 ▸ Has.new V1 _ 88
        have ln9 : W0.heap.size ≤ V1.heap.size := (bn1).size
        have bn9 := below_then bn1 (bn1).size hb9
        have H9 := (HP1).below hb9
        refine tree_1 (i := 5) (by kernel_rfl) ?_
        · refine step_value (v := .slice (some ⟨V9.heap.size, 0, none⟩) 2816 2816) (w' := V9.alloc (Obj.cells (madeCells #[.int .i64 0] 2816) 3)) (by rfl) (by rfl) (by rfl) ⟨by go_simp⟩ ?_
          simp only [List.setIfInBounds_toArray, List.set_cons_zero, List.set_cons_succ]
          obtain ⟨V10, e10⟩ : ∃ V, V9.alloc (Obj.cells (madeCells #[.int .i64 0] 2816) 3) = V := ⟨_, rfl⟩
          rw [e10]
          have hb10 : Below V9.heap.size V9 V10 := e10 ▸ below_alloc (Below.refl _ V9) _
          have N10 : Has V10 V9.heap.size (madeCells #[.int .i64 0] 2816) 3 := e10 ▸ Has.new V9 _ 3
          have ln10 : W0.heap.size ≤ V9.heap.size := (bn9).size
          have bn10 := below_then bn9 (bn9).size hb10
          have P10 := (N9).belowS hb10
          have H10 := (H9).below hb10
          refine tree_h (i := 6) (by kernel_rfl) (by rfl) (by rfl) (by kernel_rfl) (by rfl) ?_
          apply Exists.intro
          apply And.intro
          · intro w'
            apply VR.mk
            go_simp
            with_reducible rfl
          simp only [List.setIfInBounds_toArray, List.set_cons_zero, List.set_cons_succ]
          refine tree_1 (i := 7) (by kernel_rfl) ?_
          · refine step_value (v := .pointer (some ⟨V10.heap.size, 0, none⟩)) (w' := V10.alloc (Obj.cells #[.slice none 0 0, .slice (some ad) l.length c1, .int .i64 fuel, .int .i64 0, .slice Ai inp.length ci, .slice none 0 0, .slice none 0 0, .pointer (some ⟨h1, 0, none⟩), .slice (some ⟨V9.heap.size, 0, none⟩) 2816 2816, .int .i64 0, .int .i64 0, .pointer none] 93)) (by rfl) (by rfl) (by rfl) ⟨by go_simp⟩ ?_
            simp only [List.setIfInBounds_toArray, List.set_cons_zero, List.set_cons_succ]
            obtain ⟨V11, e11⟩ : ∃ V, V10.alloc (Obj.cells #[.slice none 0 0, .slice (some ad) l.length c1, .int .i64 fuel, .int .i64 0, .slice Ai inp.length ci, .slice none 0 0, .slice none 0 0, .pointer (some ⟨h1, 0, none⟩), .slice (some ⟨V9.heap.size, 0, none⟩) 2816 2816, .int .i64 0, .int .i64 0, .pointer none] 93) = V := ⟨_, rfl⟩
            rw [e11]
            have hb11 : Below V10.heap.size V10 V11 := e11 ▸ below_alloc (Below.refl _ V10) _
            have N11 : Has V11 V10.heap.size #[.slice none 0 0, .slice (some ad) l.length c1, .int .i64 fuel, .int .i64 0, .slice Ai inp.length ci, .slice none 0 0, .slice none 0 0, .pointer (some ⟨h1, 0, none⟩), .slice (some ⟨V9.heap.size, 0, none⟩) 2816 2816, .int .i64 0, .int .i64 0, .pointer none] 93 := e11 ▸ Has.new V10 _ 93
            have ln11 : W0.heap.size ≤ V10.heap.size := (bn10).size
            have bn11 := below_then bn10 (bn10).size hb11
            have C11 := (N10).belowS hb11
            have P11 := (P10).belowS hb11
            have H11 := (H10).below hb11
            refine tree_1 (i := 9) (by kernel_rfl) ?_
            · have cp12 := (P11).cell 0
              have fp12 := (P11).frozen 0
              simp only [List.getElem?_toArray, List.getElem?_cons_zero] at cp12
              refine step_store (w' := V11.setCell ⟨V1.heap.size, 0, none⟩ (.pointer (some ⟨V10.heap.size, 0, none⟩))) (by rfl) (by rfl) (by rfl) ⟨by go_simp⟩ ?_
              refine tree_end (by kernel_rfl) ?_
              exact ⟨h1, u1, V9.heap.size, V10.heap.size, V1.heap.size, rfl, RunFacts.mk (bn11) (H11) lh1 lu1 (C11) ln10 (N11) ln11 (P11) ln9⟩
    · refine step_value (v := .slice (some ⟨W0.heap.size, 0, none⟩) 2816 2816) (w' := W0.alloc (Obj.cells (madeCells #[.int .i64 0] 2816) 3)) (by rfl) (by rfl) (by rfl) ⟨by go_simp⟩ ?_
      simp only [List.setIfInBounds_toArray, List.set_cons_zero, List.set_cons_succ]
      obtain ⟨V13, e13⟩ : ∃ V, W0.alloc (Obj.cells (madeCells #[.int .i64 0] 2816) 3) = V := ⟨_, rfl⟩
      rw [e13]
      have hb13 : Below W0.heap.size W0 V13 := e13 ▸ below_alloc (Below.refl _ W0) _
      have N13 : Has V13 W0.heap.size (madeCells #[.int .i64 0] 2816) 3 := e13 ▸ Has.new W0 _ 3
      have ln13 : W0.heap.size ≤ W0.heap.size := (b0).size
      have bn13 := below_then b0 (b0).size hb13
      refine tree_2 (i := 4) (k := 8) (by kernel_rfl) ?_ ?_
      · refine step_call (by rfl) (by rfl) (by rfl) (ER.go (by go_simp; with_reducible exact ⟨rfl, rfl⟩)) ?_
        refine (new_heap V13).mono ?_
        rintro e V14 ⟨h14, u14, rfl, hb14, HP14, hh14, hu14⟩
        refine ⟨_, rfl, ?_⟩
        simp only [List.setIfInBounds_toArray, List.set_cons_zero, List.set_cons_succ]
        have bn14 := below_then bn13 (bn13).size hb14
        have lh14 : W0.heap.size ≤ h14 := Nat.le_trans (bn13).size hh14
        have lu14 : ∀ k, k < 4 → W0.heap.size ≤ u14 k := fun k hk => Nat.le_trans (bn13).size (hu14 k hk)
        have C14 := (N13).belowS hb14
        refine tree_h (i := 6) (by kernel_rfl) (by rfl) (by rfl) (by kernel_rfl) (by rfl) ?_
        apply Exists.intro
        apply And.intro
        · intro w'
          apply VR.mk
          go_simp
          with_reducible rfl
        simp only [List.setIfInBounds_toArray, List.set_cons_zero, List.set_cons_succ]
        refine tree_2 (i := 7) (k := 8) (by kernel_rfl) ?_ ?_
        · refine step_value (v := .pointer (some ⟨V14.heap.size, 0, none⟩)) (w' := V14.alloc (Obj.cells #[.slice none 0 0, .slice (some ad) l.length c1, .int .i64 fuel, .int .i64 0, .slice Ai inp.length ci, .slice none 0 0, .slice none 0 0, .pointer (some ⟨h14, 0, none⟩), .slice (some ⟨W0.heap.size, 0, none⟩) 2816 2816, .int .i64 0, .int .i64 0, .pointer none] 93)) (by rfl) (by rfl) (by rfl) ⟨by go_simp⟩ ?_
          simp only [List.setIfInBounds_toArray, List.set_cons_zero, List.set_cons_succ]
          obtain ⟨V15, e15⟩ : ∃ V, V14.alloc (Obj.cells #[.slice none 0 0, .slice (some ad) l.length c1, .int .i64 fuel, .int .i64 0, .slice Ai inp.length ci, .slice none 0 0, .slice none 0 0, .pointer (some ⟨h14, 0, none⟩), .slice (some ⟨W0.heap.size, 0, none⟩) 2816 2816, .int .i64 0, .int .i64 0, .pointer none] 93) = V := ⟨_, rfl⟩
          rw [e15]
          have hb15 : Below V14.heap.size V14 V15 := e15 ▸ below_alloc (Below.refl _ V14) _
          have N15 : Has V15 V14.heap.size #[.slice none 0 0, .slice (some ad) l.length c1, .int .i64 fuel, .int .i64 0, .slice Ai inp.length ci, .slice none 0 0, .slice none 0 0, .pointer (some ⟨h14, 0, none⟩), .slice (some ⟨W0.heap.size, 0, none⟩) 2816 2816, .int .i64 0, .int .i64 0, .pointer none] 93 := e15 ▸ Has.new V14 _ 93
          have ln15 : W0.heap.size ≤ V14.heap.size := (bn14).size
          have bn15 := below_then bn14 (bn14).size hb15
          have C15 := (C14).belowS hb15
          have H15 := (HP14).below hb15
          refine tree_1 (i := 8) (by kernel_rfl) ?_
          · refine step_value (v := .pointer (some ⟨V15.heap.size, 0, none⟩)) (w' := V15.alloc (Obj.cells #[.pointer none] 88)) (by rfl) (by rfl) (by rfl) ⟨by go_simp⟩ ?_
            simp only [List.setIfInBounds_toArray, List.set_cons_zero, List.set_cons_succ]
            obtain ⟨V16, e16⟩ : ∃ V, V15.alloc (Obj.cells #[.pointer none] 88) = V := ⟨_, rfl⟩
            rw [e16]
            have hb16 : Below V15.heap.size V15 V16 := e16 ▸ below_alloc (Below.refl _ V15) _
            have N16 : Has V16 V15.heap.size #[.pointer none] 88 := e16 ▸ Has.new V15 _ 88
            have ln16 : W0.heap.size ≤ V15.heap.size := (bn15).size
            have bn16 := below_then bn15 (bn15).size hb16
            have C16 := (C15).belowS hb16
            have M16 := (N15).belowS hb16
            have H16 := (H15).below hb16
            refine tree_1 (i := 9) (by kernel_rfl) ?_
            · have cp17 := (N16).cell 0
              have fp17 := (N16).frozen 0
              simp only [List.getElem?_toArray, List.getElem?_cons_zero] at cp17
              refine step_store (w' := V16.setCell ⟨V15.heap.size, 0, none⟩ (.pointer (some ⟨V14.heap.size, 0, none⟩))) (by rfl) (by rfl) (by rfl) ⟨by go_simp⟩ ?_
              refine tree_end (by kernel_rfl) ?_
              exact ⟨h14, u14, W0.heap.size, V14.heap.size, V15.heap.size, rfl, RunFacts.mk (bn16) (H16) lh14 lu14 (C16) ln13 (M16) ln15 (N16) ln16⟩
        · refine step_value (v := .pointer (some ⟨V14.heap.size, 0, none⟩)) (w' := V14.alloc (Obj.cells #[.pointer none] 88)) (by rfl) (by rfl) (by rfl) ⟨by go_simp⟩ ?_
          simp only [List.setIfInBounds_toArray, List.set_cons_zero, List.set_cons_succ]
          obtain ⟨V18, e18⟩ : ∃ V, V14.alloc (Obj.cells #[.pointer none] 88) = V := ⟨_, rfl⟩
          rw [e18]
          have hb18 : Below V14.heap.size V14 V18 := e18 ▸ below_alloc (Below.refl _ V14) _
          have N18 : Has V18 V14.heap.size #[.pointer none] 88 := e18 ▸ Has.new V14 _ 88
          have ln18 : W0.heap.size ≤ V14.heap.size := (bn14).size
          have bn18 := below_then bn14 (bn14).size hb18
          have C18 := (C14).belowS hb18
          have H18 := (HP14).below hb18
          refine tree_1 (i := 7) (by kernel_rfl) ?_
          · refine step_value (v := .pointer (some ⟨V18.heap.size, 0, none⟩)) (w' := V18.alloc (Obj.cells #[.slice none 0 0, .slice (some ad) l.length c1, .int .i64 fuel, .int .i64 0, .slice Ai inp.length ci, .slice none 0 0, .slice none 0 0, .pointer (some ⟨h14, 0, none⟩), .slice (some ⟨W0.heap.size, 0, none⟩) 2816 2816, .int .i64 0, .int .i64 0, .pointer none] 93)) (by rfl) (by rfl) (by rfl) ⟨by go_simp⟩ ?_
            simp only [List.setIfInBounds_toArray, List.set_cons_zero, List.set_cons_succ]
            obtain ⟨V19, e19⟩ : ∃ V, V18.alloc (Obj.cells #[.slice none 0 0, .slice (some ad) l.length c1, .int .i64 fuel, .int .i64 0, .slice Ai inp.length ci, .slice none 0 0, .slice none 0 0, .pointer (some ⟨h14, 0, none⟩), .slice (some ⟨W0.heap.size, 0, none⟩) 2816 2816, .int .i64 0, .int .i64 0, .pointer none] 93) = V := ⟨_, rfl⟩
            rw [e19]
            have hb19 : Below V18.heap.size V18 V19 := e19 ▸ below_alloc (Below.refl _ V18) _
            have N19 : Has V19 V18.heap.size #[.slice none 0 0, .slice (some ad) l.length c1, .int .i64 fuel, .int .i64 0, .slice Ai inp.length ci, .slice none 0 0, .slice none 0 0, .pointer (some ⟨h14, 0, none⟩), .slice (some ⟨W0.heap.size, 0, none⟩) 2816 2816, .int .i64 0, .int .i64 0, .pointer none] 93 := e19 ▸ Has.new V18 _ 93
            have ln19 : W0.heap.size ≤ V18.heap.size := (bn18).size
            have bn19 := below_then bn18 (bn18).size hb19
            have C19 := (C18).belowS hb19
            have P19 := (N18).belowS hb19
            have H19 := (H18).below hb19
            refine tree_1 (i := 9) (by kernel_rfl) ?_
            · have cp20 := (P19).cell 0
              have fp20 := (P19).frozen 0
              simp only [List.getElem?_toArray, List.getElem?_cons_zero] at cp20
              refine step_store (w' := V19.setCell ⟨V14.heap.size, 0, none⟩ (.pointer (some ⟨V18.heap.size, 0, none⟩))) (by rfl) (by rfl) (by rfl) ⟨by go_simp⟩ ?_
              refine tree_end (by kernel_rfl) ?_
              exact ⟨h14, u14, W0.heap.size, V18.heap.size, V14.heap.size, rfl, RunFacts.mk (bn19) (H19) lh14 lu14 (C19) ln13 (N19) ln19 (P19) ln18⟩
      · refine step_value (v := .pointer (some ⟨V13.heap.size, 0, none⟩)) (w' := V13.alloc (Obj.cells #[.pointer none] 88)) (by rfl) (by rfl) (by rfl) ⟨by go_simp⟩ ?_
        simp only [List.setIfInBounds_toArray, List.set_cons_zero, List.set_cons_succ]
        obtain ⟨V21, e21⟩ : ∃ V, V13.alloc (Obj.cells #[.pointer none] 88) = V := ⟨_, rfl⟩
        rw [e21]
        have hb21 : Below V13.heap.size V13 V21 := e21 ▸ below_alloc (Below.refl _ V13) _
        have N21 : Has V21 V13.heap.size #[.pointer none] 88 := e21 ▸ Has.new V13 _ 88
        have ln21 : W0.heap.size ≤ V13.heap.size := (bn13).size
        have bn21 := below_then bn13 (bn13).size hb21
        have C21 := (N13).belowS hb21
        refine tree_1 (i := 4) (by kernel_rfl) ?_
        · refine step_call (by rfl) (by rfl) (by rfl) (ER.go (by go_simp; with_reducible exact ⟨rfl, rfl⟩)) ?_
          refine (new_heap V21).mono ?_
          rintro e V22 ⟨h22, u22, rfl, hb22, HP22, hh22, hu22⟩
          refine ⟨_, rfl, ?_⟩
          simp only [List.setIfInBounds_toArray, List.set_cons_zero, List.set_cons_succ]
          have bn22 := below_then bn21 (bn21).size hb22
          have lh22 : W0.heap.size ≤ h22 := Nat.le_trans (bn21).size hh22
          have lu22 : ∀ k, k < 4 → W0.heap.size ≤ u22 k := fun k hk => Nat.le_trans (bn21).size (hu22 k hk)
          have C22 := (C21).belowS hb22
          have P22 := (N21).belowS hb22
          refine tree_h (i := 6) (by kernel_rfl) (by rfl) (by rfl) (by kernel_rfl) (by rfl) ?_
          apply Exists.intro
          apply And.intro
          · intro w'
            apply VR.mk
            go_simp
            with_reducible rfl
          simp only [List.setIfInBounds_toArray, List.set_cons_zero, List.set_cons_succ]
          refine tree_1 (i := 7) (by kernel_rfl) ?_
          · refine step_value (v := .pointer (some ⟨V22.heap.size, 0, none⟩)) (w' := V22.alloc (Obj.cells #[.slice none 0 0, .slice (some ad) l.length c1, .int .i64 fuel, .int .i64 0, .slice Ai inp.length ci, .slice none 0 0, .slice none 0 0, .pointer (some ⟨h22, 0, none⟩), .slice (some ⟨W0.heap.size, 0, none⟩) 2816 2816, .int .i64 0, .int .i64 0, .pointer none] 93)) (by rfl) (by rfl) (by rfl) ⟨by go_simp⟩ ?_
            simp only [List.setIfInBounds_toArray, List.set_cons_zero, List.set_cons_succ]
            obtain ⟨V23, e23⟩ : ∃ V, V22.alloc (Obj.cells #[.slice none 0 0, .slice (some ad) l.length c1, .int .i64 fuel, .int .i64 0, .slice Ai inp.length ci, .slice none 0 0, .slice none 0 0, .pointer (some ⟨h22, 0, none⟩), .slice (some ⟨W0.heap.size, 0, none⟩) 2816 2816, .int .i64 0, .int .i64 0, .pointer none] 93) = V := ⟨_, rfl⟩
            rw [e23]
            have hb23 : Below V22.heap.size V22 V23 := e23 ▸ below_alloc (Below.refl _ V22) _
            have N23 : Has V23 V22.heap.size #[.slice none 0 0, .slice (some ad) l.length c1, .int .i64 fuel, .int .i64 0, .slice Ai inp.length ci, .slice none 0 0, .slice none 0 0, .pointer (some ⟨h22, 0, none⟩), .slice (some ⟨W0.heap.size, 0, none⟩) 2816 2816, .int .i64 0, .int .i64 0, .pointer none] 93 := e23 ▸ Has.new V22 _ 93
            have ln23 : W0.heap.size ≤ V22.heap.size := (bn22).size
            have bn23 := below_then bn22 (bn22).size hb23
            have C23 := (C22).belowS hb23
            have P23 := (P22).belowS hb23
            have H23 := (HP22).below hb23
            refine tree_1 (i := 9) (by kernel_rfl) ?_
            · have cp24 := (P23).cell 0
              have fp24 := (P23).frozen 0
              simp only [List.getElem?_toArray, List.getElem?_cons_zero] at cp24
              refine step_store (w' := V23.setCell ⟨V13.heap.size, 0, none⟩ (.pointer (some ⟨V22.heap.size, 0, none⟩))) (by rfl) (by rfl) (by rfl) ⟨by go_simp⟩ ?_
              refine tree_end (by kernel_rfl) ?_
              exact ⟨h22, u22, W0.heap.size, V22.heap.size, V13.heap.size, rfl, RunFacts.mk (bn23) (H23) lh22 lu22 (C23) ln13 (N23) ln23 (P23) ln21⟩
    · refine step_value (v := .pointer (some ⟨W0.heap.size, 0, none⟩)) (w' := W0.alloc (Obj.cells #[.pointer none] 88)) (by rfl) (by rfl) (by rfl) ⟨by go_simp⟩ ?_
      simp only [List.setIfInBounds_toArray, List.set_cons_zero, List.set_cons_succ]
      obtain ⟨V25, e25⟩ : ∃ V, W0.alloc (Obj.cells #[.pointer none] 88) = V := ⟨_, rfl⟩
      rw [e25]
      have hb25 : Below W0.heap.size W0 V25 := e25 ▸ below_alloc (Below.refl _ W0) _
      have N25 : Has V25 W0.heap.size #[.pointer none] 88 := e25 ▸ Has.new W0 _ 88
      have ln25 : W0.heap.size ≤ W0.heap.size := (b0).size
      have bn25 := below_then b0 (b0).size hb25
      refine tree_2 (i := 4) (k := 5) (by kernel_rfl) ?_ ?_
      · refine step_call (by rfl) (by rfl) (by rfl) (ER.go (by go_simp; with_reducible exact ⟨rfl, rfl⟩)) ?_
        refine (new_heap V25).mono ?_
        rintro e V26 ⟨h26, u26, rfl, hb26, HP26, hh26, hu26⟩
        refine ⟨_, rfl, ?_⟩
        simp only [List.setIfInBounds_toArray, List.set_cons_zero, List.set_cons_succ]
        have bn26 := below_then bn25 (bn25).size hb26
        have lh26 : W0.heap.size ≤ h26 := Nat.le_trans (bn25).size hh26
        have lu26 : ∀ k, k < 4 → W0.heap.size ≤ u26 k := fun k hk => Nat.le_trans (bn25).size (hu26 k hk)
        have P26 := (N25).belowS hb26
        refine tree_1 (i := 5) (by kernel_rfl) ?_
        · refine step_value (v := .slice (some ⟨V26.heap.size, 0, none⟩) 2816 2816) (w' := V26.alloc (Obj.cells (madeCells #[.int .i64 0] 2816) 3)) (by rfl) (by rfl) (by rfl) ⟨by go_simp⟩ ?_
          simp only [List.setIfInBounds_toArray, List.set_cons_zero, List.set_cons_succ]
          obtain ⟨V27, e27⟩ : ∃ V, V26.alloc (Obj.cells (madeCells #[.int .i64 0] 2816) 3) = V := ⟨_, rfl⟩
          rw [e27]
          have hb27 : Below V26.heap.size V26 V27 := e27 ▸ below_alloc (Below.refl _ V26) _
          have N27 : Has V27 V26.heap.size (madeCells #[.int .i64 0] 2816) 3 := e27 ▸ Has.new V26 _ 3
          have ln27 : W0.heap.size ≤ V26.heap.size := (bn26).size
          have bn27 := below_then bn26 (bn26).size hb27
          have P27 := (P26).belowS hb27
          have H27 := (HP26).below hb27
          refine tree_h (i := 6) (by kernel_rfl) (by rfl) (by rfl) (by kernel_rfl) (by rfl) ?_
          apply Exists.intro
          apply And.intro
          · intro w'
            apply VR.mk
            go_simp
            with_reducible rfl
          simp only [List.setIfInBounds_toArray, List.set_cons_zero, List.set_cons_succ]
          refine tree_1 (i := 7) (by kernel_rfl) ?_
          · refine step_value (v := .pointer (some ⟨V27.heap.size, 0, none⟩)) (w' := V27.alloc (Obj.cells #[.slice none 0 0, .slice (some ad) l.length c1, .int .i64 fuel, .int .i64 0, .slice Ai inp.length ci, .slice none 0 0, .slice none 0 0, .pointer (some ⟨h26, 0, none⟩), .slice (some ⟨V26.heap.size, 0, none⟩) 2816 2816, .int .i64 0, .int .i64 0, .pointer none] 93)) (by rfl) (by rfl) (by rfl) ⟨by go_simp⟩ ?_
            simp only [List.setIfInBounds_toArray, List.set_cons_zero, List.set_cons_succ]
            obtain ⟨V28, e28⟩ : ∃ V, V27.alloc (Obj.cells #[.slice none 0 0, .slice (some ad) l.length c1, .int .i64 fuel, .int .i64 0, .slice Ai inp.length ci, .slice none 0 0, .slice none 0 0, .pointer (some ⟨h26, 0, none⟩), .slice (some ⟨V26.heap.size, 0, none⟩) 2816 2816, .int .i64 0, .int .i64 0, .pointer none] 93) = V := ⟨_, rfl⟩
            rw [e28]
            have hb28 : Below V27.heap.size V27 V28 := e28 ▸ below_alloc (Below.refl _ V27) _
            have N28 : Has V28 V27.heap.size #[.slice none 0 0, .slice (some ad) l.length c1, .int .i64 fuel, .int .i64 0, .slice Ai inp.length ci, .slice none 0 0, .slice none 0 0, .pointer (some ⟨h26, 0, none⟩), .slice (some ⟨V26.heap.size, 0, none⟩) 2816 2816, .int .i64 0, .int .i64 0, .pointer none] 93 := e28 ▸ Has.new V27 _ 93
            have ln28 : W0.heap.size ≤ V27.heap.size := (bn27).size
            have bn28 := below_then bn27 (bn27).size hb28
            have C28 := (N27).belowS hb28
            have P28 := (P27).belowS hb28
            have H28 := (H27).below hb28
            refine tree_1 (i := 9) (by kernel_rfl) ?_
            · have cp29 := (P28).cell 0
              have fp29 := (P28).frozen 0
              simp only [List.getElem?_toArray, List.getElem?_cons_zero] at cp29
              refine step_store (w' := V28.setCell ⟨W0.heap.size, 0, none⟩ (.pointer (some ⟨V27.heap.size, 0, none⟩))) (by rfl) (by rfl) (by rfl) ⟨by go_simp⟩ ?_
              refine tree_end (by kernel_rfl) ?_
              exact ⟨h26, u26, V26.heap.size, V27.heap.size, W0.heap.size, rfl, RunFacts.mk (bn28) (H28) lh26 lu26 (C28) ln27 (N28) ln28 (P28) ln25⟩
      · refine step_value (v := .slice (some ⟨V25.heap.size, 0, none⟩) 2816 2816) (w' := V25.alloc (Obj.cells (madeCells #[.int .i64 0] 2816) 3)) (by rfl) (by rfl) (by rfl) ⟨by go_simp⟩ ?_
        simp only [List.setIfInBounds_toArray, List.set_cons_zero, List.set_cons_succ]
        obtain ⟨V30, e30⟩ : ∃ V, V25.alloc (Obj.cells (madeCells #[.int .i64 0] 2816) 3) = V := ⟨_, rfl⟩
        rw [e30]
        have hb30 : Below V25.heap.size V25 V30 := e30 ▸ below_alloc (Below.refl _ V25) _
        have N30 : Has V30 V25.heap.size (madeCells #[.int .i64 0] 2816) 3 := e30 ▸ Has.new V25 _ 3
        have ln30 : W0.heap.size ≤ V25.heap.size := (bn25).size
        have bn30 := below_then bn25 (bn25).size hb30
        have P30 := (N25).belowS hb30
        refine tree_1 (i := 4) (by kernel_rfl) ?_
        · refine step_call (by rfl) (by rfl) (by rfl) (ER.go (by go_simp; with_reducible exact ⟨rfl, rfl⟩)) ?_
          refine (new_heap V30).mono ?_
          rintro e V31 ⟨h31, u31, rfl, hb31, HP31, hh31, hu31⟩
          refine ⟨_, rfl, ?_⟩
          simp only [List.setIfInBounds_toArray, List.set_cons_zero, List.set_cons_succ]
          have bn31 := below_then bn30 (bn30).size hb31
          have lh31 : W0.heap.size ≤ h31 := Nat.le_trans (bn30).size hh31
          have lu31 : ∀ k, k < 4 → W0.heap.size ≤ u31 k := fun k hk => Nat.le_trans (bn30).size (hu31 k hk)
          have C31 := (N30).belowS hb31
          have P31 := (P30).belowS hb31
          refine tree_h (i := 6) (by kernel_rfl) (by rfl) (by rfl) (by kernel_rfl) (by rfl) ?_
          apply Exists.intro
          apply And.intro
          · intro w'
            apply VR.mk
            go_simp
            with_reducible rfl
          simp only [List.setIfInBounds_toArray, List.set_cons_zero, List.set_cons_succ]
          refine tree_1 (i := 7) (by kernel_rfl) ?_
          · refine step_value (v := .pointer (some ⟨V31.heap.size, 0, none⟩)) (w' := V31.alloc (Obj.cells #[.slice none 0 0, .slice (some ad) l.length c1, .int .i64 fuel, .int .i64 0, .slice Ai inp.length ci, .slice none 0 0, .slice none 0 0, .pointer (some ⟨h31, 0, none⟩), .slice (some ⟨V25.heap.size, 0, none⟩) 2816 2816, .int .i64 0, .int .i64 0, .pointer none] 93)) (by rfl) (by rfl) (by rfl) ⟨by go_simp⟩ ?_
            simp only [List.setIfInBounds_toArray, List.set_cons_zero, List.set_cons_succ]
            obtain ⟨V32, e32⟩ : ∃ V, V31.alloc (Obj.cells #[.slice none 0 0, .slice (some ad) l.length c1, .int .i64 fuel, .int .i64 0, .slice Ai inp.length ci, .slice none 0 0, .slice none 0 0, .pointer (some ⟨h31, 0, none⟩), .slice (some ⟨V25.heap.size, 0, none⟩) 2816 2816, .int .i64 0, .int .i64 0, .pointer none] 93) = V := ⟨_, rfl⟩
            rw [e32]
            have hb32 : Below V31.heap.size V31 V32 := e32 ▸ below_alloc (Below.refl _ V31) _
            have N32 : Has V32 V31.heap.size #[.slice none 0 0, .slice (some ad) l.length c1, .int .i64 fuel, .int .i64 0, .slice Ai inp.length ci, .slice none 0 0, .slice none 0 0, .pointer (some ⟨h31, 0, none⟩), .slice (some ⟨V25.heap.size, 0, none⟩) 2816 2816, .int .i64 0, .int .i64 0, .pointer none] 93 := e32 ▸ Has.new V31 _ 93
            have ln32 : W0.heap.size ≤ V31.heap.size := (bn31).size
            have bn32 := below_then bn31 (bn31).size hb32
            have C32 := (C31).belowS hb32
            have P32 := (P31).belowS hb32
            have H32 := (HP31).below hb32
            refine tree_1 (i := 9) (by kernel_rfl) ?_
            · have cp33 := (P32).cell 0
              have fp33 := (P32).frozen 0
              simp only [List.getElem?_toArray, List.getElem?_cons_zero] at cp33
              refine step_store (w' := V32.setCell ⟨W0.heap.size, 0, none⟩ (.pointer (some ⟨V31.heap.size, 0, none⟩))) (by rfl) (by rfl) (by rfl) ⟨by go_simp⟩ ?_
              refine tree_end (by kernel_rfl) ?_
              exact ⟨h31, u31, V25.heap.size, V31.heap.size, W0.heap.size, rfl, RunFacts.mk (bn32) (H32) lh31 lu31 (C32) ln30 (N32) ln32 (P32) ln25⟩
  · rintro a' w' ⟨h, u, c, m, p, rfl, R⟩
    have bw0 : Below w.heap.size w w' := below_then (hW00 ▸ below_drew (below_alloc (below_alloc (Below.refl _ w) _) _) : Below w.heap.size w W00.drew) (by rw [← hW00]; simp [World.drew]; omega) R.B
    have q2 := pw_cell_below bw0 r2
    have q3 := pw_cell_below bw0 r3
    have RR := Aside0.mk R
    have BW0 := Aside0.mk bw0
    clear r2 r3 bw0 R
    go_wp2_with (first | (go_at_call 27; refine (PMirFuel.mir_find.calls (l.length + 1) (some ad) c1 l mainT k _ (Kd.C_below HLL.out BW0.out) hlc (HHK.out ▸ find_f l mainT hll)).mono ?_; rintro e w3 ⟨rfl, hd⟩; have B3 := Aside0.mk hd.below; have q2 := pw_cell_below hd.below q2; have q3 := pw_cell_below hd.below q3; clear hd) | (go_at_call 13; refine (Form.check_ok l (some ad) c1 _ (Kd.C_below HLL.out (below_then BW0.out BW0.out.size B3.out)) hlc HCT.out).mono ?_; rintro e w4 ⟨rfl, hb⟩; have B4 := Aside0.mk hb; have q2 := pw_cell_below hb q2; have q3 := pw_cell_below hb q3; clear hb))
    have BW5 := Aside0.mk (below_then (below_then BW0.out BW0.out.size B3.out) (below_then BW0.out BW0.out.size B3.out).size B4.out)
    have hww0 : w.heap.size ≤ W00.drew.heap.size := by rw [← hW00]; simp [World.drew]; omega
    have I1 := RR.out.in0 (l := l) BW0.out hww0 HII.out hic
    have I4 := Aside0.mk ((I1.below B3.out).below B4.out)
    have HP4 := Aside0.mk ((RR.out.P.belowS B3.out).belowS B4.out)
    have hp0 := HP4.out.cell 0
    simp only [List.getElem?_toArray, List.getElem?_cons_zero] at hp0
    have I4d := Aside0.mk (I4.out.drewN 1)
    have hsz : W00.drew.heap.size = w.heap.size + 2 := by rw [← hW00]; simp [World.drew]
    have hob : Has W00 w.heap.size #[.int .i64 0, .int .i64 0, .slice none 0 0] 26 := hW00 ▸ (Has.new w _ 26).alloc _
    have hsb : Has W00 (w.heap.size + 1) #[.int .i64 0] 3 := by
      have h1 := Has.new (w.alloc (Obj.cells #[.int .i64 0, .int .i64 0, .slice none 0 0] 26)) #[.int .i64 0] 3
      rw [show (w.alloc (Obj.cells #[.int .i64 0, .int .i64 0, .slice none 0 0] 26)).heap.size = w.heap.size + 1 by simp, hW00] at h1
      exact h1
    have HO4 := Aside0.mk (((((hob.drewN 1).belowS RR.out.B).belowS B3.out).belowS B4.out).drewN 1)
    have HS4 := Aside0.mk (((((hsb.drewN 1).belowS RR.out.B).belowS B3.out).belowS B4.out).drewN 1)
    have hpS : ¬ runS m h c u p := by
      rintro (h1 | h1 | ⟨k, hk, h1⟩ | h1)
      · exact RR.out.P.ne RR.out.M (by decide) h1
      · exact RR.out.P.ne RR.out.H.head (by decide) h1
      · exact RR.out.P.ne (RR.out.H.row k hk) (by decide) h1
      · exact RR.out.P.ne RR.out.C (by decide) h1
    have hlow : ∀ b, b < w.heap.size + 2 → ¬ runS m h c u b := by
      intro b hb
      have l1 := RR.out.lm; have l2 := RR.out.lh; have l3 := RR.out.lc; have l4 := RR.out.lu
      rw [hsz] at l1 l2 l3 l4
      rintro (h1 | h1 | ⟨k, hk, h1⟩ | h1)
      · omega
      · omega
      · have := l4 k hk; omega
      · omega
    have hge : ∀ b, runS m h c u b → w.heap.size ≤ b := fun b hb => by
      by_cases h1 : b < w.heap.size + 2
      · exact absurd hb (hlow b h1)
      · omega
    have hpn : w.heap.size + 2 ≤ p := by have := RR.out.lp; rw [hsz] at this; exact this
    have hw4 : w.heap.size + 2 ≤ w4.drew.heap.size := by
      have h1 : w.heap.size + 1 < w4.drew.heap.size := HS4.out.lt
      omega
    have AFT : Aside0 (∀ w5 : World, Kept (runS m h c u) w4.drew w5 → w5.cell? ⟨p, 0, none⟩ = some (.pointer (some ⟨m, 0, none⟩)) ∧ Has w5 w.heap.size #[.int .i64 0, .int .i64 0, .slice none 0 0] 26 ∧ Has w5 (w.heap.size + 1) #[.int .i64 0] 3 ∧ Below w.heap.size w w5) := ⟨fun w5 K =>
      ⟨(K.cell (w := w4.drew) hp0 hpS), K.has HO4.out (hlow _ (by omega)), K.has HS4.out (hlow _ (by omega)), (below_drew BW5.out).trans (K.below_of hge (below_drew BW5.out).size)⟩⟩
    have OUTS : Aside0 (∀ S' : Nat → Prop, (∀ b, S' b → runS m h c u b ∨ w4.drew.heap.size ≤ b) → ¬ S' w.heap.size ∧ ¬ S' (w.heap.size + 1)) := ⟨fun S' hs =>
      ⟨fun h1 => (hs _ h1).elim (hlow _ (by omega)) (fun h2 => by omega), fun h1 => (hs _ h1).elim (hlow _ (by omega)) (fun h2 => by omega)⟩⟩
    clear hob hsb hlow hge hpS
    have GG : GOK ⟨w, m, some ad, c1, l⟩ := ⟨HLL.out, hlc, hll, HFS.out⟩
    have FT0 : Fits (st0 fuel inp) := ⟨by simp [st0], hfu, by simp [st0], by simp [st0], by simp [st0], by simp [st0], by simp [st0]⟩
    have EN := Aside0.mk (enters (body_all GG fuel.toNat) HMA.out HFF.out (st := st0 fuel inp) (vs := []) FT0 (by simp [st0]) (by simp) (by simp [st0]; omega))
    clear GG FT0 I1
    refine region_mixD (fun ch w'' => CPost0 ⟨w, m, some ad, c1, l⟩ (runS m h c u) (callP (XR l fuel.toNat) (st0 fuel inp) [] f []) w4.drew (.panicked ch) w'') [runD p w.heap.size (w.heap.size + 1)] (.pointer (some ⟨w.heap.size, 0, none⟩)) (.pointer (some ⟨w.heap.size + 1, 0, none⟩)) [.h 0, .h 1, .h 2, .h 3, .c 4] (fun w' => w'.cell? ⟨p, 0, none⟩ = some (.pointer (some ⟨m, 0, none⟩))) (by kernel_rfl) (by kernel_rfl) hp0 ?_ ?_
    · repeat (
        refine mix_h (by rfl) (by rfl) (by rfl) ?_
        apply Exists.intro
        apply And.intro
        · intro w' k1
          apply VR.mk
          go_simp
          with_reducible rfl
        simp only [List.setIfInBounds_toArray, List.set_cons_zero, List.set_cons_succ])
      refine mix_call (by rfl) (by rfl) (by rfl) (ER.go (by go_simp; with_reducible exact ⟨rfl, rfl⟩)) ?_
      refine (call0_any I4d.out HMA.out HFF.out.hl (by have := HFF.out.hw; simp [st0]; omega) HFF.out.h0 ⟨own_nil _ _ _ _, fun b e => (by simp [Value.ownBlock] at e), fun v hv => (by simp at hv)⟩ (by simp) rfl rfl EN.out).mono ?_
      intro e w5 hC
      rcases CPost0.cases hC with ⟨st', held, out, v, S', L', hr, rfl, K, hs, I5⟩ | ⟨kd, cd, st', ch, hr, rfl, K, hc, hR⟩
      rotate_left
      · exact .inr ⟨_, rfl, hC, rfl, rfl, rfl⟩
      have HC := Aside0.mk hC
      obtain ⟨hP5, HO5, HS5, HB5⟩ := AFT.out w5 K
      obtain ⟨os1, os2⟩ := OUTS.out S' hs
      refine .inl ⟨v, rfl, hP5, ?_⟩
      simp only [List.setIfInBounds_toArray, List.set_cons_zero, List.set_cons_succ]
      refine mix_nil ?_
      simp only [panicR]
      clear hC
      have b0 := HO5.cell 0
      have b1 := HO5.cell 1
      have b2 := HO5.cell 2
      have c0 := HS5.cell 0
      have f0 := HO5.frozen 0
      have f1 := HO5.frozen 1
      have f2 := HO5.frozen 2
      have e0 := HS5.frozen 0
      simp only [List.getElem?_toArray, List.getElem?_cons_zero, List.getElem?_cons_succ] at b0 b1 b2 c0
      have F5 := Aside0.mk (And.intro HO5 (And.intro HS5 (And.intro HB5 (And.intro I5 (And.intro hP5 (And.intro os1 (And.intro os2 hr)))))))
      have hne : w.heap.size ≠ w.heap.size + 1 := by omega
      have hne' : w.heap.size + 1 ≠ w.heap.size := by omega
      clear HO5 HS5 HB5 I5 hP5 os1 os2 hr K hs
      go_wp2
      refine region_mixD (fun _ _ => False) [] undef undef [.h 0, .h 1, .c 2, .c 3] (fun w' => w'.cell? ⟨w.heap.size, 0, none⟩ = some (.int .i64 0) ∧ w'.cell? ⟨w.heap.size, 1, none⟩ = some (.int .i64 0) ∧ w'.cell? ⟨w.heap.size, 2, none⟩ = some (.slice none 0 0) ∧ w'.cell? ⟨w.heap.size + 1, 0, none⟩ = some (.int .i64 0)) (by kernel_rfl) (by kernel_rfl) ⟨b0, b1, b2, c0⟩ ?_ (fun _ _ _ h => h.elim)
      repeat (
        refine mix_h (by rfl) (by rfl) (by rfl) ?_
        apply Exists.intro
        apply And.intro
        · rintro w' ⟨k0, k1, k2, k3⟩
          apply VR.mk
          go_simp
          with_reducible rfl
        simp only [List.setIfInBounds_toArray, List.set_cons_zero, List.set_cons_succ])
      have hst := F5.out
      obtain ⟨HO5, HS5, HB5, I5, hP5, os1, os2, hr⟩ := hst
      have HO6 := ((HO5.set_ 0 (.int .i64 0)).set_ 1 (.int .i64 0)).set_ 2 (.slice none 0 0)
      have HS6 := ((HS5.other (a := ⟨w.heap.size, 0, none⟩) hne' (.int .i64 0)).other (a := ⟨w.heap.size, 1, none⟩) hne' (.int .i64 0)).other (a := ⟨w.heap.size, 2, none⟩) hne' (.slice none 0 0)
      have e0' := HS6.frozen 0
      have c0' := HS6.cell 0
      simp only [List.getElem?_toArray, List.getElem?_cons_zero] at c0'
      refine mix_store (w' := (((w5.setCell ⟨w.heap.size, 0, none⟩ (.int .i64 0)).setCell ⟨w.heap.size, 1, none⟩ (.int .i64 0)).setCell ⟨w.heap.size, 2, none⟩ (.slice none 0 0)).drew) (by rfl) (by rfl) (by rfl) ⟨?_⟩ ?_ ?_
      · go_simp
      · exact ⟨HO6.cell 0, HO6.cell 1, HO6.cell 2, HS6.cell 0⟩
      have HO7 := HO6.other (a := ⟨w.heap.size + 1, 0, none⟩) hne (.int .i64 0)
      have HS7 := HS6.set_ 0 (.int .i64 0)
      refine mix_store (w' := ((((w5.setCell ⟨w.heap.size, 0, none⟩ (.int .i64 0)).setCell ⟨w.heap.size, 1, none⟩ (.int .i64 0)).setCell ⟨w.heap.size, 2, none⟩ (.slice none 0 0)).setCell ⟨w.heap.size + 1, 0, none⟩ (.int .i64 0)).drew) (by rfl) (by rfl) (by rfl) ⟨?_⟩ ?_ ?_
      · go_simp
      · exact ⟨HO7.cell 0, HO7.cell 1, HO7.cell 2, HS7.cell 0⟩
      refine mix_nil ?_
      simp only [panicR]
      have R7 := (((((I5.rep.other (a := ⟨w.heap.size, 0, none⟩) os1 (.int .i64 0)).other (a := ⟨w.heap.size, 1, none⟩) os1 (.int .i64 0)).other (a := ⟨w.heap.size, 2, none⟩) os1 (.slice none 0 0)).other (a := ⟨w.heap.size + 1, 0, none⟩) os2 (.int .i64 0)).drewN 1)
      have B7 : Below w.heap.size w ((((w5.setCell ⟨w.heap.size, 0, none⟩ (.int .i64 0)).setCell ⟨w.heap.size, 1, none⟩ (.int .i64 0)).setCell ⟨w.heap.size, 2, none⟩ (.slice none 0 0)).setCell ⟨w.heap.size + 1, 0, none⟩ (.int .i64 0)).drew := below_drew ((((HB5.setCell (Nat.le_refl _) _).setCell (Nat.le_refl _) _).setCell (Nat.le_refl _) _).setCell (Nat.le_succ _) _)
      have P7 : ((((w5.setCell ⟨w.heap.size, 0, none⟩ (.int .i64 0)).setCell ⟨w.heap.size, 1, none⟩ (.int .i64 0)).setCell ⟨w.heap.size, 2, none⟩ (.slice none 0 0)).setCell ⟨w.heap.size + 1, 0, none⟩ (.int .i64 0)).drew.cell? ⟨p, 0, none⟩ = some (.pointer (some ⟨m, 0, none⟩)) := (far4 w5 w.heap.size (w.heap.size + 1) _ _ _ _ ⟨p, 0, none⟩ (by show p ≠ w.heap.size; omega) (by show p ≠ w.heap.size + 1; omega)).trans hP5
      have O7 := HO7.drewN 1
      have S7 := HS7.drewN 1
      have ALL := Aside0.mk (And.intro R7 (And.intro B7 (And.intro P7 (And.intro O7 (And.intro S7 (And.intro os1 (And.intro os2 hr)))))))
      clear R7 B7 P7 O7 S7 HO6 HS6 HO7 HS7 HO5 HS5 HB5 I5 hP5 os1 os2 hr e0' c0'
      go_wp2
      obtain ⟨R7, B7, P7, O7, S7, os1, os2, hr⟩ := ALL.out
      exact run_leaves _ (by rfl) (by rfl) (by rw [hr]; exact ⟨rfl, rfl, rfl⟩) _ (.inl ⟨rfl, rfl, rfl⟩) R7 P7 O7 S7 (by omega) (by omega) os1 os2 B7 (Nat.le_refl _) (by omega)
    · intro ch a' w'' hPn hD h8 h9
      rcases CPost0.cases hPn with ⟨_, _, _, _, _, _, _, h, _⟩ | ⟨kd, cd, st', ch', hr, he, K, hc, S', L', x', hs, R⟩
      · cases h
      injection he with he
      subst he
      obtain ⟨hP5, HO5, HS5, HB5⟩ := AFT.out w'' K
      obtain ⟨os1, os2⟩ := OUTS.out S' hs
      show Leaves Try.prog Try.f9 a'.tmps (RunPost (callP (XR l fuel.toNat) (st0 fuel inp) [] f []) w) a'.defers (.panicking ch) w''
      rw [hD]
      exact run_leaves a'.tmps h8 h9 (by rw [hr]; exact ⟨rfl, rfl, rfl⟩) _ (.inr ⟨ch, rfl, hc⟩) R hP5 HO5 HS5 (by omega) (by omega) os1 os2 HB5 (Nat.le_refl _) (by omega)
end Go.Proofs.Ytpphpcmbpbppoaa.Mach
end
section
namespace Go.Proofs.Ytpphpcmbpbppoaa.Form
open Go.Proofs.Ytpphpcmbpbppoaa.Mach
open Go.RowKit Go.Proofs.YtpphpcmbpbppoaaW.PrintWords Go.Proofs.YtpphpcmbpbppoaaW.PrintLast Go.Proofs.YtpphpcmbpbppoaaW.PrintMore
open Go.Proofs.Ytpphpcmbpbppoaa.Calm
open Go.Proofs.Ytpphpcmbpbppoaa.PMirFuel (S30 S57 S34 S37 S40 S43 S45 S48 k30 k57 k34 k37 k40 k43 k45 k48 rd_T30 rd_T57 rd_T34 rd_T37 rd_T40 rd_T43 rd_T45 rd_T48 at_T30 at_T57 at_T34 at_T40 at_T45 at_T48)
set_option linter.unusedVariables false
set_option linter.unusedSimpArgs false
theorem shift_nonneg (b : Int) : 0 ≤ Go.bits .and .u64 (IntKind.u64.wrap b) 31 := by
  have h0 : 0 ≤ IntKind.u64.wrap b ∧ IntKind.u64.wrap b < 18446744073709551616 := by
    simp [IntKind.wrap, IntKind.bits, IntKind.signed]; omega
  rw [Go.u64_and _ _ h0.1 h0.2 (by omega) (by omega)]
  omega
theorem divide_total (t : ByteArray) (a b : Int) (h : 0 < t.size) : ∃ r, PMirFuel.mir_divide.f 2 t a b = some r := by
  have hs : 0 < (t.size : Int) := by omega
  have j : ∀ x, ∃ r, PMirFuel.mir_divide.j0 2 t a b x = some r := by
    intro x
    unfold PMirFuel.mir_divide.j0 PMirFuel.mir_quotient.f
    repeat' split
    all_goals simp_all
    all_goals (repeat' split)
    all_goals simp_all
  unfold PMirFuel.mir_divide.f
  split
  · exact j _
  · exact j _
theorem size_of_list {t : ByteArray} {x : UInt8} {xs : List UInt8} (h : t.toList = x :: xs) : 0 < t.size := by
  rcases Nat.eq_zero_or_pos t.size with h0 | h0
  · have : t = ByteArray.empty := by
      cases t with | mk d => 
      have : d = #[] := Array.eq_empty_of_size_eq_zero h0
      subst this; rfl
    subst this
    simp at h
  · exact h0
theorem do_total (t : ByteArray) (a b : Int) : ∃ r, PMirFuel.mir_Do.f 3 t a b = some r := by
  have s0 := shift_nonneg (wrap32 b)
  have j : ∀ (A B : Int) (x : Bool), (x = true → 0 < t.size) → ∃ r, PMirFuel.mir_Do.j0 3 t A B (Go.bits .and .u64 (IntKind.u64.wrap (wrap32 b)) 31) t x = some r := by
    intro A B x hx
    show ∃ r, PMirFuel.mir_Do.j0 (2 + 1) t A B (Go.bits .and .u64 (IntKind.u64.wrap (wrap32 b)) 31) t x = some r
    simp only [PMirFuel.mir_Do.j0, PMirFuel.mir_flag.f]
    by_cases h : x = true
    · rw [if_pos h]
      obtain ⟨r, hr⟩ := divide_total t (wrap64 A) (wrap64 B) (hx h)
      rw [hr]
      exact ⟨_, rfl⟩
    · rw [if_neg h]
      generalize Go.bits .and .u64 (IntKind.u64.wrap (wrap32 b)) 31 = s at *
      repeat' (first | exact ⟨_, rfl⟩ | split)
      all_goals simp_all
      all_goals (repeat' split)
      all_goals simp_all
  unfold PMirFuel.mir_Do.f
  repeat' (first | exact ⟨_, rfl⟩ | split)
  all_goals (refine j _ _ _ ?_; intro hx; simp only [beq_iff_eq] at hx; exact size_of_list hx)
theorem sumW_need (xs : List Int) : ∀ n : Int, 0 ≤ n → n + 512 * xs.length < 4611686018427387904 → (∀ k, k ∈ xs → 0 ≤ k ∧ k ≤ 512) → sumW xs n = n + need xs := by
  induction xs with
  | nil => intro n _ _ _; simp [sumW, need]
  | cons x r ih =>
    intro n h0 h1 hx
    have h2 := hx x (by simp)
    simp only [List.length_cons] at h1
    unfold sumW need
    rw [show wrap64 (n + x) = n + x by unfold wrap64; omega, ih (n + x) (by omega) (by omega) (fun k hk => hx k (by simp [hk]))]
    omega
theorem need_take (xs : List Int) : ∀ n : Nat, need (xs.take n) ≤ need xs := by
  induction xs with
  | nil => intro n; simp
  | cons x r ih =>
    intro n
    cases n with
    | zero => simp [need]
    | succ n => have := ih n; simp only [List.take_succ_cons, need]; omega
theorem need_le (xs : List Int) (h : ∀ k, k ∈ xs → 0 ≤ k ∧ k ≤ 512) : need xs ≤ 512 * xs.length := by
  induction xs with
  | nil => simp [need]
  | cons x r ih =>
    have h1 := h x (by simp)
    have h2 := ih (fun k hk => h k (by simp [hk]))
    simp only [need, List.length_cons]
    omega
structure FrT (f : S48) : Prop where
  lo : ∀ k, k ∈ f.f1 → 0 ≤ k ∧ k ≤ 512
  bl : 0 < f.f5.length
  p0 : 0 ≤ f.f2
  p1 : f.f2 ≤ f.f1.length
  a0 : 0 ≤ f.f3
  a1 : f.f3 ≤ 8
  w : widthP f ≤ 8
theorem FrT.of {f : S48} (h : frB f = true) : FrT f := by
  unfold frB at h
  simp only [Bool.and_eq_true, List.all_eq_true, decide_eq_true_eq] at h
  obtain ⟨h1, h2, h3, h4, h5, h6, h7⟩ := h
  exact ⟨h1, h2, h3, h4, h5, h6, h7⟩
theorem FrT.width {f : S48} (h : FrT f) (hl : f.f1.length < 100000) : widthP f = need (f.f1.take f.f2.toNat) := by
  unfold widthP
  have h2 : (f.f1.take f.f2.toNat).length ≤ f.f1.length := by simp; omega
  rw [sumW_need _ 0 (by omega) (by omega) (fun k hk => h.lo k (List.mem_of_mem_take hk))]
  omega
theorem lo_of {loc : List Int} {d : Int} (h : laB loc d = true) : LoF loc.length d := by
  simp only [laB, Bool.and_eq_true, decide_eq_true_eq] at h
  exact h
theorem sc_of {loc : List Int} {d : Int} (h : scB loc d = true) : LoF loc.length d := by
  simp only [scB, Bool.and_eq_true, decide_eq_true_eq] at h
  exact ⟨h.1, h.2.1⟩
theorem op_of {loc : List Int} {o : S30} (h : opB loc o = true) : OpF loc.length o := by
  intro h0
  simp only [opB, h0, Bool.false_or] at h
  exact sc_of h
theorem pl_of {loc : List Int} {p : S34} (h : plB loc p = true) : PlF loc.length p := by
  simp only [plB, Bool.and_eq_true, List.all_eq_true] at h
  have h2 := lo_of h.2
  refine ⟨h2.1, h2.2, fun i hi h3 => ?_⟩
  have e : rd_T57 p.f1 (i : Int) = p.f1[i] := by simp [rd_T57, List.getD_eq_getElem?_getD, hi]
  rw [e] at h3 ⊢
  have h4 := h.1 p.f1[i] (List.getElem_mem hi)
  unfold stB at h4
  rw [if_neg (by omega), if_pos h3, Bool.and_eq_true] at h4
  exact sc_of h4.1
theorem wo_of {n : Int} (h : woB n = true) : 0 ≤ n ∧ n ≤ 128 := by
  simp [woB] at h
  omega
theorem FormI.of {l : List S48} {loc : List Int} {s : S40} (hF : ∀ k : Int, 0 ≤ k → k < l.length → FrT (rd_T48 l k) ∧ (rd_T48 l k).f1.length < 100000) (h : InT l loc s) : FormI l loc.length s := by
  cases h with
  | set h t => simp only [Bool.and_eq_true] at t; exact .set h (sc_of t.1) (op_of t.2)
  | bin h r d t => simp only [Bool.and_eq_true] at t; exact .bin h (sc_of t.1) (op_of t.2.1) (op_of t.2.2.1) (fun a b => do_total s.f7 a b)
  | load h t => simp only [Bool.and_eq_true] at t; exact .load h (sc_of t.1) (pl_of t.2)
  | store h t => simp only [Bool.and_eq_true] at t; exact .store h (pl_of t.1) (op_of t.2)
  | copy h t => simp only [Bool.and_eq_true] at t; exact .copy h (pl_of t.1) (pl_of t.2.1) (wo_of t.2.2).1 (wo_of t.2.2).2
  | addr h t => simp only [Bool.and_eq_true] at t; exact .addr h (sc_of t.1) (pl_of t.2)
  | alloc h t => simp only [Bool.and_eq_true] at t; exact .alloc h (sc_of t.1) (wo_of t.2).1 (wo_of t.2).2
  | free h t => exact .free h (op_of t)
  | give h t => exact .give h (lo_of t)
  | take h t => exact .take h (lo_of t)
  | print h t => exact .print h (op_of t)
  | read h t => exact .read h (sc_of t)
  | call h C t =>
    simp only [Bool.and_eq_true, List.all_eq_true] at t
    have hk : 0 ≤ findP l s.f7 := by have := C.p0; omega
    have hkb : findP l s.f7 < l.length := by rcases findP_bounds l s.f7 with h | h <;> omega
    obtain ⟨hf, hl⟩ := hF _ hk hkb
    have hw := hf.width hl
    have w8 := hf.w
    have a1 := hf.a1
    have hn := need_take (rd_T48 l (findP l s.f7)).f1 (rd_T48 l (findP l s.f7)).f2.toNat
    have p3 := C.p3
    have p4 := C.p4
    refine .call h hk (by omega) (by omega) (fun i hi => ?_) (fun i h0 h1 => ?_) (by omega) p4
    · have e : rd_T30 s.f9 (i : Int) = s.f9[i] := by simp [rd_T30, List.getD_eq_getElem?_getD, hi]
      rw [e]
      exact op_of (t.1 _ (List.getElem_mem hi))
    · have hi : i.toNat < s.f10.length := by omega
      have e : rd s.f10 i = s.f10[i.toNat] := by simp [rd, List.getD_eq_getElem?_getD, hi]
      rw [e]
      exact sc_of (t.2 _ (List.getElem_mem hi))
theorem FormT.of {f : S48} {t : S43} (hf : FrT f) (h : teB f t = true) : FormT f t := by
  unfold teB goB at h
  by_cases h1 : t.f0 = 1
  · rw [if_pos h1] at h
    simp only [Bool.and_eq_true, decide_eq_true_eq] at h
    exact .goto h1 h
  rw [if_neg h1] at h
  by_cases h2 : t.f0 = 2
  · rw [if_pos h2] at h
    simp only [Bool.and_eq_true, decide_eq_true_eq] at h
    exact .cond h2 (op_of h.1) h.2.1 h.2.2
  rw [if_neg h2] at h
  by_cases h3 : t.f0 = 3
  · rw [if_pos h3] at h
    simp only [Bool.and_eq_true, decide_eq_true_eq, List.all_eq_true] at h
    have := hf.a1
    refine .ret h3 (fun i hi => ?_) (by omega) h.2
    have e : rd_T30 t.f4 (i : Int) = t.f4[i] := by simp [rd_T30, List.getD_eq_getElem?_getD, hi]
    rw [e]
    exact op_of (h.1 _ (List.getElem_mem hi))
  rw [if_neg h3] at h
  exact .panic (by simpa using h)
theorem forms_of {l : List S48} (C : ChkT l) (hl : ∀ k : Int, 0 ≤ k → k < l.length → (rd_T48 l k).f1.length < 100000) : Forms l := by
  have hF : ∀ k : Int, 0 ≤ k → k < l.length → FrT (rd_T48 l k) ∧ (rd_T48 l k).f1.length < 100000 := fun k h0 h1 => ⟨FrT.of (C.2 k h0 h1).fr, hl k h0 h1⟩
  intro k h0 h1
  have F := C.2 k h0 h1
  obtain ⟨R, l1⟩ := hF k h0 h1
  have hn := need_le (rd_T48 l k).f1 R.lo
  refine ⟨R.bl, l1, by omega, fun j hj => (R.lo j hj).1, fun b => ?_, fun b b0 b1 i hi => FormI.of hF (F.ins b b0 b1 i (by omega) (by omega)), fun b b0 b1 => FormT.of R (F.term b b0 b1)⟩
  by_cases hb : b.toNat < (rd_T48 l k).f5.length
  · have e : rd_T45 (rd_T48 l k).f5 b = rd_T45 (rd_T48 l k).f5 (b.toNat : Int) := by unfold rd_T45; rw [Int.toNat_natCast]
    rw [e]
    exact F.nl (b.toNat : Int) (by omega) (by omega)
  · have e : rd_T45 (rd_T48 l k).f5 b = PMirFuel.z45 := by simp [rd_T45, List.getD_eq_getElem?_getD, List.getElem?_eq_none (show (rd_T48 l k).f5.length ≤ b.toNat by omega)]
    rw [e]
    decide
structure FnL (l : List S48) (k : Int) (f : S48) : Prop where
  hf : findP l f.f0 = k
  fr : frB f = true
  n1 : f.f1.length < 4611686018427387904
  n5 : f.f5.length < 4611686018427387904
  bl : ∀ B, B ∈ f.f5 → B.f0.length < 4611686018427387904 ∧ B.f1.f4.length < 4611686018427387904 ∧ teB f B.f1 = true
  ins : ∀ B, B ∈ f.f5 → ∀ s, s ∈ B.f0 → InT l f.f1 s ∧ s.f4.f1.length < 4611686018427387904 ∧ s.f5.f1.length < 4611686018427387904
theorem FnL.t {l : List S48} {k : Int} {f : S48} (F : FnL l k f) : FnT l k f := by
  have hB : ∀ b : Int, 0 ≤ b → b < f.f5.length → rd_T45 f.f5 b ∈ f.f5 := fun b b0 b1 => by
    have hi : b.toNat < f.f5.length := by omega
    have e : rd_T45 f.f5 b = f.f5[b.toNat] := by simp [rd_T45, List.getD_eq_getElem?_getD, hi]
    rw [e]; exact List.getElem_mem hi
  have hI : ∀ (xs : List S40) (i : Int), 0 ≤ i → i < xs.length → rd_T40 xs i ∈ xs := fun xs i i0 i1 => by
    have hi : i.toNat < xs.length := by omega
    have e : rd_T40 xs i = xs[i.toNat] := by simp [rd_T40, List.getD_eq_getElem?_getD, hi]
    rw [e]; exact List.getElem_mem hi
  exact ⟨F.hf, F.fr, F.n1, F.n5, fun b b0 b1 => (F.bl _ (hB b b0 b1)).1, fun b b0 b1 => (F.bl _ (hB b b0 b1)).2.1, fun b b0 b1 i i0 i1 => (F.ins _ (hB b b0 b1) _ (hI _ i i0 i1)).2, fun b b0 b1 i i0 i1 => (F.ins _ (hB b b0 b1) _ (hI _ i i0 i1)).1, fun b b0 b1 => (F.bl _ (hB b b0 b1)).2.2⟩
end Go.Proofs.Ytpphpcmbpbppoaa.Form
end
section
namespace Go.Proofs.Ytpphpcmbpbppoaa.Mach
open Go.RowKit Go.Proofs.YtpphpcmbpbppoaaW.PrintWords Go.Proofs.YtpphpcmbpbppoaaW.PrintLast Go.Proofs.YtpphpcmbpbppoaaW.PrintMore
open Go.Proofs.Ytpphpcmbpbppoaa.Calm
open Go.Proofs.Ytpphpcmbpbppoaa.PMirFuel (S30 S57 S34 S37 S40 S43 S45 S48 k30 k57 k34 k37 k40 k43 k45 k48 rd_T30 rd_T57 rd_T34 rd_T37 rd_T40 rd_T43 rd_T45 rd_T48 at_T30 at_T57 at_T34 at_T40 at_T45 at_T48)
set_option linter.unusedVariables false
set_option linter.unusedSimpArgs false
open Go.Proofs.Ytpphpcmbpbppoaa.Form
theorem word_f (a : Int) : PMirFuel.ferruleref12_Word.f a = some (w32 a) := by
  unfold PMirFuel.ferruleref12_Word.f
  have e : Int.tmod (wrap64 (Int.tmod a 4294967296 + 4294967296)) 4294967296 = a % 4294967296 := by
    have h1 : Int.tmod a 4294967296 = a % 4294967296 ∨ Int.tmod a 4294967296 = a % 4294967296 - 4294967296 := by
      rcases Int.lt_or_le a 0 with h | h
      · have := Int.neg_tmod (-a) 4294967296
        rw [Int.neg_neg] at this
        rw [this, Int.tmod_eq_emod_of_nonneg (by omega)]
        omega
      · rw [Int.tmod_eq_emod_of_nonneg h]; exact .inl rfl
    have h2 : wrap64 (Int.tmod a 4294967296 + 4294967296) = Int.tmod a 4294967296 + 4294967296 := by unfold wrap64; omega
    rw [h2, Int.tmod_eq_emod_of_nonneg (by omega)]
    omega
  rw [e]
  have hw : w32 a = if a % 4294967296 ≥ 2147483648 then a % 4294967296 - 4294967296 else a % 4294967296 := by unfold w32 wrap64 wrap32; split <;> omega
  rw [hw]
  split
  · congr 1; unfold wrap64; omega
  · rfl
theorem word_said (a : Int) (w : World) : Calls Try.prog 15 #[.int .i64 a] w fun e w' => e = .returned (.int .i64 (w32 a)) ∧ Below w.heap.size w w' :=
  (PMirFuel.ferruleref12_Word.calls a _ w (word_f a)).mono fun _ _ h => ⟨h.1, h.2.below⟩
theorem same_l (a b c d : Int) (l : List Int) (hl : l.length < 4611686018427387904) : ∀ (k i : Nat), i ≤ l.length → l.length - i < k → PMirFuel.ferruleref10_Same.l0 k (i : Int) a b l c d l = some true := by
  intro k
  induction k with
  | zero => intro i _ h; omega
  | succ k ih =>
    intro i hi hk
    unfold PMirFuel.ferruleref10_Same.l0
    by_cases h : i < l.length
    · rw [if_pos (by omega), if_pos (by omega), if_pos (by omega), if_pos rfl, show wrap64 ((i : Int) + 1) = ((i + 1 : Nat) : Int) by unfold wrap64; omega]
      exact ih _ (by omega) (by omega)
    · rw [if_neg (by omega)]
theorem same_f (a b : Int) (l : List Int) (hl : l.length < 4611686018427387904) : PMirFuel.ferruleref10_Same.f (l.length + 2) a b l a b l = some true := by
  unfold PMirFuel.ferruleref10_Same.f
  rw [if_pos rfl, if_pos rfl]
  show (if ((l.length : Int) != (l.length : Int)) = true then some false else PMirFuel.ferruleref10_Same.l0 (l.length + 1) 0 a b l a b l) = some true
  rw [if_neg (by simp)]
  exact same_l a b a b l hl _ 0 (by omega) (by omega)
theorem same_said (a b : Int) (l : List Int) (A0 A1 : Option Addr) (c0 c1 : Nat) (w : World) (hl : l.length < 4611686018427387904) (h0 : Kd.C (Kd.int .i64) w A0 l.length l) (n0 : l.length ≤ c0) (h1 : Kd.C (Kd.int .i64) w A1 l.length l) (n1 : l.length ≤ c1) :
    Calls Try.prog 11 #[.agg #[.int .i64 a, .int .i64 b, .slice A0 l.length c0], .agg #[.int .i64 a, .int .i64 b, .slice A1 l.length c1]] w fun e w' => e = .returned (.bool true) ∧ Below w.heap.size w w' :=
  PMirFuel.ferruleref10_Same.calls _ a b A0 c0 l a b A1 c1 l true w h0 n0 h1 n1 (same_f a b l hl)
theorem own_ints_C {w : World} {b n : Nat} {v : Value} {xs : List Int} (h : w.ownsRow b 3 1 v n (nums .i64 xs)) (hn : xs.length = n) : ∃ A c, v = .slice A n c ∧ n ≤ c ∧ Kd.C (Kd.int .i64) w A n xs := by
  obtain ⟨A, c, e, hr⟩ := own_reads_row h (ints_reps w xs) hn
  subst e
  exact ⟨A, c, rfl, own_le h, hr⟩
def RunSaid (kd cd steps : Int) (print : List Int) (w : World) (e : Ending) (w' : World) : Prop :=
  Below w.heap.size w w' ∧ ∃ A c, e = .returned (.tuple #[.agg #[.int .i64 kd, .int .i64 cd, .slice A print.length c], .int .i64 steps]) ∧ print.length ≤ c ∧ Kd.C (Kd.int .i64) w' A print.length print
theorem run_said (l : List S48) (A1 : Option Addr) (c1 : Nat) (fuel : Int) (w : World) (HL : Kd.C k48 w A1 l.length l) (hlc : l.length ≤ c1) (CT : ChkT l) (FS : Forms l) {k : Int} (hk : findP l mainT = k) (hk0 : 0 ≤ k) {f : S48} (hf : rd_T48 l k = f) (hp : f.f2 = 0) (ha : f.f3 = 0) (hfu : fuel ≤ 1000000000000)
    {kd cd : Int} {st : St} (h : ∃ hs vs, callP (LawP.XG l fuel.toNat) (st0 fuel []) [] f [] = .ok st hs vs ∧ kd = 1 ∧ cd = 0 ∨ callP (LawP.XG l fuel.toNat) (st0 fuel []) [] f [] = .halt kd cd st) :
    Calls Try.prog 9 #[.slice none 0 0, .slice A1 l.length c1, .slice none 0 0, .int .i64 fuel] w (RunSaid kd cd st.steps st.print w) := by
  refine (run_ok l A1 c1 none [] 0 fuel w HL hlc ⟨rfl, by simp, fun h => absurd h (Nat.lt_irrefl 0)⟩ (Nat.le_refl 0) CT FS hk hk0 hf hp ha hfu).mono ?_
  rintro e w' ⟨kd', cd', st', pv, hr, rfl, hb, ho⟩
  obtain ⟨A, c, rfl, hc, hC⟩ := own_ints_C ho rfl
  obtain ⟨hs, vs, ⟨h, rfl, rfl⟩ | h⟩ := h
  · have hr' : RunRes (callP (LawP.XG l fuel.toNat) (st0 fuel []) [] f []) kd' cd' st' := hr
    rw [h] at hr'
    obtain ⟨rfl, rfl, rfl⟩ := hr'
    exact ⟨hb, A, c, rfl, hc, hC⟩
  · have hr' : RunRes (callP (LawP.XG l fuel.toNat) (st0 fuel []) [] f []) kd' cd' st' := hr
    rw [h] at hr'
    obtain ⟨rfl, rfl, rfl⟩ := hr'
    exact ⟨hb, A, c, rfl, hc, hC⟩
end Go.Proofs.Ytpphpcmbpbppoaa.Mach
end
