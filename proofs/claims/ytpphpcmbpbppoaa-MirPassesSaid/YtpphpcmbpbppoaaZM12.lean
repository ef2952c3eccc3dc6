/- Steps toward laws of the middle form (M), merged from several texts (some of them began as the kit's print). No condition. -/
import Derived.Deep.WholeRow
import Derived.Test.YtpphpcmbpbppoaaZM11
section
namespace Go.Proofs.Ytpphpcmbpbppoaa.Form
open Go.RowKit Go.Proofs.YtpphpcmbpbppoaaW.PrintWords Go.Proofs.YtpphpcmbpbppoaaW.PrintLast Go.Proofs.YtpphpcmbpbppoaaW.PrintMore
open Go.Proofs.Ytpphpcmbpbppoaa.Calm
open Go.Proofs.Ytpphpcmbpbppoaa.Mach
open Go.Proofs.Ytpphpcmbpbppoaa.PMirFuel (S30 S57 S34 S37 S40 S43 S45 S48 k30 k57 k34 k37 k40 k43 k45 k48 rd_T30 rd_T57 rd_T34 rd_T37 rd_T40 rd_T43 rd_T45 rd_T48 at_T30 at_T57 at_T34 at_T40 at_T45 at_T48)
set_option linter.unusedVariables false
set_option linter.unusedSimpArgs false
inductive InT (l : List S48) (loc : List Int) (s : S40) : Prop where
  | set (h : s.f0 = 1) (t : (scB loc s.f1 && opB loc s.f2) = true)
  | bin (h : s.f0 = 2) (r : Int) (d : PMirFuel.mir_Do.f 3 s.f7 0 0 = some (r, true)) (t : (scB loc s.f1 && (opB loc s.f2 && (opB loc s.f3 && true))) = true)
  | load (h : s.f0 = 3) (t : (scB loc s.f1 && plB loc s.f4) = true)
  | store (h : s.f0 = 4) (t : (plB loc s.f4 && opB loc s.f2) = true)
  | copy (h : s.f0 = 5) (t : (plB loc s.f4 && (plB loc s.f5 && woB s.f6)) = true)
  | addr (h : s.f0 = 6) (t : (scB loc s.f1 && plB loc s.f4) = true)
  | alloc (h : s.f0 = 7) (t : (scB loc s.f1 && woB s.f6) = true)
  | free (h : s.f0 = 8) (t : opB loc s.f2 = true)
  | give (h : s.f0 = 10) (t : laB loc s.f1 = true)
  | take (h : s.f0 = 11) (t : laB loc s.f1 = true)
  | print (h : s.f0 = 13) (t : opB loc s.f2 = true)
  | read (h : s.f0 = 14) (t : scB loc s.f1 = true)
  | call (h : s.f0 = 15) (C : CaOk l s) (t : (s.f9.all (opB loc) && s.f10.all (scB loc)) = true)
theorem in_true (l : List S48) (f : S48) (A0 : Option Addr) (c0 : Nat) (A2 : Option Addr) (c2 : Nat) (A6 : Option Addr) (c6 : Nat) (s : S40) (A7 A9 A15 A16 A17 : Option Addr) (c7 c9 c15 c16 c17 : Nat) (w : World) (H : FA w l f A0 c0 A2 c2 A6 c6) (h7 : k57.C w A7 s.f4.f1.length s.f4.f1) (l7 : s.f4.f1.length ≤ c7) (h9 : k57.C w A9 s.f5.f1.length s.f5.f1) (l9 : s.f5.f1.length ≤ c9) (h16 : k30.C w A16 s.f9.length s.f9) (l16 : s.f9.length ≤ c16) (h17 : (Kd.int .i64).C w A17 s.f10.length s.f10) (l17 : s.f10.length ≤ c17) (b7 : s.f4.f1.length < 4611686018427387904) (b9 : s.f5.f1.length < 4611686018427387904) (I : InT l f.f1 s) :
    Calls Try.prog 31 #[.agg #[.slice A0 l.length c0, .string f.f0, .slice A2 f.f1.length c2, .int .i64 f.f2, .int .i64 f.f3, .bool f.f4, .slice A6 f.f5.length c6], .agg #[.int .i64 s.f0, .int .i64 s.f1, .bool s.f2.f0, .int .i64 s.f2.f1, .bool s.f3.f0, .int .i64 s.f3.f1, .int .i64 s.f4.f0, .slice A7 s.f4.f1.length c7, .int .i64 s.f5.f0, .slice A9 s.f5.f1.length c9, .int .i64 s.f6, .string s.f7, .int .i64 s.f8.f0, .string s.f8.f1, .int .i64 s.f8.f2, .slice A15 s.f8.f3.length c15, .slice A16 s.f9.length c16, .slice A17 s.f10.length c17]] w fun e w' => e = .returned (.bool true) ∧ Below w.heap.size w w' := by
  cases I with
  | set h t => exact (in_1 l f A0 c0 A2 c2 A6 c6 s A7 A9 A15 A16 A17 c7 c9 c15 c16 c17 w H h7 l7 h9 l9 h16 l16 h17 l17 b7 b9 h).mono fun e w' ⟨he, hb⟩ => ⟨by rw [he, t], hb⟩
  | load h t => exact (in_3 l f A0 c0 A2 c2 A6 c6 s A7 A9 A15 A16 A17 c7 c9 c15 c16 c17 w H h7 l7 h9 l9 h16 l16 h17 l17 b7 b9 h).mono fun e w' ⟨he, hb⟩ => ⟨by rw [he, t], hb⟩
  | store h t => exact (in_4 l f A0 c0 A2 c2 A6 c6 s A7 A9 A15 A16 A17 c7 c9 c15 c16 c17 w H h7 l7 h9 l9 h16 l16 h17 l17 b7 b9 h).mono fun e w' ⟨he, hb⟩ => ⟨by rw [he, t], hb⟩
  | copy h t => exact (in_5 l f A0 c0 A2 c2 A6 c6 s A7 A9 A15 A16 A17 c7 c9 c15 c16 c17 w H h7 l7 h9 l9 h16 l16 h17 l17 b7 b9 h).mono fun e w' ⟨he, hb⟩ => ⟨by rw [he, t], hb⟩
  | addr h t => exact (in_6 l f A0 c0 A2 c2 A6 c6 s A7 A9 A15 A16 A17 c7 c9 c15 c16 c17 w H h7 l7 h9 l9 h16 l16 h17 l17 b7 b9 h).mono fun e w' ⟨he, hb⟩ => ⟨by rw [he, t], hb⟩
  | alloc h t => exact (in_7 l f A0 c0 A2 c2 A6 c6 s A7 A9 A15 A16 A17 c7 c9 c15 c16 c17 w H h7 l7 h9 l9 h16 l16 h17 l17 b7 b9 h).mono fun e w' ⟨he, hb⟩ => ⟨by rw [he, t], hb⟩
  | free h t => exact (in_8 l f A0 c0 A2 c2 A6 c6 s A7 A9 A15 A16 A17 c7 c9 c15 c16 c17 w H h7 l7 h9 l9 h16 l16 h17 l17 b7 b9 h).mono fun e w' ⟨he, hb⟩ => ⟨by rw [he, t], hb⟩
  | give h t => exact (in_10 l f A0 c0 A2 c2 A6 c6 s A7 A9 A15 A16 A17 c7 c9 c15 c16 c17 w H h7 l7 h9 l9 h16 l16 h17 l17 b7 b9 h).mono fun e w' ⟨he, hb⟩ => ⟨by rw [he, t], hb⟩
  | take h t => exact (in_11 l f A0 c0 A2 c2 A6 c6 s A7 A9 A15 A16 A17 c7 c9 c15 c16 c17 w H h7 l7 h9 l9 h16 l16 h17 l17 b7 b9 h).mono fun e w' ⟨he, hb⟩ => ⟨by rw [he, t], hb⟩
  | print h t => exact (in_13 l f A0 c0 A2 c2 A6 c6 s A7 A9 A15 A16 A17 c7 c9 c15 c16 c17 w H h7 l7 h9 l9 h16 l16 h17 l17 b7 b9 h).mono fun e w' ⟨he, hb⟩ => ⟨by rw [he, t], hb⟩
  | read h t => exact (in_14 l f A0 c0 A2 c2 A6 c6 s A7 A9 A15 A16 A17 c7 c9 c15 c16 c17 w H h7 l7 h9 l9 h16 l16 h17 l17 b7 b9 h).mono fun e w' ⟨he, hb⟩ => ⟨by rw [he, t], hb⟩
  | bin h r d t => exact (in_2 l f A0 c0 A2 c2 A6 c6 s A7 A9 A15 A16 A17 c7 c9 c15 c16 c17 w H h7 l7 h9 l9 h16 l16 h17 l17 b7 b9 d h).mono fun e w' ⟨he, hb⟩ => ⟨by rw [he, t], hb⟩
  | call h C t => exact (in_15 l f A0 c0 A2 c2 A6 c6 s A7 A9 A15 A16 A17 c7 c9 c15 c16 c17 w H h7 l7 h9 l9 h16 l16 h17 l17 b7 b9 C h).mono fun e w' ⟨he, hb⟩ => ⟨by rw [he, t], hb⟩
structure FnT (l : List S48) (k : Int) (f : S48) : Prop where
  hf : findP l f.f0 = k
  fr : frB f = true
  n1 : f.f1.length < 4611686018427387904
  n5 : f.f5.length < 4611686018427387904
  nl : ∀ b : Int, 0 ≤ b → b < f.f5.length → (rd_T45 f.f5 b).f0.length < 4611686018427387904
  nt : ∀ b : Int, 0 ≤ b → b < f.f5.length → (rd_T45 f.f5 b).f1.f4.length < 4611686018427387904
  np : ∀ b : Int, 0 ≤ b → b < f.f5.length → ∀ i : Int, 0 ≤ i → i < (rd_T45 f.f5 b).f0.length → (rd_T40 (rd_T45 f.f5 b).f0 i).f4.f1.length < 4611686018427387904 ∧ (rd_T40 (rd_T45 f.f5 b).f0 i).f5.f1.length < 4611686018427387904
  ins : ∀ b : Int, 0 ≤ b → b < f.f5.length → ∀ i : Int, 0 ≤ i → i < (rd_T45 f.f5 b).f0.length → InT l f.f1 (rd_T40 (rd_T45 f.f5 b).f0 i)
  term : ∀ b : Int, 0 ≤ b → b < f.f5.length → teB f (rd_T45 f.f5 b).f1 = true
def ChkT (l : List S48) : Prop := l.length < 4611686018427387904 ∧ ∀ k : Int, 0 ≤ k → k < l.length → FnT l k (rd_T48 l k)
def zs40 : Array Value := #[.int .i64 0, .int .i64 0, .bool false, .int .i64 0, .bool false, .int .i64 0, .int .i64 0, .slice none 0 0, .int .i64 0, .slice none 0 0, .int .i64 0, .string ⟨#[]⟩, .int .i64 0, .string ⟨#[]⟩, .int .i64 0, .slice none 0 0, .slice none 0 0, .slice none 0 0]
theorem i40 : (Try.prog.info? 40).map (·.size) = some 18 := by kernel_rfl
theorem store40 (W : World) (c : Array Value) (hs : c.size = 18) (h1 : c.all (·.oneCell') = true) (a : Act) (o : Oper) (x y : Operand) (h : o.op = .store 40 x y) (hx : a.eval x = .pointer (some ⟨W.heap.size, 0, none⟩)) (hy : a.eval y = .agg c) :
    (execOp a.eval o).run Try.prog (W.alloc (.cells zs40 40)) = .ok .skip (W.alloc (.cells c 40)) := by
  have hst := run_storeAt_new (P := Try.prog) W 40 zs40 c (by rw [hs]; exact i40) (by rw [hs]; rfl) h1
  unfold execOp
  simp only [h, hx, hy, Sem.run_bind, hst, Result.andThen_ok, Sem.run_pure]
theorem load40 (W : World) (g : Nat) (c : Array Value) (hg : Has W g c 40) (hs : c.size = 18) (a : Act) (o : Oper) (x : Operand) (h : o.op = .load 40 x) (hx : a.eval x = .pointer (some ⟨g, 0, none⟩)) :
    (execOp a.eval o).run Try.prog W = .ok (.value (.agg c)) W := by
  have hld := run_loadVar_row (P := Try.prog) W g 40 40 c (0, 0) _ hg Try.underlying40 (by first | rfl | simp) (by rw [hs]; exact i40)
  unfold execOp
  simp only [h, hx, Instr.loadAt, Instr.sureAddr, Sem.run_bind, Sem.run_pure, Result.andThen_ok, hld]
set_option maxRecDepth 100000 in
set_option maxHeartbeats 8000000 in
theorem check_ok (l : List S48) (A0 : Option Addr) (c0 : Nat) (w : World) (H : Kd.C k48 w A0 l.length l) (hc : l.length ≤ c0) (C : ChkT l) :
    Calls Try.prog 13 #[.slice A0 l.length c0] w fun e w' => e = .returned (.int .i64 0) ∧ Below w.heap.size w w' := by
  have HL := Aside0.mk H
  have HC := Aside0.mk C
  have hll := C.1
  have hu48 := Try.underlying48
  have hu45 := Try.underlying45
  have hu40 := Try.underlying40
  have hu101 := Try.underlying101
  have B0 := Aside0.mk (Below.refl w.heap.size w)
  clear H C
  go_enter Try.func13, Try.ntmps13
  go_wp2
  go_loopw [12] (fun v wr => ∃ k : Int, v = .int .i64 k ∧ 0 ≤ k ∧ k ≤ l.length ∧ Aside0 (Below w.heap.size w wr)) (fun v _ => l.length - (intOf v).toNat)
  case atStart => exact ⟨0, rfl, by omega, by omega, B0⟩
  case round =>
    clear B0
    obtain ⟨k, rfl, hk0, hk1, HB⟩ := hrel
    by_cases hlt : k < l.length
    · obtain ⟨ad, A1, c1, A5, c5, e, r0, r1, r2, r3, r4, r5, rl1, rg1, rl5, rg5⟩ := at_T48 (Kd.C_below HL.out HB.out) k hk0 hlt
      subst e
      have FT := Aside0.mk (HC.out.2 k hk0 hlt)
      generalize hf : rd_T48 l k = f at *
      have HR := Aside0.mk (And.intro rg1 (And.intro rl1 (And.intro rg5 rl5)))
      have hfk := FT.out.hf
      have hfr := FT.out.fr
      have n5 := FT.out.n5
      have HFA := Aside0.mk (FA.mk (l := l) (f := f) (c0 := c0) (Kd.C_below HL.out HB.out) hc rg1 rl1 rg5 rl5)
      have X := Aside0.mk (FB.new wr #[.string f.f0, .slice A1 f.f1.length c1, .int .i64 f.f2, .int .i64 f.f3, .bool f.f4, .slice A5 f.f5.length c5] 48 #[.slice (some ad) l.length c0, .string f.f0, .slice A1 f.f1.length c1, .int .i64 f.f2, .int .i64 f.f3, .bool f.f4, .slice A5 f.f5.length c5] 101)
      clear rg1 rl1 rg5 rl5 hf
      have FND := Aside0.mk (hfk ▸ find_f l f.f0 hll)
      have FRM := Aside0.mk (hfr ▸ frame_f l f FT.out.n1 (2 * f.f1.length + 3) (by omega))
      clear hfk hfr
      go_wp2_with (first | (go_at_call 27; with_reducible refine (PMirFuel.mir_find.calls (l.length + 1) (some ad) c0 l f.f0 k _ (Kd.C_below HFA.out.r0 X.out.hb) hc FND.out).mono ?_; rintro e w3 ⟨rfl, hd⟩; have X3 := Aside0.mk (X.out.below hd.below); clear hd; have m0 := X3.out.b2.cell 0; have m1 := X3.out.b2.cell 1; have m2 := X3.out.b2.cell 2; have m3 := X3.out.b2.cell 3; have m4 := X3.out.b2.cell 4; have m5 := X3.out.b2.cell 5; have m6 := X3.out.b2.cell 6; simp only [List.getElem?_toArray, List.getElem?_cons_zero, List.getElem?_cons_succ] at m0 m1 m2 m3 m4 m5 m6) | (go_at_call 30; with_reducible refine (PMirFuel.mir_former_frame.calls (2 * f.f1.length + 3) (some ad) c0 l f.f0 A1 c1 f.f1 f.f2 f.f3 f.f4 A5 c5 f.f5 true _ (HFA.out.below X3.out.hb).r0 hc (HFA.out.below X3.out.hb).r2 HFA.out.l2 (HFA.out.below X3.out.hb).r6 HFA.out.l6 FRM.out).mono ?_; rintro e w4 ⟨rfl, hb⟩; have X4 := Aside0.mk (X3.out.below hb); clear hb; have q5 := X4.out.b1.cell 5; simp only [List.getElem?_toArray, List.getElem?_cons_zero, List.getElem?_cons_succ] at q5))
      clear m0 m1 m2 m3 m4 m5 m6 r0 r1 r2 r3 r4 r5
      obtain ⟨wo, hwo⟩ : ∃ wo, wo = wr := ⟨wr, rfl⟩
      subst hwo
      go_loopw [34] (fun v w' => ∃ j : Int, v = .int .i64 j ∧ 0 ≤ j ∧ j ≤ f.f5.length ∧ Aside0 (FB wo w' wo.heap.size #[.string f.f0, .slice A1 f.f1.length c1, .int .i64 f.f2, .int .i64 f.f3, .bool f.f4, .slice A5 f.f5.length c5] 48 (wo.heap.size + 1) #[.slice (some ad) l.length c0, .string f.f0, .slice A1 f.f1.length c1, .int .i64 f.f2, .int .i64 f.f3, .bool f.f4, .slice A5 f.f5.length c5] 101)) (fun v _ => f.f5.length - (intOf v).toNat)
      case atStart => exact ⟨0, rfl, by omega, by omega, X4⟩
      case round =>
        obtain ⟨wm, hwm⟩ : ∃ wm, wm = wr := ⟨wr, rfl⟩
        subst hwm
        clear X4 X3 X q5
        obtain ⟨j, rfl, hj0, hj1, X5⟩ := hrel
        by_cases hlt2 : j < f.f5.length
        · obtain ⟨bd, D0, d0, D6, d6, eB, hBA⟩ := BA.of (HFA.out.below X5.out.hb).r6 j hj0 hlt2
          subst eB
          have HINS := Aside0.mk (FT.out.ins j hj0 hlt2)
          have HNP := Aside0.mk (FT.out.np j hj0 hlt2)
          have hnl := FT.out.nl j hj0 hlt2
          have HNT := Aside0.mk (FT.out.nt j hj0 hlt2)
          have HTE := Aside0.mk (FT.out.term j hj0 hlt2)
          generalize rd_T45 f.f5 j = B at *
          have HBA := Aside0.mk hBA
          have b0 := hBA.h0
          have b1 := hBA.h1
          have b2 := hBA.h2
          have b3 := hBA.h3
          have b4 := hBA.h4
          have b5 := hBA.h5
          have b6 := hBA.h6
          have X6 := Aside0.mk (X5.out.below (below_alloc (Below.refl _ wm) (Obj.cells #[.slice D0 B.f0.length d0, .int .i64 B.f1.f0, .bool B.f1.f1.f0, .int .i64 B.f1.f1.f1, .int .i64 B.f1.f2, .int .i64 B.f1.f3, .slice D6 B.f1.f4.length d6] 45)))
          have HB7 := Aside0.mk (Has.new wm #[.slice D0 B.f0.length d0, .int .i64 B.f1.f0, .bool B.f1.f1.f0, .int .i64 B.f1.f1.f1, .int .i64 B.f1.f2, .int .i64 B.f1.f3, .slice D6 B.f1.f4.length d6] 45)
          have HBM := Aside0.mk (below_alloc (Below.refl wm.heap.size wm) (Obj.cells #[.slice D0 B.f0.length d0, .int .i64 B.f1.f0, .bool B.f1.f1.f0, .int .i64 B.f1.f1.f1, .int .i64 B.f1.f2, .int .i64 B.f1.f3, .slice D6 B.f1.f4.length d6] 45))
          clear hBA
          go_wp2
          clear b0 b1 b2 b3 b4 b5 b6
          go_loopw [41] (fun v w' => ∃ i : Int, v = .int .i64 i ∧ 0 ≤ i ∧ i ≤ B.f0.length ∧ Aside0 (FB wo w' wo.heap.size #[.string f.f0, .slice A1 f.f1.length c1, .int .i64 f.f2, .int .i64 f.f3, .bool f.f4, .slice (some bd) f.f5.length c5] 48 (wo.heap.size + 1) #[.slice (some ad) l.length c0, .string f.f0, .slice A1 f.f1.length c1, .int .i64 f.f2, .int .i64 f.f3, .bool f.f4, .slice (some bd) f.f5.length c5] 101) ∧ Aside0 (Has w' wm.heap.size #[.slice D0 B.f0.length d0, .int .i64 B.f1.f0, .bool B.f1.f1.f0, .int .i64 B.f1.f1.f1, .int .i64 B.f1.f2, .int .i64 B.f1.f3, .slice D6 B.f1.f4.length d6] 45) ∧ Aside0 (Below wm.heap.size wm w')) (fun v _ => B.f0.length - (intOf v).toNat)
          case atStart => exact ⟨0, rfl, by omega, by omega, X6, HB7, HBM⟩
          case round =>
            clear X6 HB7 HBM
            obtain ⟨i, rfl, hi0, hi1, X7, H7, HM7⟩ := hrel
            have m0 := X7.out.b2.cell 0
            have m1 := X7.out.b2.cell 1
            have m2 := X7.out.b2.cell 2
            have m3 := X7.out.b2.cell 3
            have m4 := X7.out.b2.cell 4
            have m5 := X7.out.b2.cell 5
            have m6 := X7.out.b2.cell 6
            simp only [List.getElem?_toArray, List.getElem?_cons_zero, List.getElem?_cons_succ] at m0 m1 m2 m3 m4 m5 m6
            have ym0 := fun o => pw_cell_below (below_alloc (Below.refl _ wr) o) m0
            have ym1 := fun o => pw_cell_below (below_alloc (Below.refl _ wr) o) m1
            have ym2 := fun o => pw_cell_below (below_alloc (Below.refl _ wr) o) m2
            have ym3 := fun o => pw_cell_below (below_alloc (Below.refl _ wr) o) m3
            have ym4 := fun o => pw_cell_below (below_alloc (Below.refl _ wr) o) m4
            have ym5 := fun o => pw_cell_below (below_alloc (Below.refl _ wr) o) m5
            have ym6 := fun o => pw_cell_below (below_alloc (Below.refl _ wr) o) m6
            by_cases hlt3 : i < B.f0.length
            · obtain ⟨id, A7, c7, A9, c9, A15, c15, A16, c16, A17, c17, eI, hIA⟩ := IA.of (HBA.out.below HM7.out).g0 i hi0 hlt3
              subst eI
              have HIT := Aside0.mk (HINS.out i hi0 hlt3)
              have HNP2 := Aside0.mk (HNP.out i hi0 hlt3)
              generalize rd_T40 B.f0 i = s at *
              have HIA := Aside0.mk hIA
              have i0 := hIA.h0
              have i1 := hIA.h1
              have i2 := hIA.h2
              have i3 := hIA.h3
              have i4 := hIA.h4
              have i5 := hIA.h5
              have i6 := hIA.h6
              have i7 := hIA.h7
              have i8 := hIA.h8
              have i9 := hIA.h9
              have i10 := hIA.h10
              have i11 := hIA.h11
              have i12 := hIA.h12
              have i13 := hIA.h13
              have i14 := hIA.h14
              have i15 := hIA.h15
              have i16 := hIA.h16
              have i17 := hIA.h17
              clear hIA
              have HIA2 := Aside0.mk (fun o => HIA.out.below (below_alloc (Below.refl wr.heap.size wr) o))
              have HFA2 := Aside0.mk (fun o => HFA.out.below (below_then X7.out.hb X7.out.hb.size (below_alloc (Below.refl wr.heap.size wr) o)))
              have T := Aside0.mk (fun o => in_true l f (some ad) c0 A1 c1 (some bd) c5 s A7 A9 A15 A16 A17 c7 c9 c15 c16 c17 (wr.alloc o) (HFA2.out o) (HIA2.out o).g7 (HIA2.out o).l7 (HIA2.out o).g9 (HIA2.out o).l9 (HIA2.out o).g16 (HIA2.out o).l16 (HIA2.out o).g17 (HIA2.out o).l17 HNP2.out.1 HNP2.out.2 HIT.out)
              obtain ⟨Wn, hW⟩ : ∃ Wn, wr.alloc (Obj.cells #[.int .i64 s.f0, .int .i64 s.f1, .bool s.f2.f0, .int .i64 s.f2.f1, .bool s.f3.f0, .int .i64 s.f3.f1, .int .i64 s.f4.f0, .slice A7 s.f4.f1.length c7, .int .i64 s.f5.f0, .slice A9 s.f5.f1.length c9, .int .i64 s.f6, .string s.f7, .int .i64 s.f8.f0, .string s.f8.f1, .int .i64 s.f8.f2, .slice A15 s.f8.f3.length c15, .slice A16 s.f9.length c16, .slice A17 s.f10.length c17] 40) = Wn := ⟨_, rfl⟩
              have hH : Has Wn wr.heap.size #[.int .i64 s.f0, .int .i64 s.f1, .bool s.f2.f0, .int .i64 s.f2.f1, .bool s.f3.f0, .int .i64 s.f3.f1, .int .i64 s.f4.f0, .slice A7 s.f4.f1.length c7, .int .i64 s.f5.f0, .slice A9 s.f5.f1.length c9, .int .i64 s.f6, .string s.f7, .int .i64 s.f8.f0, .string s.f8.f1, .int .i64 s.f8.f2, .slice A15 s.f8.f3.length c15, .slice A16 s.f9.length c16, .slice A17 s.f10.length c17] 40 := hW ▸ Has.new wr #[.int .i64 s.f0, .int .i64 s.f1, .bool s.f2.f0, .int .i64 s.f2.f1, .bool s.f3.f0, .int .i64 s.f3.f1, .int .i64 s.f4.f0, .slice A7 s.f4.f1.length c7, .int .i64 s.f5.f0, .slice A9 s.f5.f1.length c9, .int .i64 s.f6, .string s.f7, .int .i64 s.f8.f0, .string s.f8.f1, .int .i64 s.f8.f2, .slice A15 s.f8.f3.length c15, .slice A16 s.f9.length c16, .slice A17 s.f10.length c17] 40
              have HHas := Aside0.mk hH
              have w0 := ym0 (Obj.cells #[.int .i64 s.f0, .int .i64 s.f1, .bool s.f2.f0, .int .i64 s.f2.f1, .bool s.f3.f0, .int .i64 s.f3.f1, .int .i64 s.f4.f0, .slice A7 s.f4.f1.length c7, .int .i64 s.f5.f0, .slice A9 s.f5.f1.length c9, .int .i64 s.f6, .string s.f7, .int .i64 s.f8.f0, .string s.f8.f1, .int .i64 s.f8.f2, .slice A15 s.f8.f3.length c15, .slice A16 s.f9.length c16, .slice A17 s.f10.length c17] 40)
              rw [hW] at w0
              have w1 := ym1 (Obj.cells #[.int .i64 s.f0, .int .i64 s.f1, .bool s.f2.f0, .int .i64 s.f2.f1, .bool s.f3.f0, .int .i64 s.f3.f1, .int .i64 s.f4.f0, .slice A7 s.f4.f1.length c7, .int .i64 s.f5.f0, .slice A9 s.f5.f1.length c9, .int .i64 s.f6, .string s.f7, .int .i64 s.f8.f0, .string s.f8.f1, .int .i64 s.f8.f2, .slice A15 s.f8.f3.length c15, .slice A16 s.f9.length c16, .slice A17 s.f10.length c17] 40)
              rw [hW] at w1
              have w2 := ym2 (Obj.cells #[.int .i64 s.f0, .int .i64 s.f1, .bool s.f2.f0, .int .i64 s.f2.f1, .bool s.f3.f0, .int .i64 s.f3.f1, .int .i64 s.f4.f0, .slice A7 s.f4.f1.length c7, .int .i64 s.f5.f0, .slice A9 s.f5.f1.length c9, .int .i64 s.f6, .string s.f7, .int .i64 s.f8.f0, .string s.f8.f1, .int .i64 s.f8.f2, .slice A15 s.f8.f3.length c15, .slice A16 s.f9.length c16, .slice A17 s.f10.length c17] 40)
              rw [hW] at w2
              have w3 := ym3 (Obj.cells #[.int .i64 s.f0, .int .i64 s.f1, .bool s.f2.f0, .int .i64 s.f2.f1, .bool s.f3.f0, .int .i64 s.f3.f1, .int .i64 s.f4.f0, .slice A7 s.f4.f1.length c7, .int .i64 s.f5.f0, .slice A9 s.f5.f1.length c9, .int .i64 s.f6, .string s.f7, .int .i64 s.f8.f0, .string s.f8.f1, .int .i64 s.f8.f2, .slice A15 s.f8.f3.length c15, .slice A16 s.f9.length c16, .slice A17 s.f10.length c17] 40)
              rw [hW] at w3
              have w4 := ym4 (Obj.cells #[.int .i64 s.f0, .int .i64 s.f1, .bool s.f2.f0, .int .i64 s.f2.f1, .bool s.f3.f0, .int .i64 s.f3.f1, .int .i64 s.f4.f0, .slice A7 s.f4.f1.length c7, .int .i64 s.f5.f0, .slice A9 s.f5.f1.length c9, .int .i64 s.f6, .string s.f7, .int .i64 s.f8.f0, .string s.f8.f1, .int .i64 s.f8.f2, .slice A15 s.f8.f3.length c15, .slice A16 s.f9.length c16, .slice A17 s.f10.length c17] 40)
              rw [hW] at w4
              have w5 := ym5 (Obj.cells #[.int .i64 s.f0, .int .i64 s.f1, .bool s.f2.f0, .int .i64 s.f2.f1, .bool s.f3.f0, .int .i64 s.f3.f1, .int .i64 s.f4.f0, .slice A7 s.f4.f1.length c7, .int .i64 s.f5.f0, .slice A9 s.f5.f1.length c9, .int .i64 s.f6, .string s.f7, .int .i64 s.f8.f0, .string s.f8.f1, .int .i64 s.f8.f2, .slice A15 s.f8.f3.length c15, .slice A16 s.f9.length c16, .slice A17 s.f10.length c17] 40)
              rw [hW] at w5
              have w6 := ym6 (Obj.cells #[.int .i64 s.f0, .int .i64 s.f1, .bool s.f2.f0, .int .i64 s.f2.f1, .bool s.f3.f0, .int .i64 s.f3.f1, .int .i64 s.f4.f0, .slice A7 s.f4.f1.length c7, .int .i64 s.f5.f0, .slice A9 s.f5.f1.length c9, .int .i64 s.f6, .string s.f7, .int .i64 s.f8.f0, .string s.f8.f1, .int .i64 s.f8.f2, .slice A15 s.f8.f3.length c15, .slice A16 s.f9.length c16, .slice A17 s.f10.length c17] 40)
              rw [hW] at w6
              have TW := T.out (Obj.cells #[.int .i64 s.f0, .int .i64 s.f1, .bool s.f2.f0, .int .i64 s.f2.f1, .bool s.f3.f0, .int .i64 s.f3.f1, .int .i64 s.f4.f0, .slice A7 s.f4.f1.length c7, .int .i64 s.f5.f0, .slice A9 s.f5.f1.length c9, .int .i64 s.f6, .string s.f7, .int .i64 s.f8.f0, .string s.f8.f1, .int .i64 s.f8.f2, .slice A15 s.f8.f3.length c15, .slice A16 s.f9.length c16, .slice A17 s.f10.length c17] 40)
              have BW := below_alloc (Below.refl wr.heap.size wr) (Obj.cells #[.int .i64 s.f0, .int .i64 s.f1, .bool s.f2.f0, .int .i64 s.f2.f1, .bool s.f3.f0, .int .i64 s.f3.f1, .int .i64 s.f4.f0, .slice A7 s.f4.f1.length c7, .int .i64 s.f5.f0, .slice A9 s.f5.f1.length c9, .int .i64 s.f6, .string s.f7, .int .i64 s.f8.f0, .string s.f8.f1, .int .i64 s.f8.f2, .slice A15 s.f8.f3.length c15, .slice A16 s.f9.length c16, .slice A17 s.f10.length c17] 40)
              rw [hW] at TW BW
              have HW := Aside0.mk hW
              have TWA := Aside0.mk TW
              clear hW TW hH
              go_wp2_with (first | ((with_reducible refine gate_store (t := 40) (p := 9) rfl ?_); go_must (refine store_event (t := 40) (p := 9) (v := .tmp 44) (w1 := Wn) ?hg ?ho ?hn ?hr ?_; (case ho => rfl); (case hg => rfl); (case hn => rfl); (case hr => rw [← HW.out]; exact store40 wr _ rfl (by first | kernel_rfl | (simp [Value.oneCell'])) _ _ _ _ rfl rfl rfl); intro w7 hw7; subst hw7)) | ((with_reducible refine gate_dst (N := 46) rfl ?_); go_must (refine Kd.event_run rfl (load40 w7 wr.heap.size #[.int .i64 s.f0, .int .i64 s.f1, .bool s.f2.f0, .int .i64 s.f2.f1, .bool s.f3.f0, .int .i64 s.f3.f1, .int .i64 s.f4.f0, .slice A7 s.f4.f1.length c7, .int .i64 s.f5.f0, .slice A9 s.f5.f1.length c9, .int .i64 s.f6, .string s.f7, .int .i64 s.f8.f0, .string s.f8.f1, .int .i64 s.f8.f2, .slice A15 s.f8.f3.length c15, .slice A16 s.f9.length c16, .slice A17 s.f10.length c17] HHas.out rfl _ _ _ rfl rfl) ?_)) | (go_at_call 31; go_must (refine TWA.out.mono ?_); rintro e w8 ⟨rfl, hb⟩; have hB8 := below_then BW (BW.size) hb))
              exact ⟨⟨i + 1, rfl, by omega, by omega, ⟨X7.out.below hB8⟩, ⟨H7.out.belowS hB8⟩, ⟨below_then HM7.out HM7.out.size hB8⟩⟩, by simp [intOf]; omega⟩
            · have hd3 : decide (i < (B.f0.length : Int)) = false := decide_eq_false hlt3
              have c0' := H7.out.cell 0
              have c1' := H7.out.cell 1
              have c2' := H7.out.cell 2
              have c3' := H7.out.cell 3
              have c4' := H7.out.cell 4
              have c5' := H7.out.cell 5
              have c6' := H7.out.cell 6
              simp only [List.getElem?_toArray, List.getElem?_cons_zero, List.getElem?_cons_succ] at c0' c1' c2' c3' c4' c5' c6'
              go_wp2_with (go_at_call 32; refine (term_said l f (some ad) c0 A1 c1 (some bd) c5 B.f1 D6 d6 _ (HFA.out.below X7.out.hb) (HBA.out.below HM7.out).g6 HNT.out).mono ?_; rintro e w8 ⟨rfl, hb⟩; have te := HTE.out)
              exact ⟨⟨j + 1, rfl, by omega, by omega, ⟨X7.out.below hb⟩⟩, by simp [intOf]; omega⟩
        · have hd2 : decide (j < (f.f5.length : Int)) = false := decide_eq_false hlt2
          go_wp2
          exact ⟨⟨k + 1, rfl, by omega, by omega, ⟨below_then HB.out HB.out.size X5.out.hb⟩⟩, by simp [intOf]; omega⟩
    · have hd : decide (k < (l.length : Int)) = false := decide_eq_false hlt
      go_wp2
      go_ret
      exact ⟨rfl, HB.out⟩
end Go.Proofs.Ytpphpcmbpbppoaa.Form
end
section
namespace Go.Proofs.Ytpphpcmbpbppoaa.Calm
open Go
set_option linter.unusedVariables false
section
variable {P : Program} {ops : Array Oper} {a : Act} {w : World} {Fin : Act → World → Prop}
def finQ (Fin : Act → World → Prop) : Exit → Act → World → Prop
  | .normal, a, w => Fin a w
  | _, _, _ => False
def Tree (P : Program) (ops : Array Oper) (Fin : Act → World → Prop) (fuel : Nat) (ls : Array Bool) (a : Act) (w : World) : Prop := wpAnyH P .any ops (finQ Fin) (fun _ => True) fuel ls a w
theorem region_tree {id : Nat} {Q : Exit → Act → World → Prop} {l : List Oper} (hm : P.follows .mixedOrders = true) (Fin : Act → World → Prop) (h : Tree P l.toArray Fin l.length (Array.replicate l.length false) a w.drew) (hQ : ∀ a' w', Fin a' w' → Q .normal a' w') : (Code.region id l.toArray true).wp P Q a w := by
  refine Code.wp_mono (Q := finQ Fin) (fun e a w h => ?_) ?_
  · cases e <;> first | exact hQ _ _ h | exact (h : False).elim
  · exact wp_region_held_drew (S := fun _ => True) hm trivial fun _ => by simpa [Tree] using h
theorem tree_h {fuel : Nat} {ls : Array Bool} {i : Nat} {o : Oper} {d : Tmp} (hs : Region.noSelect ops = true) (ho : ops[i]? = some o) (hd : o.dst = some d) (hr : ((Region.ready .any ops ls).contains i && Region.free .any ops ls i) = true) (hw : Region.wanted o (yielded ops a.tmps) = true)
    (h : ∃ v, (∀ w, VR w v ((execOp a.eval o).run P w)) ∧ Tree P ops Fin fuel (ls.setIfInBounds i true) { tmps := a.tmps.setIfInBounds d v, defers := a.defers } w) : Tree P ops Fin (fuel + 1) ls a w := by
  obtain ⟨v, hv, h⟩ := h
  simp only [Bool.and_eq_true] at hr
  refine wpAnyH_take ho hs hr.2 hr.1 (fun c a' w' hq => hq) (v := v) (.inl ⟨hw, fun w _ => (hv w).out⟩) trivial ?_
  rw [hd]; exact h
def Step (P : Program) (ops : Array Oper) (Fin : Act → World → Prop) (fuel : Nat) (ls : Array Bool) (a : Act) (w : World) (i : Nat) : Prop :=
  wpOp P ops (finQ Fin) i (fun a' w' => True ∧ Tree P ops Fin fuel (ls.setIfInBounds i true) a' w') a w
theorem tree_1 {fuel : Nat} {ls : Array Bool} {i : Nat} (hr : Region.ready .any ops ls = [i]) (h : Step P ops Fin fuel ls a w i) : Tree P ops Fin (fuel + 1) ls a w :=
  wpAnyH_all hr (by simp) fun j hj => by
    obtain rfl : j = i := by simpa using hj
    exact h
theorem tree_2 {fuel : Nat} {ls : Array Bool} {i k : Nat} (hr : Region.ready .any ops ls = [i, k]) (h : Step P ops Fin fuel ls a w i) (h2 : Step P ops Fin fuel ls a w k) : Tree P ops Fin (fuel + 1) ls a w :=
  wpAnyH_all hr (by simp) fun j hj => by
    rcases (by simpa using hj : j = i ∨ j = k) with rfl | rfl
    · exact h
    · exact h2
theorem tree_3 {fuel : Nat} {ls : Array Bool} {i k m : Nat} (hr : Region.ready .any ops ls = [i, k, m]) (h : Step P ops Fin fuel ls a w i) (h2 : Step P ops Fin fuel ls a w k) (h3 : Step P ops Fin fuel ls a w m) : Tree P ops Fin (fuel + 1) ls a w :=
  wpAnyH_all hr (by simp) fun j hj => by
    rcases (by simpa using hj : j = i ∨ j = k ∨ j = m) with rfl | rfl | rfl
    · exact h
    · exact h2
    · exact h3
theorem tree_end {ls : Array Bool} (hr : Region.ready .any ops ls = []) (h : Fin a w) : Tree P ops Fin 0 ls a w := ⟨hr, h⟩
theorem step_value {fuel : Nat} {ls : Array Bool} {i : Nat} {o : Oper} {d : Tmp} {v : Value} {w' : World} (ho : ops[i]? = some o) (hd : o.dst = some d) (hw : Region.wanted o (yielded ops a.tmps) = true) (hr : VW w v w' ((execOp a.eval o).run P w))
    (h : Tree P ops Fin fuel (ls.setIfInBounds i true) { tmps := a.tmps.setIfInBounds d v, defers := a.defers } w') : Step P ops Fin fuel ls a w i := by
  unfold Step wpOp
  simp only [ho, hw, if_true]
  left
  unfold Oper.wp
  rw [hr.out, Oper.upon_value, hd]
  exact ⟨trivial, h⟩
theorem step_store {fuel : Nat} {ls : Array Bool} {i : Nat} {o : Oper} {w' : World} (ho : ops[i]? = some o) (hd : o.dst = none) (hw : Region.wanted o (yielded ops a.tmps) = true) (hr : SW w' ((execOp a.eval o).run P w))
    (h : Tree P ops Fin fuel (ls.setIfInBounds i true) a w') : Step P ops Fin fuel ls a w i := by
  unfold Step wpOp
  simp only [ho, hw, if_true]
  left
  unfold Oper.wp
  rw [hr.out, Oper.upon_skip, hd]
  exact ⟨trivial, h⟩
theorem step_call {fuel : Nat} {ls : Array Bool} {i : Nat} {o : Oper} {d : Tmp} {f : FuncId} {args : Array Value} (ho : ops[i]? = some o) (hd : o.dst = some d) (hw : Region.wanted o (yielded ops a.tmps) = true) (hr : ER w f args ((execOp a.eval o).run P w))
    (hc : Calls P f args w fun e w' => ∃ v, e = .returned v ∧ Tree P ops Fin fuel (ls.setIfInBounds i true) { tmps := a.tmps.setIfInBounds d v, defers := a.defers } w') : Step P ops Fin fuel ls a w i := by
  unfold Step wpOp
  simp only [ho, hw, if_true]
  left
  unfold Oper.wp
  rw [hr.out, Oper.upon_enter]
  refine hc.mono ?_
  rintro e w' ⟨v, rfl, h⟩
  refine ⟨trivial, ?_⟩
  rw [hd]; exact h
end
end Go.Proofs.Ytpphpcmbpbppoaa.Calm
end
section
namespace Go.Proofs.Ytpphpcmbpbppoaa.Calm
open Go
set_option linter.unusedVariables false
section
variable {P : Program}
def panicR (Q : Exit → Act → World → Prop) (Pn : List PanicEntry → World → Prop) (D : List Deferred) (x8 x9 : Value) : Exit → Act → World → Prop
  | .panic c, a, w => Pn c w ∧ a.defers = D ∧ a.tmps[8]? = some x8 ∧ a.tmps[9]? = some x9
  | e, a, w => Q e a w
def dstB (l : List Oper) : Bool := l.all fun o => match o.dst with | none => true | some d => decide (10 ≤ d)
theorem mixD_held {ops : Array Oper} {Q : Exit → Act → World → Prop} {S : World → Prop} (hs : Region.noSelect ops = true) (hQ : ∀ (k : Nat) (o : Oper) c (a : Act) v w, ops[k]? = some o → Q (.panic c) (a.put o.dst v) w → Q (.panic c) a w) :
    ∀ (ms : List Mark) (ls : Array Bool) (a : Act) (w : World), S w → mixB ops ms ls = true → mix P ops Q S ms a w → wpAnyH P .any ops Q S ms.length ls a w
  | [], ls, a, w, _, hB, h => ⟨by simpa [mixB] using hB, h⟩
  | .h k :: r, ls, a, w, hS, hB, h => by
    simp only [mixB, Bool.and_eq_true] at hB
    obtain ⟨o, ho, v, hy, h⟩ := h
    exact wpAnyH_take ho hs hB.1.2 hB.1.1 (fun c a' w' hq => hQ k o c a' v w' ho hq) hy hS (mixD_held hs hQ r _ _ w hS hB.2 h)
  | .c k :: r, ls, a, w, hS, hB, h => by
    simp only [mixB, Bool.and_eq_true, decide_eq_true_eq] at hB
    obtain ⟨o, ho, hg, h⟩ := h
    refine ⟨fun h1 => (by rw [hB.1] at h1; cases h1), fun i hi => ?_⟩
    rw [hB.1] at hi
    have hik : i = k := by simpa using hi
    subst hik
    unfold wpOp
    simp only [ho, hg, if_true]
    exact .inl (Oper.wp_mono (fun a' w' h' => ⟨h'.1, mixD_held hs hQ r _ a' w' h'.1 hB.2 h'.2⟩) h)
theorem region_mixD {id : Nat} {Q : Exit → Act → World → Prop} {a : Act} {w : World} {l : List Oper} (Pn : List PanicEntry → World → Prop) (D : List Deferred) (x8 x9 : Value) (ms : List Mark) (S : World → Prop) (hm : P.follows .mixedOrders = true)
    (hB : (Region.noSelect l.toArray && decide (ms.length = l.length) && dstB l && mixB l.toArray ms (Array.replicate l.length false)) = true)
    (hS : S w.drew) (h : mix P l.toArray (panicR Q Pn D x8 x9) S ms a w.drew)
    (hP : ∀ c (a : Act) w, Pn c w → a.defers = D → a.tmps[8]? = some x8 → a.tmps[9]? = some x9 → Q (.panic c) a w) : (Code.region id l.toArray true).wp P Q a w := by
  simp only [Bool.and_eq_true, decide_eq_true_eq] at hB
  obtain ⟨⟨⟨hno, hlen⟩, hdst⟩, hmx⟩ := hB
  refine Code.wp_mono (Q := panicR Q Pn D x8 x9) (fun e a w h => ?_) ?_
  · cases e with
    | panic c => exact hP c a w h.1 h.2.1 h.2.2.1 h.2.2.2
    | _ => exact h
  · refine wp_region_held_drew (S := S) hm hS fun hS' => ?_
    have := mixD_held (Q := panicR Q Pn D x8 x9) (S := S) (P := P) hno (fun k o c a v w ho hq => ?_) ms (Array.replicate l.length false) a w.drew hS' hmx h
    · rw [hlen] at this
      simpa using this
    · have hmem : o ∈ l := by
        have : l[k]? = some o := by simpa using ho
        exact List.mem_of_getElem? this
      have hd := List.all_eq_true.1 hdst o hmem
      cases hdo : o.dst with
      | none => rw [hdo] at hq; exact hq
      | some d =>
        rw [hdo] at hq hd
        have hd : 10 ≤ d := by simpa using hd
        obtain ⟨h1, h2, h3, h4⟩ := hq
        refine ⟨h1, h2, ?_, ?_⟩
        · rw [← h3]; show a.tmps[8]? = (a.tmps.setIfInBounds d v)[8]?; rw [Array.getElem?_setIfInBounds_ne (fun e => absurd (e ▸ hd) (by decide))]
        · rw [← h4]; show a.tmps[9]? = (a.tmps.setIfInBounds d v)[9]?; rw [Array.getElem?_setIfInBounds_ne (fun e => absurd (e ▸ hd) (by decide))]
end
end Go.Proofs.Ytpphpcmbpbppoaa.Calm
end
