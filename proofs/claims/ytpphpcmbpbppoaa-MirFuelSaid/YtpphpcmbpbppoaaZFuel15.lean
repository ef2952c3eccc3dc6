/- Steps toward the law Fuel, merged from several texts (some of them began as the kit's print). No condition. -/
import Derived.Deep.WholeRow
import Derived.Test.YtpphpcmbpbppoaaZFuel14
section
namespace Go.Proofs.Ytpphpcmbpbppoaa.Form
open Go.RowKit Go.Proofs.YtpphpcmbpbppoaaW.PrintWords Go.Proofs.YtpphpcmbpbppoaaW.PrintLast Go.Proofs.YtpphpcmbpbppoaaW.PrintMore
open Go.Proofs.Ytpphpcmbpbppoaa.Calm
open Go.Proofs.Ytpphpcmbpbppoaa.Mach
open Go.Proofs.Ytpphpcmbpbppoaa.PMirFuel (S30 S57 S34 S37 S40 S43 S45 S48 k30 k57 k34 k37 k40 k43 k45 k48 rd_T30 rd_T57 rd_T34 rd_T37 rd_T40 rd_T43 rd_T45 rd_T48 at_T30 at_T57 at_T34 at_T40 at_T45 at_T48)
set_option linter.unusedVariables false
set_option linter.unusedSimpArgs false
def ckN (l : List S48) : Int := if chkB l = true then 0 else 10
theorem ckN_no {l : List S48} (h : chkB l = false) : ckN l = 10 := by simp [ckN, h]
theorem ckN_yes {l : List S48} (h : chkB l = true) : ckN l = 0 := by simp [ckN, h]
theorem step_pre {p : Int → Bool} {k : Int} (h0 : 0 ≤ k) (h : ∀ k' : Int, 0 ≤ k' → k' < k → p k' = true) (hk : p k = true) : ∀ k' : Int, 0 ≤ k' → k' < k + 1 → p k' = true := by
 intro k' h1 h2
 by_cases e : k' = k
 ·rw [e]; exact hk
 ·exact h k' h1 (by omega)
set_option maxRecDepth 100000 in
set_option maxHeartbeats 8000000 in
theorem check_said (l : List S48) (A0 : Option Addr) (c0 : Nat) (w : World) (H : Kd.C k48 w A0 l.length l) (hc : l.length ≤ c0) (C : SzL l) :
  Calls Try.prog 13 #[.slice A0 l.length c0] w fun e w' => e = .returned (.int .i64 (ckN l)) ∧ Below w.heap.size w w' := by
 have HL := Aside0.mk H
 have HC := Aside0.mk C
 have hll := C.n
 have hu48 := Try.underlying48
 have hu45 := Try.underlying45
 have hu40 := Try.underlying40
 have hu101 := Try.underlying101
 have B0 := Aside0.mk (Below.refl w.heap.size w)
 clear H C
 go_enter Try.func13, Try.ntmps13
 go_wp2
 go_loopw [12] (fun v wr => ∃ k : Int, v = .int .i64 k ∧ 0 ≤ k ∧ k ≤ l.length ∧ Aside0 (Below w.heap.size w wr) ∧ Aside0 (∀ k' : Int, 0 ≤ k' → k' < k → fnB l k' (rd_T48 l k') = true)) (fun v _ => l.length - (intOf v).toNat)
 case atStart => exact ⟨0, rfl, by omega, by omega, B0, ⟨fun k' h1 h2 => by omega⟩⟩
 case round =>
  clear B0
  obtain ⟨k, rfl, hk0, hk1, HB, HPRE⟩ := hrel
  by_cases hlt : k < l.length
  ·obtain ⟨ad, A1, c1, A5, c5, e, r0, r1, r2, r3, r4, r5, rl1, rg1, rl5, rg5⟩ := at_T48 (Kd.C_below HL.out HB.out) k hk0 hlt
   subst e
   have FT := Aside0.mk (HC.out.fs _ (mem_48 hk0 hlt))
   generalize hf : rd_T48 l k = f at *
   have HKF := Aside0.mk hf
   have HR := Aside0.mk (And.intro rg1 (And.intro rl1 (And.intro rg5 rl5)))
   have n5 := FT.out.n5
   have HFA := Aside0.mk (FA.mk (l := l) (f := f) (c0 := c0) (Kd.C_below HL.out HB.out) hc rg1 rl1 rg5 rl5)
   have X := Aside0.mk (FB.new wr #[.string f.f0, .slice A1 f.f1.length c1, .int .i64 f.f2, .int .i64 f.f3, .bool f.f4, .slice A5 f.f5.length c5] 48 #[.slice (some ad) l.length c0, .string f.f0, .slice A1 f.f1.length c1, .int .i64 f.f2, .int .i64 f.f3, .bool f.f4, .slice A5 f.f5.length c5] 101)
   clear rg1 rl1 rg5 rl5 hf
   by_cases hfk : findP l f.f0 = k
   rotate_left
   ·have HNO := Aside0.mk (ckN_no (chk_find hk0 hlt (by rw [HKF.out]; exact hfk)))
    obtain ⟨q, hq⟩ : ∃ q, findP l f.f0 = q := ⟨_, rfl⟩
    rw [hq] at hfk
    have hqk : (q != k) = true := by simp [hfk]
    have FND := Aside0.mk (hq ▸ find_f l f.f0 hll)
    clear hq hfk
    go_wp2_with (go_at_call 27; with_reducible refine (PMirFuel.mir_find.calls (l.length + 1) (some ad) c0 l f.f0 q _ (Kd.C_below HFA.out.r0 X.out.hb) hc FND.out).mono ?_; rintro e w3 ⟨rfl, hd⟩; have X3 := Aside0.mk (X.out.below hd.below); clear hd; have m0 := X3.out.b2.cell 0; have m1 := X3.out.b2.cell 1; have m2 := X3.out.b2.cell 2; have m3 := X3.out.b2.cell 3; have m4 := X3.out.b2.cell 4; have m5 := X3.out.b2.cell 5; have m6 := X3.out.b2.cell 6; simp only [List.getElem?_toArray, List.getElem?_cons_zero, List.getElem?_cons_succ] at m0 m1 m2 m3 m4 m5 m6)
    go_ret
    exact ⟨by rw [HNO.out]; rfl, below_then HB.out HB.out.size X3.out.hb⟩
   have FND := Aside0.mk (hfk ▸ find_f l f.f0 hll)
   have HFK := Aside0.mk hfk
   clear hfk
   cases hfr : frB f with
   | false =>
    have HNO := Aside0.mk (ckN_no (chk_frame hk0 hlt (by rw [HKF.out]; exact hfr)))
    have FRM := Aside0.mk (hfr ▸ frame_f l f FT.out.n1 (2 * f.f1.length + 3) (by omega))
    clear hfr
    go_wp2_with (first | (go_at_call 27; with_reducible refine (PMirFuel.mir_find.calls (l.length + 1) (some ad) c0 l f.f0 k _ (Kd.C_below HFA.out.r0 X.out.hb) hc FND.out).mono ?_; rintro e w3 ⟨rfl, hd⟩; have X3 := Aside0.mk (X.out.below hd.below); clear hd; have m0 := X3.out.b2.cell 0; have m1 := X3.out.b2.cell 1; have m2 := X3.out.b2.cell 2; have m3 := X3.out.b2.cell 3; have m4 := X3.out.b2.cell 4; have m5 := X3.out.b2.cell 5; have m6 := X3.out.b2.cell 6; simp only [List.getElem?_toArray, List.getElem?_cons_zero, List.getElem?_cons_succ] at m0 m1 m2 m3 m4 m5 m6) | (go_at_call 30; with_reducible refine (PMirFuel.mir_former_frame.calls (2 * f.f1.length + 3) (some ad) c0 l f.f0 A1 c1 f.f1 f.f2 f.f3 f.f4 A5 c5 f.f5 false _ (HFA.out.below X3.out.hb).r0 hc (HFA.out.below X3.out.hb).r2 HFA.out.l2 (HFA.out.below X3.out.hb).r6 HFA.out.l6 FRM.out).mono ?_; rintro e w4 ⟨rfl, hb⟩; have X4 := Aside0.mk (X3.out.below hb); clear hb; have q5 := X4.out.b1.cell 5; simp only [List.getElem?_toArray, List.getElem?_cons_zero, List.getElem?_cons_succ] at q5))
    go_ret
    exact ⟨by rw [HNO.out]; rfl, below_then HB.out HB.out.size X4.out.hb⟩
   | true =>
   have FRM := Aside0.mk (hfr ▸ frame_f l f FT.out.n1 (2 * f.f1.length + 3) (by omega))
   have HFR := Aside0.mk hfr
   clear hfr
   go_wp2_with (first | (go_at_call 27; with_reducible refine (PMirFuel.mir_find.calls (l.length + 1) (some ad) c0 l f.f0 k _ (Kd.C_below HFA.out.r0 X.out.hb) hc FND.out).mono ?_; rintro e w3 ⟨rfl, hd⟩; have X3 := Aside0.mk (X.out.below hd.below); clear hd; have m0 := X3.out.b2.cell 0; have m1 := X3.out.b2.cell 1; have m2 := X3.out.b2.cell 2; have m3 := X3.out.b2.cell 3; have m4 := X3.out.b2.cell 4; have m5 := X3.out.b2.cell 5; have m6 := X3.out.b2.cell 6; simp only [List.getElem?_toArray, List.getElem?_cons_zero, List.getElem?_cons_succ] at m0 m1 m2 m3 m4 m5 m6) | (go_at_call 30; with_reducible refine (PMirFuel.mir_former_frame.calls (2 * f.f1.length + 3) (some ad) c0 l f.f0 A1 c1 f.f1 f.f2 f.f3 f.f4 A5 c5 f.f5 true _ (HFA.out.below X3.out.hb).r0 hc (HFA.out.below X3.out.hb).r2 HFA.out.l2 (HFA.out.below X3.out.hb).r6 HFA.out.l6 FRM.out).mono ?_; rintro e w4 ⟨rfl, hb⟩; have X4 := Aside0.mk (X3.out.below hb); clear hb; have q5 := X4.out.b1.cell 5; simp only [List.getElem?_toArray, List.getElem?_cons_zero, List.getElem?_cons_succ] at q5))
   clear m0 m1 m2 m3 m4 m5 m6 r0 r1 r2 r3 r4 r5
   obtain ⟨wo, hwo⟩ : ∃ wo, wo = wr := ⟨wr, rfl⟩
   subst hwo
   go_loopw [34] (fun v w' => ∃ j : Int, v = .int .i64 j ∧ 0 ≤ j ∧ j ≤ f.f5.length ∧ Aside0 (FB wo w' wo.heap.size #[.string f.f0, .slice A1 f.f1.length c1, .int .i64 f.f2, .int .i64 f.f3, .bool f.f4, .slice A5 f.f5.length c5] 48 (wo.heap.size + 1) #[.slice (some ad) l.length c0, .string f.f0, .slice A1 f.f1.length c1, .int .i64 f.f2, .int .i64 f.f3, .bool f.f4, .slice A5 f.f5.length c5] 101) ∧ Aside0 (∀ j' : Int, 0 ≤ j' → j' < j → blB l f (rd_T45 f.f5 j') = true)) (fun v _ => f.f5.length - (intOf v).toNat)
   case atStart => exact ⟨0, rfl, by omega, by omega, X4, ⟨fun j' h1 h2 => by omega⟩⟩
   case round =>
    obtain ⟨wm, hwm⟩ : ∃ wm, wm = wr := ⟨wr, rfl⟩
    subst hwm
    clear X4 X3 X q5
    obtain ⟨j, rfl, hj0, hj1, X5, HPRE2⟩ := hrel
    by_cases hlt2 : j < f.f5.length
    ·obtain ⟨bd, D0, d0, D6, d6, eB, hBA⟩ := BA.of (HFA.out.below X5.out.hb).r6 j hj0 hlt2
     subst eB
     have HSB := Aside0.mk (FT.out.bl _ (mem_45 hj0 hlt2))
     have hnl := HSB.out.n0
     have HNT := Aside0.mk HSB.out.n4
     generalize hBB : rd_T45 f.f5 j = B at *
     have HKB := Aside0.mk hBB
     clear hBB
     have HBA := Aside0.mk hBA
     have b0 := hBA.h0
     have b1 := hBA.h1
     have b2 := hBA.h2
     have b3 := hBA.h3
     have b4 := hBA.h4
     have b5 := hBA.h5
     have b6 := hBA.h6
     have X6 := Aside0.mk (X5.out.below (below_alloc (Below.refl _ wm) (Obj.cells #[.slice D0 B.f0.length d0, .int .i64 B.f1.f0, .bool B.f1.f1.f0, .int .i64 B.f1.f1.f1, .int .i64 B.f1.f2, .int .i64 B.f1.f3, .slice D6 B.f1.f4.length d6] 45)))
     have HB7 := Aside0.mk (Has.new wm #[.slice D0 B.f0.length d0, .int .i64 B.f1.f0, .bool B.f1.f1.f0, .int .i64 B.f1.f1.f1, .int .i64 B.f1.f2, .int .i64 B.f1.f3, .slice D6 B.f1.f4.length d6] 45)
     have HBM := Aside0.mk (below_alloc (Below.refl wm.heap.size wm) (Obj.cells #[.slice D0 B.f0.length d0, .int .i64 B.f1.f0, .bool B.f1.f1.f0, .int .i64 B.f1.f1.f1, .int .i64 B.f1.f2, .int .i64 B.f1.f3, .slice D6 B.f1.f4.length d6] 45))
     clear hBA
     go_wp2
     clear b0 b1 b2 b3 b4 b5 b6
     go_loopw [41] (fun v w' => ∃ i : Int, v = .int .i64 i ∧ 0 ≤ i ∧ i ≤ B.f0.length ∧ Aside0 (FB wo w' wo.heap.size #[.string f.f0, .slice A1 f.f1.length c1, .int .i64 f.f2, .int .i64 f.f3, .bool f.f4, .slice (some bd) f.f5.length c5] 48 (wo.heap.size + 1) #[.slice (some ad) l.length c0, .string f.f0, .slice A1 f.f1.length c1, .int .i64 f.f2, .int .i64 f.f3, .bool f.f4, .slice (some bd) f.f5.length c5] 101) ∧ Aside0 (Has w' wm.heap.size #[.slice D0 B.f0.length d0, .int .i64 B.f1.f0, .bool B.f1.f1.f0, .int .i64 B.f1.f1.f1, .int .i64 B.f1.f2, .int .i64 B.f1.f3, .slice D6 B.f1.f4.length d6] 45) ∧ Aside0 (Below wm.heap.size wm w') ∧ Aside0 (∀ i' : Int, 0 ≤ i' → i' < i → inB l f.f1 (rd_T40 B.f0 i') = true)) (fun v _ => B.f0.length - (intOf v).toNat)
     case atStart => exact ⟨0, rfl, by omega, by omega, X6, HB7, HBM, ⟨fun i' h1 h2 => by omega⟩⟩
     case round =>
      clear X6 HB7 HBM
      obtain ⟨i, rfl, hi0, hi1, X7, H7, HM7, HPRE3⟩ := hrel
      have m0 := X7.out.b2.cell 0
      have m1 := X7.out.b2.cell 1
      have m2 := X7.out.b2.cell 2
      have m3 := X7.out.b2.cell 3
      have m4 := X7.out.b2.cell 4
      have m5 := X7.out.b2.cell 5
      have m6 := X7.out.b2.cell 6
      simp only [List.getElem?_toArray, List.getElem?_cons_zero, List.getElem?_cons_succ] at m0 m1 m2 m3 m4 m5 m6
      have ym0 := fun o => pwcb (below_alloc (Below.refl _ wr) o) m0
      have ym1 := fun o => pwcb (below_alloc (Below.refl _ wr) o) m1
      have ym2 := fun o => pwcb (below_alloc (Below.refl _ wr) o) m2
      have ym3 := fun o => pwcb (below_alloc (Below.refl _ wr) o) m3
      have ym4 := fun o => pwcb (below_alloc (Below.refl _ wr) o) m4
      have ym5 := fun o => pwcb (below_alloc (Below.refl _ wr) o) m5
      have ym6 := fun o => pwcb (below_alloc (Below.refl _ wr) o) m6
      by_cases hlt3 : i < B.f0.length
      ·obtain ⟨id, A7, c7, A9, c9, A15, c15, A16, c16, A17, c17, eI, hIA⟩ := IA.of (HBA.out.below HM7.out).g0 i hi0 hlt3
       subst eI
       have HSI := Aside0.mk (HSB.out.ins _ (mem_40 hi0 hlt3))
       have HLK := Aside0.mk (HC.out.f1 (findP l (rd_T40 B.f0 i).f7))
       generalize hSS : rd_T40 B.f0 i = s at *
       have HKI := Aside0.mk hSS
       clear hSS
       have HIA := Aside0.mk hIA
       have i0 := hIA.h0
       have i1 := hIA.h1
       have i2 := hIA.h2
       have i3 := hIA.h3
       have i4 := hIA.h4
       have i5 := hIA.h5
       have i6 := hIA.h6
       have i7 := hIA.h7
       have i8 := hIA.h8
       have i9 := hIA.h9
       have i10 := hIA.h10
       have i11 := hIA.h11
       have i12 := hIA.h12
       have i13 := hIA.h13
       have i14 := hIA.h14
       have i15 := hIA.h15
       have i16 := hIA.h16
       have i17 := hIA.h17
       clear hIA
       have HIA2 := Aside0.mk (fun o => HIA.out.below (below_alloc (Below.refl wr.heap.size wr) o))
       have HFA2 := Aside0.mk (fun o => HFA.out.below (below_then X7.out.hb X7.out.hb.size (below_alloc (Below.refl wr.heap.size wr) o)))
       have T := Aside0.mk (fun o => in_all l f (some ad) c0 A1 c1 (some bd) c5 s A7 A9 A15 A16 A17 c7 c9 c15 c16 c17 (wr.alloc o) (HFA2.out o) (HIA2.out o).g7 (HIA2.out o).l7 (HIA2.out o).g9 (HIA2.out o).l9 (HIA2.out o).g16 (HIA2.out o).l16 (HIA2.out o).g17 (HIA2.out o).l17 HSI.out.p4 HSI.out.p5 HC.out.n HSI.out.n9 HSI.out.n10 HLK.out)
       obtain ⟨Wn, hW⟩ : ∃ Wn, wr.alloc (Obj.cells #[.int .i64 s.f0, .int .i64 s.f1, .bool s.f2.f0, .int .i64 s.f2.f1, .bool s.f3.f0, .int .i64 s.f3.f1, .int .i64 s.f4.f0, .slice A7 s.f4.f1.length c7, .int .i64 s.f5.f0, .slice A9 s.f5.f1.length c9, .int .i64 s.f6, .string s.f7, .int .i64 s.f8.f0, .string s.f8.f1, .int .i64 s.f8.f2, .slice A15 s.f8.f3.length c15, .slice A16 s.f9.length c16, .slice A17 s.f10.length c17] 40) = Wn := ⟨_, rfl⟩
       have hH : Has Wn wr.heap.size #[.int .i64 s.f0, .int .i64 s.f1, .bool s.f2.f0, .int .i64 s.f2.f1, .bool s.f3.f0, .int .i64 s.f3.f1, .int .i64 s.f4.f0, .slice A7 s.f4.f1.length c7, .int .i64 s.f5.f0, .slice A9 s.f5.f1.length c9, .int .i64 s.f6, .string s.f7, .int .i64 s.f8.f0, .string s.f8.f1, .int .i64 s.f8.f2, .slice A15 s.f8.f3.length c15, .slice A16 s.f9.length c16, .slice A17 s.f10.length c17] 40 := hW ▸ Has.new wr #[.int .i64 s.f0, .int .i64 s.f1, .bool s.f2.f0, .int .i64 s.f2.f1, .bool s.f3.f0, .int .i64 s.f3.f1, .int .i64 s.f4.f0, .slice A7 s.f4.f1.length c7, .int .i64 s.f5.f0, .slice A9 s.f5.f1.length c9, .int .i64 s.f6, .string s.f7, .int .i64 s.f8.f0, .string s.f8.f1, .int .i64 s.f8.f2, .slice A15 s.f8.f3.length c15, .slice A16 s.f9.length c16, .slice A17 s.f10.length c17] 40
       have HHas := Aside0.mk hH
       have w0 := ym0 (Obj.cells #[.int .i64 s.f0, .int .i64 s.f1, .bool s.f2.f0, .int .i64 s.f2.f1, .bool s.f3.f0, .int .i64 s.f3.f1, .int .i64 s.f4.f0, .slice A7 s.f4.f1.length c7, .int .i64 s.f5.f0, .slice A9 s.f5.f1.length c9, .int .i64 s.f6, .string s.f7, .int .i64 s.f8.f0, .string s.f8.f1, .int .i64 s.f8.f2, .slice A15 s.f8.f3.length c15, .slice A16 s.f9.length c16, .slice A17 s.f10.length c17] 40)
       rw [hW] at w0
       have w1 := ym1 (Obj.cells #[.int .i64 s.f0, .int .i64 s.f1, .bool s.f2.f0, .int .i64 s.f2.f1, .bool s.f3.f0, .int .i64 s.f3.f1, .int .i64 s.f4.f0, .slice A7 s.f4.f1.length c7, .int .i64 s.f5.f0, .slice A9 s.f5.f1.length c9, .int .i64 s.f6, .string s.f7, .int .i64 s.f8.f0, .string s.f8.f1, .int .i64 s.f8.f2, .slice A15 s.f8.f3.length c15, .slice A16 s.f9.length c16, .slice A17 s.f10.length c17] 40)
       rw [hW] at w1
       have w2 := ym2 (Obj.cells #[.int .i64 s.f0, .int .i64 s.f1, .bool s.f2.f0, .int .i64 s.f2.f1, .bool s.f3.f0, .int .i64 s.f3.f1, .int .i64 s.f4.f0, .slice A7 s.f4.f1.length c7, .int .i64 s.f5.f0, .slice A9 s.f5.f1.length c9, .int .i64 s.f6, .string s.f7, .int .i64 s.f8.f0, .string s.f8.f1, .int .i64 s.f8.f2, .slice A15 s.f8.f3.length c15, .slice A16 s.f9.length c16, .slice A17 s.f10.length c17] 40)
       rw [hW] at w2
       have w3 := ym3 (Obj.cells #[.int .i64 s.f0, .int .i64 s.f1, .bool s.f2.f0, .int .i64 s.f2.f1, .bool s.f3.f0, .int .i64 s.f3.f1, .int .i64 s.f4.f0, .slice A7 s.f4.f1.length c7, .int .i64 s.f5.f0, .slice A9 s.f5.f1.length c9, .int .i64 s.f6, .string s.f7, .int .i64 s.f8.f0, .string s.f8.f1, .int .i64 s.f8.f2, .slice A15 s.f8.f3.length c15, .slice A16 s.f9.length c16, .slice A17 s.f10.length c17] 40)
       rw [hW] at w3
       have w4 := ym4 (Obj.cells #[.int .i64 s.f0, .int .i64 s.f1, .bool s.f2.f0, .int .i64 s.f2.f1, .bool s.f3.f0, .int .i64 s.f3.f1, .int .i64 s.f4.f0, .slice A7 s.f4.f1.length c7, .int .i64 s.f5.f0, .slice A9 s.f5.f1.length c9, .int .i64 s.f6, .string s.f7, .int .i64 s.f8.f0, .string s.f8.f1, .int .i64 s.f8.f2, .slice A15 s.f8.f3.length c15, .slice A16 s.f9.length c16, .slice A17 s.f10.length c17] 40)
       rw [hW] at w4
       have w5 := ym5 (Obj.cells #[.int .i64 s.f0, .int .i64 s.f1, .bool s.f2.f0, .int .i64 s.f2.f1, .bool s.f3.f0, .int .i64 s.f3.f1, .int .i64 s.f4.f0, .slice A7 s.f4.f1.length c7, .int .i64 s.f5.f0, .slice A9 s.f5.f1.length c9, .int .i64 s.f6, .string s.f7, .int .i64 s.f8.f0, .string s.f8.f1, .int .i64 s.f8.f2, .slice A15 s.f8.f3.length c15, .slice A16 s.f9.length c16, .slice A17 s.f10.length c17] 40)
       rw [hW] at w5
       have w6 := ym6 (Obj.cells #[.int .i64 s.f0, .int .i64 s.f1, .bool s.f2.f0, .int .i64 s.f2.f1, .bool s.f3.f0, .int .i64 s.f3.f1, .int .i64 s.f4.f0, .slice A7 s.f4.f1.length c7, .int .i64 s.f5.f0, .slice A9 s.f5.f1.length c9, .int .i64 s.f6, .string s.f7, .int .i64 s.f8.f0, .string s.f8.f1, .int .i64 s.f8.f2, .slice A15 s.f8.f3.length c15, .slice A16 s.f9.length c16, .slice A17 s.f10.length c17] 40)
       rw [hW] at w6
       have TW := T.out (Obj.cells #[.int .i64 s.f0, .int .i64 s.f1, .bool s.f2.f0, .int .i64 s.f2.f1, .bool s.f3.f0, .int .i64 s.f3.f1, .int .i64 s.f4.f0, .slice A7 s.f4.f1.length c7, .int .i64 s.f5.f0, .slice A9 s.f5.f1.length c9, .int .i64 s.f6, .string s.f7, .int .i64 s.f8.f0, .string s.f8.f1, .int .i64 s.f8.f2, .slice A15 s.f8.f3.length c15, .slice A16 s.f9.length c16, .slice A17 s.f10.length c17] 40)
       have BW := below_alloc (Below.refl wr.heap.size wr) (Obj.cells #[.int .i64 s.f0, .int .i64 s.f1, .bool s.f2.f0, .int .i64 s.f2.f1, .bool s.f3.f0, .int .i64 s.f3.f1, .int .i64 s.f4.f0, .slice A7 s.f4.f1.length c7, .int .i64 s.f5.f0, .slice A9 s.f5.f1.length c9, .int .i64 s.f6, .string s.f7, .int .i64 s.f8.f0, .string s.f8.f1, .int .i64 s.f8.f2, .slice A15 s.f8.f3.length c15, .slice A16 s.f9.length c16, .slice A17 s.f10.length c17] 40)
       rw [hW] at TW BW
       have HW := Aside0.mk hW
       have TWA := Aside0.mk TW
       clear hW TW hH
       cases hin : inB l f.f1 s with
       | false =>
        have HNO := Aside0.mk (ckN_no (chk_bl hk0 hlt HKF.out hj0 hlt2 (by rw [HKB.out]; exact bl_in hi0 hlt3 (by rw [HKI.out]; exact hin))))
        rw [hin] at TWA
        clear hin
        go_wp2_with (first | ((with_reducible refine gate_store (t := 40) (p := 9) rfl ?_); go_must (refine store_event (t := 40) (p := 9) (v := .tmp 44) (w1 := Wn) ?hg ?ho ?hn ?hr ?_; (case ho => rfl); (case hg => rfl); (case hn => rfl); (case hr => rw [← HW.out]; exact store40 wr _ rfl (by first | kernel_rfl | (simp [Value.oneCell'])) _ _ _ _ rfl rfl rfl); intro w7 hw7; subst hw7)) | ((with_reducible refine gate_dst (N := 46) rfl ?_); go_must (refine Kd.event_run rfl (load40 w7 wr.heap.size #[.int .i64 s.f0, .int .i64 s.f1, .bool s.f2.f0, .int .i64 s.f2.f1, .bool s.f3.f0, .int .i64 s.f3.f1, .int .i64 s.f4.f0, .slice A7 s.f4.f1.length c7, .int .i64 s.f5.f0, .slice A9 s.f5.f1.length c9, .int .i64 s.f6, .string s.f7, .int .i64 s.f8.f0, .string s.f8.f1, .int .i64 s.f8.f2, .slice A15 s.f8.f3.length c15, .slice A16 s.f9.length c16, .slice A17 s.f10.length c17] HHas.out rfl _ _ _ rfl rfl) ?_)) | (go_at_call 31; go_must (refine TWA.out.mono ?_); rintro e w8 ⟨rfl, hb⟩; have hB8 := below_then BW (BW.size) hb))
        go_ret
        exact ⟨by rw [HNO.out]; rfl, below_then HB.out HB.out.size (X7.out.below hB8).hb⟩
       | true =>
        have HP3' := Aside0.mk (step_pre hi0 HPRE3.out (show inB l f.f1 (rd_T40 B.f0 i) = true by rw [HKI.out]; exact hin))
        rw [hin] at TWA
        clear hin
        go_wp2_with (first | ((with_reducible refine gate_store (t := 40) (p := 9) rfl ?_); go_must (refine store_event (t := 40) (p := 9) (v := .tmp 44) (w1 := Wn) ?hg ?ho ?hn ?hr ?_; (case ho => rfl); (case hg => rfl); (case hn => rfl); (case hr => rw [← HW.out]; exact store40 wr _ rfl (by first | kernel_rfl | (simp [Value.oneCell'])) _ _ _ _ rfl rfl rfl); intro w7 hw7; subst hw7)) | ((with_reducible refine gate_dst (N := 46) rfl ?_); go_must (refine Kd.event_run rfl (load40 w7 wr.heap.size #[.int .i64 s.f0, .int .i64 s.f1, .bool s.f2.f0, .int .i64 s.f2.f1, .bool s.f3.f0, .int .i64 s.f3.f1, .int .i64 s.f4.f0, .slice A7 s.f4.f1.length c7, .int .i64 s.f5.f0, .slice A9 s.f5.f1.length c9, .int .i64 s.f6, .string s.f7, .int .i64 s.f8.f0, .string s.f8.f1, .int .i64 s.f8.f2, .slice A15 s.f8.f3.length c15, .slice A16 s.f9.length c16, .slice A17 s.f10.length c17] HHas.out rfl _ _ _ rfl rfl) ?_)) | (go_at_call 31; go_must (refine TWA.out.mono ?_); rintro e w8 ⟨rfl, hb⟩; have hB8 := below_then BW (BW.size) hb))
        exact ⟨⟨i + 1, rfl, by omega, by omega, ⟨X7.out.below hB8⟩, ⟨H7.out.belowS hB8⟩, ⟨below_then HM7.out HM7.out.size hB8⟩, HP3'⟩, by simp [intOf]; omega⟩
      ·have hd3 : decide (i < (B.f0.length : Int)) = false := decide_eq_false hlt3
       have c0' := H7.out.cell 0
       have c1' := H7.out.cell 1
       have c2' := H7.out.cell 2
       have c3' := H7.out.cell 3
       have c4' := H7.out.cell 4
       have c5' := H7.out.cell 5
       have c6' := H7.out.cell 6
       simp only [List.getElem?_toArray, List.getElem?_cons_zero, List.getElem?_cons_succ] at c0' c1' c2' c3' c4' c5' c6'
       have HALLI := Aside0.mk (all_40 (p := inB l f.f1) (xs := B.f0) fun i' h1 h2 => HPRE3.out i' h1 (by omega))
       cases hte : teB f B.f1 with
       | false =>
        have HTE := Aside0.mk hte
        have HNO := Aside0.mk (ckN_no (chk_bl hk0 hlt HKF.out hj0 hlt2 (by rw [HKB.out]; simp [blB, hte])))
        clear hte
        go_wp2_with (go_at_call 32; refine (term_said l f (some ad) c0 A1 c1 (some bd) c5 B.f1 D6 d6 _ (HFA.out.below X7.out.hb) (HBA.out.below HM7.out).g6 HNT.out).mono ?_; rintro e w8 ⟨rfl, hb⟩; have te := HTE.out)
        go_ret
        exact ⟨by rw [HNO.out]; rfl, below_then HB.out HB.out.size (X7.out.below hb).hb⟩
       | true =>
        have HTE := Aside0.mk hte
        have HP2' := Aside0.mk (step_pre (p := fun j => blB l f (rd_T45 f.f5 j)) hj0 HPRE2.out (by rw [HKB.out]; simp [blB, hte, HALLI.out]))
        clear hte
        go_wp2_with (go_at_call 32; refine (term_said l f (some ad) c0 A1 c1 (some bd) c5 B.f1 D6 d6 _ (HFA.out.below X7.out.hb) (HBA.out.below HM7.out).g6 HNT.out).mono ?_; rintro e w8 ⟨rfl, hb⟩; have te := HTE.out)
        exact ⟨⟨j + 1, rfl, by omega, by omega, ⟨X7.out.below hb⟩, HP2'⟩, by simp [intOf]; omega⟩
    ·have hd2 : decide (j < (f.f5.length : Int)) = false := decide_eq_false hlt2
     have HP1' := Aside0.mk (step_pre (p := fun k => fnB l k (rd_T48 l k)) hk0 HPRE.out (by
      have ha := all_45 (p := blB l f) (xs := f.f5) fun j' h1 h2 => HPRE2.out j' h1 (by omega)
      rw [HKF.out]; simp [fnB, HFK.out, HFR.out, ha]))
     go_wp2
     exact ⟨⟨k + 1, rfl, by omega, by omega, ⟨below_then HB.out HB.out.size X5.out.hb⟩, HP1'⟩, by simp [intOf]; omega⟩
  ·have hd : decide (k < (l.length : Int)) = false := decide_eq_false hlt
   have HY := Aside0.mk (ckN_yes (chk_all fun k' h1 h2 => HPRE.out k' h1 (by omega)))
   go_wp2
   go_ret
   exact ⟨by rw [HY.out]; rfl, HB.out⟩
end Go.Proofs.Ytpphpcmbpbppoaa.Form
end
