/- Steps toward the law Fuel, merged from several texts (some of them began as the kit's print). No condition. -/
import Derived.Test.YtpphpcmbpbppoaaZFuel12
section
namespace Go.Proofs.Ytpphpcmbpbppoaa.Form
open Go.RowKit Go.Proofs.YtpphpcmbpbppoaaW.PrintWords Go.Proofs.YtpphpcmbpbppoaaW.PrintLast Go.Proofs.YtpphpcmbpbppoaaW.PrintMore
open Go.Proofs.Ytpphpcmbpbppoaa.Calm
open Go.Proofs.Ytpphpcmbpbppoaa.Mach
open Go.Proofs.Ytpphpcmbpbppoaa.PMirFuel (S30 S57 S34 S37 S40 S43 S45 S48 k30 k57 k34 k37 k40 k43 k45 k48 rd_T30 rd_T57 rd_T34 rd_T37 rd_T40 rd_T43 rd_T45 rd_T48 at_T30 at_T57 at_T34 at_T40 at_T45 at_T48)
set_option linter.unusedVariables false
set_option linter.unusedSimpArgs false
set_option maxRecDepth 100000 in
set_option maxHeartbeats 8000000 in
theorem fcall_no1 (l : List S48) (f : S48) (A0 : Option Addr) (c0 : Nat) (A2 : Option Addr) (c2 : Nat) (A6 : Option Addr) (c6 : Nat) (s : S40) (A7 A9 A15 A16 A17 : Option Addr) (c7 c9 c15 c16 c17 : Nat) (w : World) (H : FA w l f A0 c0 A2 c2 A6 c6)
  (h16 : k30.C w A16 s.f9.length s.f9) (l16 : s.f9.length ≤ c16) (h17 : (Kd.int .i64).C w A17 s.f10.length s.f10) (l17 : s.f10.length ≤ c17) (hll : l.length < 4611686018427387904) (n9 : s.f9.length < 4611686018427387904) (n10 : s.f10.length < 4611686018427387904)
  (p0 : findP l s.f7 < 0) :
  Calls Try.prog 63 #[.agg #[.slice A0 l.length c0, .string f.f0, .slice A2 f.f1.length c2, .int .i64 f.f2, .int .i64 f.f3, .bool f.f4, .slice A6 f.f5.length c6], .agg #[.int .i64 s.f0, .int .i64 s.f1, .bool s.f2.f0, .int .i64 s.f2.f1, .bool s.f3.f0, .int .i64 s.f3.f1, .int .i64 s.f4.f0, .slice A7 s.f4.f1.length c7, .int .i64 s.f5.f0, .slice A9 s.f5.f1.length c9, .int .i64 s.f6, .string s.f7, .int .i64 s.f8.f0, .string s.f8.f1, .int .i64 s.f8.f2, .slice A15 s.f8.f3.length c15, .slice A16 s.f9.length c16, .slice A17 s.f10.length c17]] w fun e w' => e = .returned (.bool false) ∧ Below w.heap.size w w' := by
 have hu101 := Try.underlying101
 have hu40 := Try.underlying40
 have HF := Aside0.mk H
 have H16 := Aside0.mk h16
 have H17 := Aside0.mk h17
 generalize hk0 : findP l s.f7 = k0 at *
 have HK0 := Aside0.mk hk0
 clear H h16 h17 hk0
 go_enter Try.func63, Try.ntmps63
 have X := Aside0.mk (FB.new w #[.slice A0 l.length c0, .string f.f0, .slice A2 f.f1.length c2, .int .i64 f.f2, .int .i64 f.f3, .bool f.f4, .slice A6 f.f5.length c6] 101 #[.int .i64 s.f0, .int .i64 s.f1, .bool s.f2.f0, .int .i64 s.f2.f1, .bool s.f3.f0, .int .i64 s.f3.f1, .int .i64 s.f4.f0, .slice A7 s.f4.f1.length c7, .int .i64 s.f5.f0, .slice A9 s.f5.f1.length c9, .int .i64 s.f6, .string s.f7, .int .i64 s.f8.f0, .string s.f8.f1, .int .i64 s.f8.f2, .slice A15 s.f8.f3.length c15, .slice A16 s.f9.length c16, .slice A17 s.f10.length c17] 40)
 go_wp2_with (go_at_call 27; refine (PMirFuel.mir_find.calls (l.length + 1) A0 c0 l s.f7 k0 _ (Kd.C_below HF.out.r0 X.out.hb) HF.out.l0 (HK0.out ▸ find_f l s.f7 hll)).mono ?_; rintro e w3 ⟨rfl, hd⟩; have X3 := Aside0.mk (X.out.below hd.below); clear hd)
 have m0 := X3.out.b1.cell 0
 have m16 := X3.out.b2.cell 16
 have m17 := X3.out.b2.cell 17
 simp only [List.getElem?_toArray, List.getElem?_cons_zero, List.getElem?_cons_succ] at m0 m16 m17
 have d0 : decide (k0 < 0) = true := by simp; omega
 clear p0
 refine region_mix [.h 0, .h 1, .h 2, .h 3, .h 4, .h 5, .h 6, .h 7, .h 8, .h 9, .h 10, .h 11, .h 12, .h 13, .h 14, .h 15, .h 16, .h 17, .h 18, .h 19, .h 20, .h 21, .h 22, .h 23, .h 24, .h 25, .h 26, .h 27, .h 28, .h 29, .h 30, .h 31, .h 32, .h 33, .h 34, .h 35, .h 36, .h 37, .h 38, .h 39, .h 40, .h 41, .h 42, .h 43, .h 44, .h 45, .h 46, .h 47, .h 48, .h 49, .h 50] (fun w' => w'.cell? ⟨w.heap.size, 0, none⟩ = some (.slice A0 l.length c0) ∧ w'.cell? ⟨w.heap.size + 1, 16, none⟩ = some (.slice A16 s.f9.length c16) ∧ w'.cell? ⟨w.heap.size + 1, 17, none⟩ = some (.slice A17 s.f10.length c17) ∧ Aside0 (Below w3.drew.heap.size w3.drew w')) (by kernel_rfl) (by kernel_rfl) ⟨m0, m16, m17, ⟨Below.refl _ _⟩⟩
  (by intro c a a' w1 hd h; simp +zetaDelta only [Exit.then, Exit.inBlock, bodyPost] at h ⊢; simp at h) ?_
 repeat (first | (
  refine mix_h (by rfl) (by rfl) (by rfl) ?_
  apply Exists.intro
  apply And.intro
  ·rintro w' ⟨k0, k1, k2, kb⟩
   apply VR.mk
   go_simp
   with_reducible rfl
  simp only [List.setIfInBounds_toArray, List.set_cons_zero, List.set_cons_succ]) | (
  refine mix_skip (by rfl) (by rfl) (by rfl) ?_
  simp only [List.setIfInBounds_toArray, List.set_cons_zero, List.set_cons_succ]))
 refine mix_nil ?_
 have XX := Aside0.mk (X3.out)
 go_wp2
 go_ret
 exact ⟨rfl, (X3.out.below (below_drew (Below.refl _ _))).hb⟩
set_option maxRecDepth 100000 in
set_option maxHeartbeats 8000000 in
theorem fcall_no2 (l : List S48) (f : S48) (A0 : Option Addr) (c0 : Nat) (A2 : Option Addr) (c2 : Nat) (A6 : Option Addr) (c6 : Nat) (s : S40) (A7 A9 A15 A16 A17 : Option Addr) (c7 c9 c15 c16 c17 : Nat) (w : World) (H : FA w l f A0 c0 A2 c2 A6 c6)
  (h16 : k30.C w A16 s.f9.length s.f9) (l16 : s.f9.length ≤ c16) (h17 : (Kd.int .i64).C w A17 s.f10.length s.f10) (l17 : s.f10.length ≤ c17) (hll : l.length < 4611686018427387904) (n9 : s.f9.length < 4611686018427387904) (n10 : s.f10.length < 4611686018427387904)
  (p0 : ¬ findP l s.f7 < 0) (p1 : (rd_T48 l (findP l s.f7)).f2 < 0) :
  Calls Try.prog 63 #[.agg #[.slice A0 l.length c0, .string f.f0, .slice A2 f.f1.length c2, .int .i64 f.f2, .int .i64 f.f3, .bool f.f4, .slice A6 f.f5.length c6], .agg #[.int .i64 s.f0, .int .i64 s.f1, .bool s.f2.f0, .int .i64 s.f2.f1, .bool s.f3.f0, .int .i64 s.f3.f1, .int .i64 s.f4.f0, .slice A7 s.f4.f1.length c7, .int .i64 s.f5.f0, .slice A9 s.f5.f1.length c9, .int .i64 s.f6, .string s.f7, .int .i64 s.f8.f0, .string s.f8.f1, .int .i64 s.f8.f2, .slice A15 s.f8.f3.length c15, .slice A16 s.f9.length c16, .slice A17 s.f10.length c17]] w fun e w' => e = .returned (.bool false) ∧ Below w.heap.size w w' := by
 have hu101 := Try.underlying101
 have hu40 := Try.underlying40
 have HF := Aside0.mk H
 have H16 := Aside0.mk h16
 have H17 := Aside0.mk h17
 have hkb : findP l s.f7 < l.length := by rcases findP_bounds l s.f7 with h | h <;> omega
 generalize hk0 : findP l s.f7 = k0 at *
 have HK0 := Aside0.mk hk0
 obtain ⟨ad, B1, b1, B5, b5, e, r0, r1, r2, r3, r4, r5, rl1, rg1, rl5, rg5⟩ := at_T48 H.r0 k0 (by omega) hkb
 subst e
 generalize hg : rd_T48 l k0 = g at *
 have RG := Aside0.mk (And.intro rg1 (And.intro rl1 (And.intro rg5 rl5)))
 clear H h16 h17 hk0 hg rg1 rl1 rg5 rl5
 go_enter Try.func63, Try.ntmps63
 have X := Aside0.mk (FB.new w #[.slice (some ad) l.length c0, .string f.f0, .slice A2 f.f1.length c2, .int .i64 f.f2, .int .i64 f.f3, .bool f.f4, .slice A6 f.f5.length c6] 101 #[.int .i64 s.f0, .int .i64 s.f1, .bool s.f2.f0, .int .i64 s.f2.f1, .bool s.f3.f0, .int .i64 s.f3.f1, .int .i64 s.f4.f0, .slice A7 s.f4.f1.length c7, .int .i64 s.f5.f0, .slice A9 s.f5.f1.length c9, .int .i64 s.f6, .string s.f7, .int .i64 s.f8.f0, .string s.f8.f1, .int .i64 s.f8.f2, .slice A15 s.f8.f3.length c15, .slice A16 s.f9.length c16, .slice A17 s.f10.length c17] 40)
 go_wp2_with (go_at_call 27; refine (PMirFuel.mir_find.calls (l.length + 1) (some ad) c0 l s.f7 k0 _ (Kd.C_below HF.out.r0 X.out.hb) HF.out.l0 (HK0.out ▸ find_f l s.f7 hll)).mono ?_; rintro e w3 ⟨rfl, hd⟩; have X3 := Aside0.mk (X.out.below hd.below); clear hd)
 have m0 := X3.out.b1.cell 0
 have m16 := X3.out.b2.cell 16
 have m17 := X3.out.b2.cell 17
 simp only [List.getElem?_toArray, List.getElem?_cons_zero, List.getElem?_cons_succ] at m0 m16 m17
 have q0 := pwcb X3.out.hb r0
 have q1 := pwcb X3.out.hb r1
 have q2 := pwcb X3.out.hb r2
 have q3 := pwcb X3.out.hb r3
 have q4 := pwcb X3.out.hb r4
 have q5 := pwcb X3.out.hb r5
 have d0 : decide (k0 < 0) = false := by simp; omega
 have d1 : decide (g.f2 < 0) = true := by simp; omega
 have e0 : 0 ≤ k0 := by omega
 clear r0 r1 r2 r3 r4 r5 p0 p1
 refine region_mix [.h 0, .h 1, .h 2, .h 3, .h 4, .h 5, .h 6, .h 7, .h 8, .h 9, .h 10, .h 11, .h 12, .h 13, .h 14, .h 15, .h 16, .h 17, .h 18, .h 19, .h 20, .h 21, .h 22, .h 23, .h 24, .h 25, .h 26, .h 27, .h 28, .h 29, .h 30, .h 31, .h 32, .h 33, .h 34, .h 35, .h 36, .h 37, .h 38, .h 39, .h 40, .h 41, .h 42, .h 43, .h 44, .h 45, .h 46, .h 47, .h 48, .h 49, .h 50] (fun w' => w'.cell? ⟨w.heap.size, 0, none⟩ = some (.slice (some ad) l.length c0) ∧ w'.cell? ⟨w.heap.size + 1, 16, none⟩ = some (.slice A16 s.f9.length c16) ∧ w'.cell? ⟨w.heap.size + 1, 17, none⟩ = some (.slice A17 s.f10.length c17) ∧ w'.cell? (ad.add (k0.toNat * 6)) = some (.string g.f0) ∧ w'.cell? ⟨(ad.add (k0.toNat * 6)).block, (ad.add (k0.toNat * 6)).off + 1, none⟩ = some (.slice B1 g.f1.length b1) ∧ w'.cell? ⟨(ad.add (k0.toNat * 6)).block, (ad.add (k0.toNat * 6)).off + 2, none⟩ = some (.int .i64 g.f2) ∧ w'.cell? ⟨(ad.add (k0.toNat * 6)).block, (ad.add (k0.toNat * 6)).off + 3, none⟩ = some (.int .i64 g.f3) ∧ w'.cell? ⟨(ad.add (k0.toNat * 6)).block, (ad.add (k0.toNat * 6)).off + 4, none⟩ = some (.bool g.f4) ∧ w'.cell? ⟨(ad.add (k0.toNat * 6)).block, (ad.add (k0.toNat * 6)).off + 5, none⟩ = some (.slice B5 g.f5.length b5) ∧ Aside0 (Below w3.drew.heap.size w3.drew w')) (by kernel_rfl) (by kernel_rfl) ⟨m0, m16, m17, q0, q1, q2, q3, q4, q5, ⟨Below.refl _ _⟩⟩
  (by intro c a a' w1 hd h; simp +zetaDelta only [Exit.then, Exit.inBlock, bodyPost] at h ⊢; simp at h) ?_
 repeat (first | (
  refine mix_h (by rfl) (by rfl) (by rfl) ?_
  apply Exists.intro
  apply And.intro
  ·rintro w' ⟨k0, k1, k2, k3, k4, k5, k6, k7, k8, kb⟩
   apply VR.mk
   go_simp
   with_reducible rfl
  simp only [List.setIfInBounds_toArray, List.set_cons_zero, List.set_cons_succ]) | (
  refine mix_skip (by rfl) (by rfl) (by rfl) ?_
  simp only [List.setIfInBounds_toArray, List.set_cons_zero, List.set_cons_succ]))
 refine mix_nil ?_
 have XX := Aside0.mk (X3.out)
 go_wp2
 go_ret
 exact ⟨rfl, (X3.out.below (below_drew (Below.refl _ _))).hb⟩
set_option maxRecDepth 100000 in
set_option maxHeartbeats 8000000 in
theorem fcall_no3 (l : List S48) (f : S48) (A0 : Option Addr) (c0 : Nat) (A2 : Option Addr) (c2 : Nat) (A6 : Option Addr) (c6 : Nat) (s : S40) (A7 A9 A15 A16 A17 : Option Addr) (c7 c9 c15 c16 c17 : Nat) (w : World) (H : FA w l f A0 c0 A2 c2 A6 c6)
  (h16 : k30.C w A16 s.f9.length s.f9) (l16 : s.f9.length ≤ c16) (h17 : (Kd.int .i64).C w A17 s.f10.length s.f10) (l17 : s.f10.length ≤ c17) (hll : l.length < 4611686018427387904) (n9 : s.f9.length < 4611686018427387904) (n10 : s.f10.length < 4611686018427387904)
  (p0 : ¬ findP l s.f7 < 0) (p1 : ¬ (rd_T48 l (findP l s.f7)).f2 < 0) (p2 : (rd_T48 l (findP l s.f7)).f2 > (rd_T48 l (findP l s.f7)).f1.length) :
  Calls Try.prog 63 #[.agg #[.slice A0 l.length c0, .string f.f0, .slice A2 f.f1.length c2, .int .i64 f.f2, .int .i64 f.f3, .bool f.f4, .slice A6 f.f5.length c6], .agg #[.int .i64 s.f0, .int .i64 s.f1, .bool s.f2.f0, .int .i64 s.f2.f1, .bool s.f3.f0, .int .i64 s.f3.f1, .int .i64 s.f4.f0, .slice A7 s.f4.f1.length c7, .int .i64 s.f5.f0, .slice A9 s.f5.f1.length c9, .int .i64 s.f6, .string s.f7, .int .i64 s.f8.f0, .string s.f8.f1, .int .i64 s.f8.f2, .slice A15 s.f8.f3.length c15, .slice A16 s.f9.length c16, .slice A17 s.f10.length c17]] w fun e w' => e = .returned (.bool false) ∧ Below w.heap.size w w' := by
 have hu101 := Try.underlying101
 have hu40 := Try.underlying40
 have HF := Aside0.mk H
 have H16 := Aside0.mk h16
 have H17 := Aside0.mk h17
 have hkb : findP l s.f7 < l.length := by rcases findP_bounds l s.f7 with h | h <;> omega
 generalize hk0 : findP l s.f7 = k0 at *
 have HK0 := Aside0.mk hk0
 obtain ⟨ad, B1, b1, B5, b5, e, r0, r1, r2, r3, r4, r5, rl1, rg1, rl5, rg5⟩ := at_T48 H.r0 k0 (by omega) hkb
 subst e
 generalize hg : rd_T48 l k0 = g at *
 have RG := Aside0.mk (And.intro rg1 (And.intro rl1 (And.intro rg5 rl5)))
 clear H h16 h17 hk0 hg rg1 rl1 rg5 rl5
 go_enter Try.func63, Try.ntmps63
 have X := Aside0.mk (FB.new w #[.slice (some ad) l.length c0, .string f.f0, .slice A2 f.f1.length c2, .int .i64 f.f2, .int .i64 f.f3, .bool f.f4, .slice A6 f.f5.length c6] 101 #[.int .i64 s.f0, .int .i64 s.f1, .bool s.f2.f0, .int .i64 s.f2.f1, .bool s.f3.f0, .int .i64 s.f3.f1, .int .i64 s.f4.f0, .slice A7 s.f4.f1.length c7, .int .i64 s.f5.f0, .slice A9 s.f5.f1.length c9, .int .i64 s.f6, .string s.f7, .int .i64 s.f8.f0, .string s.f8.f1, .int .i64 s.f8.f2, .slice A15 s.f8.f3.length c15, .slice A16 s.f9.length c16, .slice A17 s.f10.length c17] 40)
 go_wp2_with (go_at_call 27; refine (PMirFuel.mir_find.calls (l.length + 1) (some ad) c0 l s.f7 k0 _ (Kd.C_below HF.out.r0 X.out.hb) HF.out.l0 (HK0.out ▸ find_f l s.f7 hll)).mono ?_; rintro e w3 ⟨rfl, hd⟩; have X3 := Aside0.mk (X.out.below hd.below); clear hd)
 have m0 := X3.out.b1.cell 0
 have m16 := X3.out.b2.cell 16
 have m17 := X3.out.b2.cell 17
 simp only [List.getElem?_toArray, List.getElem?_cons_zero, List.getElem?_cons_succ] at m0 m16 m17
 have q0 := pwcb X3.out.hb r0
 have q1 := pwcb X3.out.hb r1
 have q2 := pwcb X3.out.hb r2
 have q3 := pwcb X3.out.hb r3
 have q4 := pwcb X3.out.hb r4
 have q5 := pwcb X3.out.hb r5
 have d0 : decide (k0 < 0) = false := by simp; omega
 have d1 : decide (g.f2 < 0) = false := by simp; omega
 have d2 : decide (g.f2 > (g.f1.length : Int)) = true := by simp; omega
 have e0 : 0 ≤ k0 := by omega
 clear r0 r1 r2 r3 r4 r5 p0 p1 p2
 refine region_mix [.h 0, .h 1, .h 2, .h 3, .h 4, .h 5, .h 6, .h 7, .h 8, .h 9, .h 10, .h 11, .h 12, .h 13, .h 14, .h 15, .h 16, .h 17, .h 18, .h 19, .h 20, .h 21, .h 22, .h 23, .h 24, .h 25, .h 26, .h 27, .h 28, .h 29, .h 30, .h 31, .h 32, .h 33, .h 34, .h 35, .h 36, .h 37, .h 38, .h 39, .h 40, .h 41, .h 42, .h 43, .h 44, .h 45, .h 46, .h 47, .h 48, .h 49, .h 50] (fun w' => w'.cell? ⟨w.heap.size, 0, none⟩ = some (.slice (some ad) l.length c0) ∧ w'.cell? ⟨w.heap.size + 1, 16, none⟩ = some (.slice A16 s.f9.length c16) ∧ w'.cell? ⟨w.heap.size + 1, 17, none⟩ = some (.slice A17 s.f10.length c17) ∧ w'.cell? (ad.add (k0.toNat * 6)) = some (.string g.f0) ∧ w'.cell? ⟨(ad.add (k0.toNat * 6)).block, (ad.add (k0.toNat * 6)).off + 1, none⟩ = some (.slice B1 g.f1.length b1) ∧ w'.cell? ⟨(ad.add (k0.toNat * 6)).block, (ad.add (k0.toNat * 6)).off + 2, none⟩ = some (.int .i64 g.f2) ∧ w'.cell? ⟨(ad.add (k0.toNat * 6)).block, (ad.add (k0.toNat * 6)).off + 3, none⟩ = some (.int .i64 g.f3) ∧ w'.cell? ⟨(ad.add (k0.toNat * 6)).block, (ad.add (k0.toNat * 6)).off + 4, none⟩ = some (.bool g.f4) ∧ w'.cell? ⟨(ad.add (k0.toNat * 6)).block, (ad.add (k0.toNat * 6)).off + 5, none⟩ = some (.slice B5 g.f5.length b5) ∧ Aside0 (Below w3.drew.heap.size w3.drew w')) (by kernel_rfl) (by kernel_rfl) ⟨m0, m16, m17, q0, q1, q2, q3, q4, q5, ⟨Below.refl _ _⟩⟩
  (by intro c a a' w1 hd h; simp +zetaDelta only [Exit.then, Exit.inBlock, bodyPost] at h ⊢; simp at h) ?_
 repeat (first | (
  refine mix_h (by rfl) (by rfl) (by rfl) ?_
  apply Exists.intro
  apply And.intro
  ·rintro w' ⟨k0, k1, k2, k3, k4, k5, k6, k7, k8, kb⟩
   apply VR.mk
   go_simp
   with_reducible rfl
  simp only [List.setIfInBounds_toArray, List.set_cons_zero, List.set_cons_succ]) | (
  refine mix_skip (by rfl) (by rfl) (by rfl) ?_
  simp only [List.setIfInBounds_toArray, List.set_cons_zero, List.set_cons_succ]))
 refine mix_nil ?_
 have XX := Aside0.mk (X3.out)
 go_wp2
 go_ret
 exact ⟨rfl, (X3.out.below (below_drew (Below.refl _ _))).hb⟩
set_option maxRecDepth 100000 in
set_option maxHeartbeats 8000000 in
theorem fcall_no4 (l : List S48) (f : S48) (A0 : Option Addr) (c0 : Nat) (A2 : Option Addr) (c2 : Nat) (A6 : Option Addr) (c6 : Nat) (s : S40) (A7 A9 A15 A16 A17 : Option Addr) (c7 c9 c15 c16 c17 : Nat) (w : World) (H : FA w l f A0 c0 A2 c2 A6 c6)
  (h16 : k30.C w A16 s.f9.length s.f9) (l16 : s.f9.length ≤ c16) (h17 : (Kd.int .i64).C w A17 s.f10.length s.f10) (l17 : s.f10.length ≤ c17) (hll : l.length < 4611686018427387904) (n9 : s.f9.length < 4611686018427387904) (n10 : s.f10.length < 4611686018427387904)
  (p0 : ¬ findP l s.f7 < 0) (p1 : ¬ (rd_T48 l (findP l s.f7)).f2 < 0) (p2 : ¬ (rd_T48 l (findP l s.f7)).f2 > (rd_T48 l (findP l s.f7)).f1.length) (hlk : (rd_T48 l (findP l s.f7)).f1.length < 4611686018427387904) (p3 : (s.f9.length : Int) ≠ widthP (rd_T48 l (findP l s.f7))) :
  Calls Try.prog 63 #[.agg #[.slice A0 l.length c0, .string f.f0, .slice A2 f.f1.length c2, .int .i64 f.f2, .int .i64 f.f3, .bool f.f4, .slice A6 f.f5.length c6], .agg #[.int .i64 s.f0, .int .i64 s.f1, .bool s.f2.f0, .int .i64 s.f2.f1, .bool s.f3.f0, .int .i64 s.f3.f1, .int .i64 s.f4.f0, .slice A7 s.f4.f1.length c7, .int .i64 s.f5.f0, .slice A9 s.f5.f1.length c9, .int .i64 s.f6, .string s.f7, .int .i64 s.f8.f0, .string s.f8.f1, .int .i64 s.f8.f2, .slice A15 s.f8.f3.length c15, .slice A16 s.f9.length c16, .slice A17 s.f10.length c17]] w fun e w' => e = .returned (.bool false) ∧ Below w.heap.size w w' := by
 have hu101 := Try.underlying101
 have hu40 := Try.underlying40
 have HF := Aside0.mk H
 have H16 := Aside0.mk h16
 have H17 := Aside0.mk h17
 have hkb : findP l s.f7 < l.length := by rcases findP_bounds l s.f7 with h | h <;> omega
 generalize hk0 : findP l s.f7 = k0 at *
 have HK0 := Aside0.mk hk0
 obtain ⟨ad, B1, b1, B5, b5, e, r0, r1, r2, r3, r4, r5, rl1, rg1, rl5, rg5⟩ := at_T48 H.r0 k0 (by omega) hkb
 subst e
 generalize hg : rd_T48 l k0 = g at *
 have RG := Aside0.mk (And.intro rg1 (And.intro rl1 (And.intro rg5 rl5)))
 clear H h16 h17 hk0 hg rg1 rl1 rg5 rl5
 go_enter Try.func63, Try.ntmps63
 have X := Aside0.mk (FB.new w #[.slice (some ad) l.length c0, .string f.f0, .slice A2 f.f1.length c2, .int .i64 f.f2, .int .i64 f.f3, .bool f.f4, .slice A6 f.f5.length c6] 101 #[.int .i64 s.f0, .int .i64 s.f1, .bool s.f2.f0, .int .i64 s.f2.f1, .bool s.f3.f0, .int .i64 s.f3.f1, .int .i64 s.f4.f0, .slice A7 s.f4.f1.length c7, .int .i64 s.f5.f0, .slice A9 s.f5.f1.length c9, .int .i64 s.f6, .string s.f7, .int .i64 s.f8.f0, .string s.f8.f1, .int .i64 s.f8.f2, .slice A15 s.f8.f3.length c15, .slice A16 s.f9.length c16, .slice A17 s.f10.length c17] 40)
 go_wp2_with (go_at_call 27; refine (PMirFuel.mir_find.calls (l.length + 1) (some ad) c0 l s.f7 k0 _ (Kd.C_below HF.out.r0 X.out.hb) HF.out.l0 (HK0.out ▸ find_f l s.f7 hll)).mono ?_; rintro e w3 ⟨rfl, hd⟩; have X3 := Aside0.mk (X.out.below hd.below); clear hd)
 have m0 := X3.out.b1.cell 0
 have m16 := X3.out.b2.cell 16
 have m17 := X3.out.b2.cell 17
 simp only [List.getElem?_toArray, List.getElem?_cons_zero, List.getElem?_cons_succ] at m0 m16 m17
 have q0 := pwcb X3.out.hb r0
 have q1 := pwcb X3.out.hb r1
 have q2 := pwcb X3.out.hb r2
 have q3 := pwcb X3.out.hb r3
 have q4 := pwcb X3.out.hb r4
 have q5 := pwcb X3.out.hb r5
 have d0 : decide (k0 < 0) = false := by simp; omega
 have d1 : decide (g.f2 < 0) = false := by simp; omega
 have d2 : decide (g.f2 > (g.f1.length : Int)) = false := by simp; omega
 have d3 : ((s.f9.length : Int) != widthP g) = true := by simp [p3]
 have e0 : 0 ≤ k0 := by omega
 have HP := Aside0.mk (And.intro p1 (And.intro p2 p3))
 clear r0 r1 r2 r3 r4 r5 p0 p1 p2 p3
 refine region_mix [.h 0, .h 1, .h 2, .h 3, .h 4, .h 5, .h 6, .h 7, .h 8, .h 9, .h 10, .h 11, .h 12, .h 13, .h 14, .h 15, .h 16, .h 17, .h 18, .h 19, .h 20, .h 21, .h 22, .h 23, .h 24, .h 25, .h 26, .h 27, .h 28, .h 29, .h 30, .h 31, .h 32, .h 33, .h 34, .h 35, .c 36, .h 37, .h 38, .h 39, .h 40, .h 41, .h 42, .h 43, .h 44, .h 45, .h 46, .h 47, .h 48, .h 49, .h 50] (fun w' => w'.cell? ⟨w.heap.size, 0, none⟩ = some (.slice (some ad) l.length c0) ∧ w'.cell? ⟨w.heap.size + 1, 16, none⟩ = some (.slice A16 s.f9.length c16) ∧ w'.cell? ⟨w.heap.size + 1, 17, none⟩ = some (.slice A17 s.f10.length c17) ∧ w'.cell? (ad.add (k0.toNat * 6)) = some (.string g.f0) ∧ w'.cell? ⟨(ad.add (k0.toNat * 6)).block, (ad.add (k0.toNat * 6)).off + 1, none⟩ = some (.slice B1 g.f1.length b1) ∧ w'.cell? ⟨(ad.add (k0.toNat * 6)).block, (ad.add (k0.toNat * 6)).off + 2, none⟩ = some (.int .i64 g.f2) ∧ w'.cell? ⟨(ad.add (k0.toNat * 6)).block, (ad.add (k0.toNat * 6)).off + 3, none⟩ = some (.int .i64 g.f3) ∧ w'.cell? ⟨(ad.add (k0.toNat * 6)).block, (ad.add (k0.toNat * 6)).off + 4, none⟩ = some (.bool g.f4) ∧ w'.cell? ⟨(ad.add (k0.toNat * 6)).block, (ad.add (k0.toNat * 6)).off + 5, none⟩ = some (.slice B5 g.f5.length b5) ∧ Aside0 (Below w3.drew.heap.size w3.drew w')) (by kernel_rfl) (by kernel_rfl) ⟨m0, m16, m17, q0, q1, q2, q3, q4, q5, ⟨Below.refl _ _⟩⟩
  (by intro c a a' w1 hd h; simp +zetaDelta only [Exit.then, Exit.inBlock, bodyPost] at h ⊢; simp at h) ?_
 repeat (first | (
  refine mix_h (by rfl) (by rfl) (by rfl) ?_
  apply Exists.intro
  apply And.intro
  ·rintro w' ⟨k0, k1, k2, k3, k4, k5, k6, k7, k8, kb⟩
   apply VR.mk
   go_simp
   with_reducible rfl
  simp only [List.setIfInBounds_toArray, List.set_cons_zero, List.set_cons_succ]) | (
  refine mix_skip (by rfl) (by rfl) (by rfl) ?_
  simp only [List.setIfInBounds_toArray, List.set_cons_zero, List.set_cons_succ]))
 refine mix_call (by rfl) (by rfl) (by rfl) (ER.go (by go_simp; with_reducible exact ⟨rfl, rfl⟩)) ?_
 refine (PMirFuel.mir_width.calls (g.f1.length + 1) g.f0 B1 b1 g.f1 g.f2 g.f3 g.f4 B5 b5 g.f5 (widthP g) w3.drew (Kd.C_below RG.out.1 (X3.out.below (below_drew (Below.refl _ w3))).hb) RG.out.2.1 (Kd.C_below RG.out.2.2.1 (X3.out.below (below_drew (Below.refl _ w3))).hb) RG.out.2.2.2 (width_f g hlk (by have := HP.out.1; omega) (by have := HP.out.2.1; omega) _ (by omega))).mono ?_
 rintro e w4 ⟨rfl, hb⟩
 have hb' : Below w3.heap.size w3 w4 := below_then (below_drew (Below.refl _ w3)) (Nat.le_refl _) hb
 refine .inl ⟨_, rfl, ⟨pwcb hb' m0, pwcb hb' m16, pwcb hb' m17, pwcb hb' q0, pwcb hb' q1, pwcb hb' q2, pwcb hb' q3, pwcb hb' q4, pwcb hb' q5, ⟨hb⟩⟩, ?_⟩
 have X4 := Aside0.mk (X3.out.below hb')
 clear hb hb'
 simp only [List.setIfInBounds_toArray, List.set_cons_zero, List.set_cons_succ]
 repeat (first | (
  refine mix_h (by rfl) (by rfl) (by rfl) ?_
  apply Exists.intro
  apply And.intro
  ·rintro w' ⟨k0, k1, k2, k3, k4, k5, k6, k7, k8, kb⟩
   apply VR.mk
   go_simp
   with_reducible rfl
  simp only [List.setIfInBounds_toArray, List.set_cons_zero, List.set_cons_succ]) | (
  refine mix_skip (by rfl) (by rfl) (by rfl) ?_
  simp only [List.setIfInBounds_toArray, List.set_cons_zero, List.set_cons_succ]))
 refine mix_nil ?_
 have XX := Aside0.mk (X4.out)
 go_wp2
 go_ret
 exact ⟨rfl, X4.out.hb⟩
set_option maxRecDepth 100000 in
set_option maxHeartbeats 8000000 in
theorem fcall_no5 (l : List S48) (f : S48) (A0 : Option Addr) (c0 : Nat) (A2 : Option Addr) (c2 : Nat) (A6 : Option Addr) (c6 : Nat) (s : S40) (A7 A9 A15 A16 A17 : Option Addr) (c7 c9 c15 c16 c17 : Nat) (w : World) (H : FA w l f A0 c0 A2 c2 A6 c6)
  (h16 : k30.C w A16 s.f9.length s.f9) (l16 : s.f9.length ≤ c16) (h17 : (Kd.int .i64).C w A17 s.f10.length s.f10) (l17 : s.f10.length ≤ c17) (hll : l.length < 4611686018427387904) (n9 : s.f9.length < 4611686018427387904) (n10 : s.f10.length < 4611686018427387904)
  (p0 : ¬ findP l s.f7 < 0) (p1 : ¬ (rd_T48 l (findP l s.f7)).f2 < 0) (p2 : ¬ (rd_T48 l (findP l s.f7)).f2 > (rd_T48 l (findP l s.f7)).f1.length) (hlk : (rd_T48 l (findP l s.f7)).f1.length < 4611686018427387904) (p3 : (s.f9.length : Int) = widthP (rd_T48 l (findP l s.f7))) (p4 : (s.f10.length : Int) ≠ (rd_T48 l (findP l s.f7)).f3) :
  Calls Try.prog 63 #[.agg #[.slice A0 l.length c0, .string f.f0, .slice A2 f.f1.length c2, .int .i64 f.f2, .int .i64 f.f3, .bool f.f4, .slice A6 f.f5.length c6], .agg #[.int .i64 s.f0, .int .i64 s.f1, .bool s.f2.f0, .int .i64 s.f2.f1, .bool s.f3.f0, .int .i64 s.f3.f1, .int .i64 s.f4.f0, .slice A7 s.f4.f1.length c7, .int .i64 s.f5.f0, .slice A9 s.f5.f1.length c9, .int .i64 s.f6, .string s.f7, .int .i64 s.f8.f0, .string s.f8.f1, .int .i64 s.f8.f2, .slice A15 s.f8.f3.length c15, .slice A16 s.f9.length c16, .slice A17 s.f10.length c17]] w fun e w' => e = .returned (.bool false) ∧ Below w.heap.size w w' := by
 have hu101 := Try.underlying101
 have hu40 := Try.underlying40
 have HF := Aside0.mk H
 have H16 := Aside0.mk h16
 have H17 := Aside0.mk h17
 have hkb : findP l s.f7 < l.length := by rcases findP_bounds l s.f7 with h | h <;> omega
 generalize hk0 : findP l s.f7 = k0 at *
 have HK0 := Aside0.mk hk0
 obtain ⟨ad, B1, b1, B5, b5, e, r0, r1, r2, r3, r4, r5, rl1, rg1, rl5, rg5⟩ := at_T48 H.r0 k0 (by omega) hkb
 subst e
 generalize hg : rd_T48 l k0 = g at *
 have RG := Aside0.mk (And.intro rg1 (And.intro rl1 (And.intro rg5 rl5)))
 clear H h16 h17 hk0 hg rg1 rl1 rg5 rl5
 go_enter Try.func63, Try.ntmps63
 have X := Aside0.mk (FB.new w #[.slice (some ad) l.length c0, .string f.f0, .slice A2 f.f1.length c2, .int .i64 f.f2, .int .i64 f.f3, .bool f.f4, .slice A6 f.f5.length c6] 101 #[.int .i64 s.f0, .int .i64 s.f1, .bool s.f2.f0, .int .i64 s.f2.f1, .bool s.f3.f0, .int .i64 s.f3.f1, .int .i64 s.f4.f0, .slice A7 s.f4.f1.length c7, .int .i64 s.f5.f0, .slice A9 s.f5.f1.length c9, .int .i64 s.f6, .string s.f7, .int .i64 s.f8.f0, .string s.f8.f1, .int .i64 s.f8.f2, .slice A15 s.f8.f3.length c15, .slice A16 s.f9.length c16, .slice A17 s.f10.length c17] 40)
 go_wp2_with (go_at_call 27; refine (PMirFuel.mir_find.calls (l.length + 1) (some ad) c0 l s.f7 k0 _ (Kd.C_below HF.out.r0 X.out.hb) HF.out.l0 (HK0.out ▸ find_f l s.f7 hll)).mono ?_; rintro e w3 ⟨rfl, hd⟩; have X3 := Aside0.mk (X.out.below hd.below); clear hd)
 have m0 := X3.out.b1.cell 0
 have m16 := X3.out.b2.cell 16
 have m17 := X3.out.b2.cell 17
 simp only [List.getElem?_toArray, List.getElem?_cons_zero, List.getElem?_cons_succ] at m0 m16 m17
 have q0 := pwcb X3.out.hb r0
 have q1 := pwcb X3.out.hb r1
 have q2 := pwcb X3.out.hb r2
 have q3 := pwcb X3.out.hb r3
 have q4 := pwcb X3.out.hb r4
 have q5 := pwcb X3.out.hb r5
 have d0 : decide (k0 < 0) = false := by simp; omega
 have d1 : decide (g.f2 < 0) = false := by simp; omega
 have d2 : decide (g.f2 > (g.f1.length : Int)) = false := by simp; omega
 have d3 : ((s.f9.length : Int) != widthP g) = false := by simp [p3]
 have d4 : ((s.f10.length : Int) != g.f3) = true := by simp [p4]
 have e0 : 0 ≤ k0 := by omega
 have HP := Aside0.mk (And.intro p1 (And.intro p2 (And.intro p3 p4)))
 clear r0 r1 r2 r3 r4 r5 p0 p1 p2 p3 p4
 refine region_mix [.h 0, .h 1, .h 2, .h 3, .h 4, .h 5, .h 6, .h 7, .h 8, .h 9, .h 10, .h 11, .h 12, .h 13, .h 14, .h 15, .h 16, .h 17, .h 18, .h 19, .h 20, .h 21, .h 22, .h 23, .h 24, .h 25, .h 26, .h 27, .h 28, .h 29, .h 30, .h 31, .h 32, .h 33, .h 34, .h 35, .c 36, .h 37, .h 38, .h 39, .h 40, .h 41, .h 42, .h 43, .h 44, .h 45, .h 46, .h 47, .h 48, .h 49, .h 50] (fun w' => w'.cell? ⟨w.heap.size, 0, none⟩ = some (.slice (some ad) l.length c0) ∧ w'.cell? ⟨w.heap.size + 1, 16, none⟩ = some (.slice A16 s.f9.length c16) ∧ w'.cell? ⟨w.heap.size + 1, 17, none⟩ = some (.slice A17 s.f10.length c17) ∧ w'.cell? (ad.add (k0.toNat * 6)) = some (.string g.f0) ∧ w'.cell? ⟨(ad.add (k0.toNat * 6)).block, (ad.add (k0.toNat * 6)).off + 1, none⟩ = some (.slice B1 g.f1.length b1) ∧ w'.cell? ⟨(ad.add (k0.toNat * 6)).block, (ad.add (k0.toNat * 6)).off + 2, none⟩ = some (.int .i64 g.f2) ∧ w'.cell? ⟨(ad.add (k0.toNat * 6)).block, (ad.add (k0.toNat * 6)).off + 3, none⟩ = some (.int .i64 g.f3) ∧ w'.cell? ⟨(ad.add (k0.toNat * 6)).block, (ad.add (k0.toNat * 6)).off + 4, none⟩ = some (.bool g.f4) ∧ w'.cell? ⟨(ad.add (k0.toNat * 6)).block, (ad.add (k0.toNat * 6)).off + 5, none⟩ = some (.slice B5 g.f5.length b5) ∧ Aside0 (Below w3.drew.heap.size w3.drew w')) (by kernel_rfl) (by kernel_rfl) ⟨m0, m16, m17, q0, q1, q2, q3, q4, q5, ⟨Below.refl _ _⟩⟩
  (by intro c a a' w1 hd h; simp +zetaDelta only [Exit.then, Exit.inBlock, bodyPost] at h ⊢; simp at h) ?_
 repeat (first | (
  refine mix_h (by rfl) (by rfl) (by rfl) ?_
  apply Exists.intro
  apply And.intro
  ·rintro w' ⟨k0, k1, k2, k3, k4, k5, k6, k7, k8, kb⟩
   apply VR.mk
   go_simp
   with_reducible rfl
  simp only [List.setIfInBounds_toArray, List.set_cons_zero, List.set_cons_succ]) | (
  refine mix_skip (by rfl) (by rfl) (by rfl) ?_
  simp only [List.setIfInBounds_toArray, List.set_cons_zero, List.set_cons_succ]))
 refine mix_call (by rfl) (by rfl) (by rfl) (ER.go (by go_simp; with_reducible exact ⟨rfl, rfl⟩)) ?_
 refine (PMirFuel.mir_width.calls (g.f1.length + 1) g.f0 B1 b1 g.f1 g.f2 g.f3 g.f4 B5 b5 g.f5 (widthP g) w3.drew (Kd.C_below RG.out.1 (X3.out.below (below_drew (Below.refl _ w3))).hb) RG.out.2.1 (Kd.C_below RG.out.2.2.1 (X3.out.below (below_drew (Below.refl _ w3))).hb) RG.out.2.2.2 (width_f g hlk (by have := HP.out.1; omega) (by have := HP.out.2.1; omega) _ (by omega))).mono ?_
 rintro e w4 ⟨rfl, hb⟩
 have hb' : Below w3.heap.size w3 w4 := below_then (below_drew (Below.refl _ w3)) (Nat.le_refl _) hb
 refine .inl ⟨_, rfl, ⟨pwcb hb' m0, pwcb hb' m16, pwcb hb' m17, pwcb hb' q0, pwcb hb' q1, pwcb hb' q2, pwcb hb' q3, pwcb hb' q4, pwcb hb' q5, ⟨hb⟩⟩, ?_⟩
 have X4 := Aside0.mk (X3.out.below hb')
 clear hb hb'
 simp only [List.setIfInBounds_toArray, List.set_cons_zero, List.set_cons_succ]
 repeat (first | (
  refine mix_h (by rfl) (by rfl) (by rfl) ?_
  apply Exists.intro
  apply And.intro
  ·rintro w' ⟨k0, k1, k2, k3, k4, k5, k6, k7, k8, kb⟩
   apply VR.mk
   go_simp
   with_reducible rfl
  simp only [List.setIfInBounds_toArray, List.set_cons_zero, List.set_cons_succ]) | (
  refine mix_skip (by rfl) (by rfl) (by rfl) ?_
  simp only [List.setIfInBounds_toArray, List.set_cons_zero, List.set_cons_succ]))
 refine mix_nil ?_
 have XX := Aside0.mk (X4.out)
 go_wp2
 go_ret
 exact ⟨rfl, X4.out.hb⟩
theorem ca_said (l : List S48) (f : S48) (A0 : Option Addr) (c0 : Nat) (A2 : Option Addr) (c2 : Nat) (A6 : Option Addr) (c6 : Nat) (s : S40) (A7 A9 A15 A16 A17 : Option Addr) (c7 c9 c15 c16 c17 : Nat) (w : World) (H : FA w l f A0 c0 A2 c2 A6 c6)
  (h16 : k30.C w A16 s.f9.length s.f9) (l16 : s.f9.length ≤ c16) (h17 : (Kd.int .i64).C w A17 s.f10.length s.f10) (l17 : s.f10.length ≤ c17) (hll : l.length < 4611686018427387904) (n9 : s.f9.length < 4611686018427387904) (n10 : s.f10.length < 4611686018427387904)
 (hlk : (rd_T48 l (findP l s.f7)).f1.length < 4611686018427387904) :
   Calls Try.prog 63 #[.agg #[.slice A0 l.length c0, .string f.f0, .slice A2 f.f1.length c2, .int .i64 f.f2, .int .i64 f.f3, .bool f.f4, .slice A6 f.f5.length c6], .agg #[.int .i64 s.f0, .int .i64 s.f1, .bool s.f2.f0, .int .i64 s.f2.f1, .bool s.f3.f0, .int .i64 s.f3.f1, .int .i64 s.f4.f0, .slice A7 s.f4.f1.length c7, .int .i64 s.f5.f0, .slice A9 s.f5.f1.length c9, .int .i64 s.f6, .string s.f7, .int .i64 s.f8.f0, .string s.f8.f1, .int .i64 s.f8.f2, .slice A15 s.f8.f3.length c15, .slice A16 s.f9.length c16, .slice A17 s.f10.length c17]] w fun e w' => e = .returned (.bool (caB l f.f1 s)) ∧ Below w.heap.size w w' := by
  unfold caB
  split
  ·rename_i p0; exact fcall_no1 l f A0 c0 A2 c2 A6 c6 s A7 A9 A15 A16 A17 c7 c9 c15 c16 c17 w H h16 l16 h17 l17 hll n9 n10 p0
  ·rename_i p0
   split
   ·rename_i p1; exact fcall_no2 l f A0 c0 A2 c2 A6 c6 s A7 A9 A15 A16 A17 c7 c9 c15 c16 c17 w H h16 l16 h17 l17 hll n9 n10 p0 p1
   ·rename_i p1
    split
    ·rename_i p2; exact fcall_no3 l f A0 c0 A2 c2 A6 c6 s A7 A9 A15 A16 A17 c7 c9 c15 c16 c17 w H h16 l16 h17 l17 hll n9 n10 p0 p1 p2
    ·rename_i p2
     split
     ·rename_i p3; exact fcall_no4 l f A0 c0 A2 c2 A6 c6 s A7 A9 A15 A16 A17 c7 c9 c15 c16 c17 w H h16 l16 h17 l17 hll n9 n10 p0 p1 p2 hlk p3
     ·rename_i p3
      split
      ·rename_i p4; exact fcall_no5 l f A0 c0 A2 c2 A6 c6 s A7 A9 A15 A16 A17 c7 c9 c15 c16 c17 w H h16 l16 h17 l17 hll n9 n10 p0 p1 p2 hlk (Decidable.not_not.1 p3) p4
      ·rename_i p4; exact fcall l f A0 c0 A2 c2 A6 c6 s A7 A9 A15 A16 A17 c7 c9 c15 c16 c17 w H h16 l16 h17 l17 hll n9 n10 p0 p1 p2 hlk (Decidable.not_not.1 p3) (Decidable.not_not.1 p4)
end Go.Proofs.Ytpphpcmbpbppoaa.Form
end
