/- Steps toward the law Fuel, merged from several texts (some of them began as the kit's print). No condition. -/
import Derived.Test.YtpphpcmbpbppoaaZFuel13
section
namespace Go.Proofs.Ytpphpcmbpbppoaa.Form
open Go.RowKit Go.Proofs.YtpphpcmbpbppoaaW.PrintWords Go.Proofs.YtpphpcmbpbppoaaW.PrintLast Go.Proofs.YtpphpcmbpbppoaaW.PrintMore
open Go.Proofs.Ytpphpcmbpbppoaa.Calm
open Go.Proofs.Ytpphpcmbpbppoaa.Mach
open Go.Proofs.Ytpphpcmbpbppoaa.PMirFuel (S30 S57 S34 S37 S40 S43 S45 S48 k30 k57 k34 k37 k40 k43 k45 k48 rd_T30 rd_T57 rd_T34 rd_T37 rd_T40 rd_T43 rd_T45 rd_T48 at_T30 at_T57 at_T34 at_T40 at_T45 at_T48)
set_option linter.unusedVariables false
set_option linter.unusedSimpArgs false
set_option maxRecDepth 100000 in
set_option maxHeartbeats 4000000 in
theorem in_15g (l : List S48) (f : S48) (A0 : Option Addr) (c0 : Nat) (A2 : Option Addr) (c2 : Nat) (A6 : Option Addr) (c6 : Nat) (s : S40) (A7 A9 A15 A16 A17 : Option Addr) (c7 c9 c15 c16 c17 : Nat) (w : World) (H : FA w l f A0 c0 A2 c2 A6 c6) (h7 : k57.C w A7 s.f4.f1.length s.f4.f1) (l7 : s.f4.f1.length ≤ c7) (h9 : k57.C w A9 s.f5.f1.length s.f5.f1) (l9 : s.f5.f1.length ≤ c9) (h16 : k30.C w A16 s.f9.length s.f9) (l16 : s.f9.length ≤ c16) (h17 : (Kd.int .i64).C w A17 s.f10.length s.f10) (l17 : s.f10.length ≤ c17) (b7 : s.f4.f1.length < 4611686018427387904) (b9 : s.f5.f1.length < 4611686018427387904) (hll : l.length < 4611686018427387904) (n9 : s.f9.length < 4611686018427387904) (n10 : s.f10.length < 4611686018427387904) (hlk : (rd_T48 l (findP l s.f7)).f1.length < 4611686018427387904) (h : s.f0 = 15) :
  Calls Try.prog 31 #[.agg #[.slice A0 l.length c0, .string f.f0, .slice A2 f.f1.length c2, .int .i64 f.f2, .int .i64 f.f3, .bool f.f4, .slice A6 f.f5.length c6], .agg #[.int .i64 s.f0, .int .i64 s.f1, .bool s.f2.f0, .int .i64 s.f2.f1, .bool s.f3.f0, .int .i64 s.f3.f1, .int .i64 s.f4.f0, .slice A7 s.f4.f1.length c7, .int .i64 s.f5.f0, .slice A9 s.f5.f1.length c9, .int .i64 s.f6, .string s.f7, .int .i64 s.f8.f0, .string s.f8.f1, .int .i64 s.f8.f2, .slice A15 s.f8.f3.length c15, .slice A16 s.f9.length c16, .slice A17 s.f10.length c17]] w fun e w' => e = .returned (.bool (caB l f.f1 s)) ∧ Below w.heap.size w w' := by
 have hu101 := Try.underlying101
 have hu40 := Try.underlying40
 have HF := Aside0.mk H
 have H16 := Aside0.mk h16
 have H17 := Aside0.mk h17
 have HN := Aside0.mk (And.intro hll (And.intro n9 (And.intro n10 hlk)))
 have X := Aside0.mk (FB.new w #[.slice A0 l.length c0, .string f.f0, .slice A2 f.f1.length c2, .int .i64 f.f2, .int .i64 f.f3, .bool f.f4, .slice A6 f.f5.length c6] 101 #[.int .i64 s.f0, .int .i64 s.f1, .bool s.f2.f0, .int .i64 s.f2.f1, .bool s.f3.f0, .int .i64 s.f3.f1, .int .i64 s.f4.f0, .slice A7 s.f4.f1.length c7, .int .i64 s.f5.f0, .slice A9 s.f5.f1.length c9, .int .i64 s.f6, .string s.f7, .int .i64 s.f8.f0, .string s.f8.f1, .int .i64 s.f8.f2, .slice A15 s.f8.f3.length c15, .slice A16 s.f9.length c16, .slice A17 s.f10.length c17] 40)
 clear hll n9 n10 hlk
 have m0 := X.out.b1.cell 0
 have m1 := X.out.b1.cell 1
 have m2 := X.out.b1.cell 2
 have m3 := X.out.b1.cell 3
 have m4 := X.out.b1.cell 4
 have m5 := X.out.b1.cell 5
 have m6 := X.out.b1.cell 6
 have n0 := X.out.b2.cell 0
 have n1 := X.out.b2.cell 1
 have n2 := X.out.b2.cell 2
 have n3 := X.out.b2.cell 3
 have n4 := X.out.b2.cell 4
 have n5 := X.out.b2.cell 5
 have n6 := X.out.b2.cell 6
 have n7 := X.out.b2.cell 7
 have n8 := X.out.b2.cell 8
 have n9 := X.out.b2.cell 9
 have n10 := X.out.b2.cell 10
 have n11 := X.out.b2.cell 11
 have n12 := X.out.b2.cell 12
 have n13 := X.out.b2.cell 13
 have n14 := X.out.b2.cell 14
 have n15 := X.out.b2.cell 15
 have n16 := X.out.b2.cell 16
 have n17 := X.out.b2.cell 17
 simp only [List.getElem?_toArray, List.getElem?_cons_zero, List.getElem?_cons_succ] at m0 m1 m2 m3 m4 m5 m6 n0 n1 n2 n3 n4 n5 n6 n7 n8 n9 n10 n11 n12 n13 n14 n15 n16 n17
 have d1 : (s.f0 == 1) = false := by simp [h]
 have d2 : (s.f0 == 2) = false := by simp [h]
 have d3 : (s.f0 == 3) = false := by simp [h]
 have d4 : (s.f0 == 4) = false := by simp [h]
 have d5 : (s.f0 == 5) = false := by simp [h]
 have d6 : (s.f0 == 6) = false := by simp [h]
 have d7 : (s.f0 == 7) = false := by simp [h]
 have d8 : (s.f0 == 8) = false := by simp [h]
 have d9 : (s.f0 == 9) = false := by simp [h]
 have d10 : (s.f0 == 10) = false := by simp [h]
 have d11 : (s.f0 == 11) = false := by simp [h]
 have d12 : (s.f0 == 12) = false := by simp [h]
 have d13 : (s.f0 == 13) = false := by simp [h]
 have d14 : (s.f0 == 14) = false := by simp [h]
 have d15 : (s.f0 == 15) = true := by simp [h]
 clear H h7 h9 h16 h17 h
 go_enter Try.func31, Try.ntmps31
 go_wp2_with (go_at_call 63; with_reducible refine (ca_said l f A0 c0 A2 c2 A6 c6 s A7 A9 A15 A16 A17 c7 c9 c15 c16 c17 _ (HF.out.below X.out.hb) (Kd.C_below H16.out X.out.hb) l16 (Kd.C_below H17.out X.out.hb) l17 HN.out.1 HN.out.2.1 HN.out.2.2.1 HN.out.2.2.2).mono ?_; rintro e w5 ⟨rfl, hb⟩; have XX := Aside0.mk (X.out.below hb); clear X; have X := XX; clear XX; have m0 := pwcb hb m0; have m1 := pwcb hb m1; have m2 := pwcb hb m2; have m3 := pwcb hb m3; have m4 := pwcb hb m4; have m5 := pwcb hb m5; have m6 := pwcb hb m6; have n0 := pwcb hb n0; have n1 := pwcb hb n1; have n2 := pwcb hb n2; have n3 := pwcb hb n3; have n4 := pwcb hb n4; have n5 := pwcb hb n5; have n6 := pwcb hb n6; have n7 := pwcb hb n7; have n8 := pwcb hb n8; have n9 := pwcb hb n9; have n10 := pwcb hb n10; have n11 := pwcb hb n11; have n12 := pwcb hb n12; have n13 := pwcb hb n13; have n14 := pwcb hb n14; have n15 := pwcb hb n15; have n16 := pwcb hb n16; have n17 := pwcb hb n17; clear hb)
 go_ret
 exact ⟨rfl, X.out.hb⟩
set_option maxRecDepth 100000 in
set_option maxHeartbeats 4000000 in
theorem in_no (l : List S48) (f : S48) (A0 : Option Addr) (c0 : Nat) (A2 : Option Addr) (c2 : Nat) (A6 : Option Addr) (c6 : Nat) (s : S40) (A7 A9 A15 A16 A17 : Option Addr) (c7 c9 c15 c16 c17 : Nat) (w : World) (H : FA w l f A0 c0 A2 c2 A6 c6) (h7 : k57.C w A7 s.f4.f1.length s.f4.f1) (l7 : s.f4.f1.length ≤ c7) (h9 : k57.C w A9 s.f5.f1.length s.f5.f1) (l9 : s.f5.f1.length ≤ c9) (h16 : k30.C w A16 s.f9.length s.f9) (l16 : s.f9.length ≤ c16) (h17 : (Kd.int .i64).C w A17 s.f10.length s.f10) (l17 : s.f10.length ≤ c17) (b7 : s.f4.f1.length < 4611686018427387904) (b9 : s.f5.f1.length < 4611686018427387904) (o1 : ¬ s.f0 = 1) (o2 : ¬ s.f0 = 2) (o3 : ¬ s.f0 = 3) (o4 : ¬ s.f0 = 4) (o5 : ¬ s.f0 = 5) (o6 : ¬ s.f0 = 6) (o7 : ¬ s.f0 = 7) (o8 : ¬ s.f0 = 8) (o9 : ¬ s.f0 = 9) (o10 : ¬ s.f0 = 10) (o11 : ¬ s.f0 = 11) (o12 : ¬ s.f0 = 12) (o13 : ¬ s.f0 = 13) (o14 : ¬ s.f0 = 14) (o15 : ¬ s.f0 = 15) :
  Calls Try.prog 31 #[.agg #[.slice A0 l.length c0, .string f.f0, .slice A2 f.f1.length c2, .int .i64 f.f2, .int .i64 f.f3, .bool f.f4, .slice A6 f.f5.length c6], .agg #[.int .i64 s.f0, .int .i64 s.f1, .bool s.f2.f0, .int .i64 s.f2.f1, .bool s.f3.f0, .int .i64 s.f3.f1, .int .i64 s.f4.f0, .slice A7 s.f4.f1.length c7, .int .i64 s.f5.f0, .slice A9 s.f5.f1.length c9, .int .i64 s.f6, .string s.f7, .int .i64 s.f8.f0, .string s.f8.f1, .int .i64 s.f8.f2, .slice A15 s.f8.f3.length c15, .slice A16 s.f9.length c16, .slice A17 s.f10.length c17]] w fun e w' => e = .returned (.bool false) ∧ Below w.heap.size w w' := by
 have hu101 := Try.underlying101
 have hu40 := Try.underlying40
 have X := Aside0.mk (FB.new w #[.slice A0 l.length c0, .string f.f0, .slice A2 f.f1.length c2, .int .i64 f.f2, .int .i64 f.f3, .bool f.f4, .slice A6 f.f5.length c6] 101 #[.int .i64 s.f0, .int .i64 s.f1, .bool s.f2.f0, .int .i64 s.f2.f1, .bool s.f3.f0, .int .i64 s.f3.f1, .int .i64 s.f4.f0, .slice A7 s.f4.f1.length c7, .int .i64 s.f5.f0, .slice A9 s.f5.f1.length c9, .int .i64 s.f6, .string s.f7, .int .i64 s.f8.f0, .string s.f8.f1, .int .i64 s.f8.f2, .slice A15 s.f8.f3.length c15, .slice A16 s.f9.length c16, .slice A17 s.f10.length c17] 40)
 have m0 := X.out.b1.cell 0
 have m1 := X.out.b1.cell 1
 have m2 := X.out.b1.cell 2
 have m3 := X.out.b1.cell 3
 have m4 := X.out.b1.cell 4
 have m5 := X.out.b1.cell 5
 have m6 := X.out.b1.cell 6
 have n0 := X.out.b2.cell 0
 have n1 := X.out.b2.cell 1
 have n2 := X.out.b2.cell 2
 have n3 := X.out.b2.cell 3
 have n4 := X.out.b2.cell 4
 have n5 := X.out.b2.cell 5
 have n6 := X.out.b2.cell 6
 have n7 := X.out.b2.cell 7
 have n8 := X.out.b2.cell 8
 have n9 := X.out.b2.cell 9
 have n10 := X.out.b2.cell 10
 have n11 := X.out.b2.cell 11
 have n12 := X.out.b2.cell 12
 have n13 := X.out.b2.cell 13
 have n14 := X.out.b2.cell 14
 have n15 := X.out.b2.cell 15
 have n16 := X.out.b2.cell 16
 have n17 := X.out.b2.cell 17
 simp only [List.getElem?_toArray, List.getElem?_cons_zero, List.getElem?_cons_succ] at m0 m1 m2 m3 m4 m5 m6 n0 n1 n2 n3 n4 n5 n6 n7 n8 n9 n10 n11 n12 n13 n14 n15 n16 n17
 have d1 : (s.f0 == 1) = false := by simp [o1]
 have d2 : (s.f0 == 2) = false := by simp [o2]
 have d3 : (s.f0 == 3) = false := by simp [o3]
 have d4 : (s.f0 == 4) = false := by simp [o4]
 have d5 : (s.f0 == 5) = false := by simp [o5]
 have d6 : (s.f0 == 6) = false := by simp [o6]
 have d7 : (s.f0 == 7) = false := by simp [o7]
 have d8 : (s.f0 == 8) = false := by simp [o8]
 have d9 : (s.f0 == 9) = false := by simp [o9]
 have d10 : (s.f0 == 10) = false := by simp [o10]
 have d11 : (s.f0 == 11) = false := by simp [o11]
 have d12 : (s.f0 == 12) = false := by simp [o12]
 have d13 : (s.f0 == 13) = false := by simp [o13]
 have d14 : (s.f0 == 14) = false := by simp [o14]
 have d15 : (s.f0 == 15) = false := by simp [o15]
 clear H h7 h9 h16 h17 o1 o2 o3 o4 o5 o6 o7 o8 o9 o10 o11 o12 o13 o14 o15
 go_enter Try.func31, Try.ntmps31
 go_wp2
 go_ret
 exact ⟨rfl, X.out.hb⟩
def knB (t : ByteArray) : Bool := match PMirFuel.mir_Do.f 3 t 0 0 with
 | some r => r.2
 | none => false
theorem kn_some (t : ByteArray) : ∃ r1, PMirFuel.mir_Do.f 3 t 0 0 = some (r1, knB t) := by
 obtain ⟨⟨a, b⟩, h⟩ := do_total t 0 0
 exact ⟨a, by simp [knB, h]⟩
def inB (l : List S48) (loc : List Int) (s : S40) : Bool :=
 if s.f0 = 1 then (scB loc s.f1 && opB loc s.f2) else
 if s.f0 = 2 then (scB loc s.f1 && (opB loc s.f2 && (opB loc s.f3 && knB s.f7))) else
 if s.f0 = 3 then (scB loc s.f1 && plB loc s.f4) else
 if s.f0 = 4 then (plB loc s.f4 && opB loc s.f2) else
 if s.f0 = 5 then (plB loc s.f4 && (plB loc s.f5 && woB s.f6)) else
 if s.f0 = 6 then (scB loc s.f1 && plB loc s.f4) else
 if s.f0 = 7 then (scB loc s.f1 && woB s.f6) else
 if s.f0 = 8 then opB loc s.f2 else
 if s.f0 = 9 then plB loc s.f4 else
 if s.f0 = 10 then laB loc s.f1 else
 if s.f0 = 11 then laB loc s.f1 else
 if s.f0 = 12 then laB loc s.f1 else
 if s.f0 = 13 then opB loc s.f2 else
 if s.f0 = 14 then scB loc s.f1 else
 if s.f0 = 15 then caB l loc s else false
theorem in_all (l : List S48) (f : S48) (A0 : Option Addr) (c0 : Nat) (A2 : Option Addr) (c2 : Nat) (A6 : Option Addr) (c6 : Nat) (s : S40) (A7 A9 A15 A16 A17 : Option Addr) (c7 c9 c15 c16 c17 : Nat) (w : World) (H : FA w l f A0 c0 A2 c2 A6 c6) (h7 : k57.C w A7 s.f4.f1.length s.f4.f1) (l7 : s.f4.f1.length ≤ c7) (h9 : k57.C w A9 s.f5.f1.length s.f5.f1) (l9 : s.f5.f1.length ≤ c9) (h16 : k30.C w A16 s.f9.length s.f9) (l16 : s.f9.length ≤ c16) (h17 : (Kd.int .i64).C w A17 s.f10.length s.f10) (l17 : s.f10.length ≤ c17) (b7 : s.f4.f1.length < 4611686018427387904) (b9 : s.f5.f1.length < 4611686018427387904) (hll : l.length < 4611686018427387904) (n9 : s.f9.length < 4611686018427387904) (n10 : s.f10.length < 4611686018427387904) (hlk : (rd_T48 l (findP l s.f7)).f1.length < 4611686018427387904) :
  Calls Try.prog 31 #[.agg #[.slice A0 l.length c0, .string f.f0, .slice A2 f.f1.length c2, .int .i64 f.f2, .int .i64 f.f3, .bool f.f4, .slice A6 f.f5.length c6], .agg #[.int .i64 s.f0, .int .i64 s.f1, .bool s.f2.f0, .int .i64 s.f2.f1, .bool s.f3.f0, .int .i64 s.f3.f1, .int .i64 s.f4.f0, .slice A7 s.f4.f1.length c7, .int .i64 s.f5.f0, .slice A9 s.f5.f1.length c9, .int .i64 s.f6, .string s.f7, .int .i64 s.f8.f0, .string s.f8.f1, .int .i64 s.f8.f2, .slice A15 s.f8.f3.length c15, .slice A16 s.f9.length c16, .slice A17 s.f10.length c17]] w fun e w' => e = .returned (.bool (inB l f.f1 s)) ∧ Below w.heap.size w w' := by
 unfold inB
 by_cases o1 : s.f0 = 1
 ·rw [if_pos o1]; exact in_1 l f A0 c0 A2 c2 A6 c6 s A7 A9 A15 A16 A17 c7 c9 c15 c16 c17 w H h7 l7 h9 l9 h16 l16 h17 l17 b7 b9 o1
 rw [if_neg o1]
 by_cases o2 : s.f0 = 2
 ·rw [if_pos o2]
  obtain ⟨r1, hr⟩ := kn_some s.f7
  exact in_2 l f A0 c0 A2 c2 A6 c6 s A7 A9 A15 A16 A17 c7 c9 c15 c16 c17 w H h7 l7 h9 l9 h16 l16 h17 l17 b7 b9 hr o2
 rw [if_neg o2]
 by_cases o3 : s.f0 = 3
 ·rw [if_pos o3]; exact in_3 l f A0 c0 A2 c2 A6 c6 s A7 A9 A15 A16 A17 c7 c9 c15 c16 c17 w H h7 l7 h9 l9 h16 l16 h17 l17 b7 b9 o3
 rw [if_neg o3]
 by_cases o4 : s.f0 = 4
 ·rw [if_pos o4]; exact in_4 l f A0 c0 A2 c2 A6 c6 s A7 A9 A15 A16 A17 c7 c9 c15 c16 c17 w H h7 l7 h9 l9 h16 l16 h17 l17 b7 b9 o4
 rw [if_neg o4]
 by_cases o5 : s.f0 = 5
 ·rw [if_pos o5]; exact in_5 l f A0 c0 A2 c2 A6 c6 s A7 A9 A15 A16 A17 c7 c9 c15 c16 c17 w H h7 l7 h9 l9 h16 l16 h17 l17 b7 b9 o5
 rw [if_neg o5]
 by_cases o6 : s.f0 = 6
 ·rw [if_pos o6]; exact in_6 l f A0 c0 A2 c2 A6 c6 s A7 A9 A15 A16 A17 c7 c9 c15 c16 c17 w H h7 l7 h9 l9 h16 l16 h17 l17 b7 b9 o6
 rw [if_neg o6]
 by_cases o7 : s.f0 = 7
 ·rw [if_pos o7]; exact in_7 l f A0 c0 A2 c2 A6 c6 s A7 A9 A15 A16 A17 c7 c9 c15 c16 c17 w H h7 l7 h9 l9 h16 l16 h17 l17 b7 b9 o7
 rw [if_neg o7]
 by_cases o8 : s.f0 = 8
 ·rw [if_pos o8]; exact in_8 l f A0 c0 A2 c2 A6 c6 s A7 A9 A15 A16 A17 c7 c9 c15 c16 c17 w H h7 l7 h9 l9 h16 l16 h17 l17 b7 b9 o8
 rw [if_neg o8]
 by_cases o9 : s.f0 = 9
 ·rw [if_pos o9]; exact in_9 l f A0 c0 A2 c2 A6 c6 s A7 A9 A15 A16 A17 c7 c9 c15 c16 c17 w H h7 l7 h9 l9 h16 l16 h17 l17 b7 b9 o9
 rw [if_neg o9]
 by_cases o10 : s.f0 = 10
 ·rw [if_pos o10]; exact in_10 l f A0 c0 A2 c2 A6 c6 s A7 A9 A15 A16 A17 c7 c9 c15 c16 c17 w H h7 l7 h9 l9 h16 l16 h17 l17 b7 b9 o10
 rw [if_neg o10]
 by_cases o11 : s.f0 = 11
 ·rw [if_pos o11]; exact in_11 l f A0 c0 A2 c2 A6 c6 s A7 A9 A15 A16 A17 c7 c9 c15 c16 c17 w H h7 l7 h9 l9 h16 l16 h17 l17 b7 b9 o11
 rw [if_neg o11]
 by_cases o12 : s.f0 = 12
 ·rw [if_pos o12]; exact in_12 l f A0 c0 A2 c2 A6 c6 s A7 A9 A15 A16 A17 c7 c9 c15 c16 c17 w H h7 l7 h9 l9 h16 l16 h17 l17 b7 b9 o12
 rw [if_neg o12]
 by_cases o13 : s.f0 = 13
 ·rw [if_pos o13]; exact in_13 l f A0 c0 A2 c2 A6 c6 s A7 A9 A15 A16 A17 c7 c9 c15 c16 c17 w H h7 l7 h9 l9 h16 l16 h17 l17 b7 b9 o13
 rw [if_neg o13]
 by_cases o14 : s.f0 = 14
 ·rw [if_pos o14]; exact in_14 l f A0 c0 A2 c2 A6 c6 s A7 A9 A15 A16 A17 c7 c9 c15 c16 c17 w H h7 l7 h9 l9 h16 l16 h17 l17 b7 b9 o14
 rw [if_neg o14]
 by_cases o15 : s.f0 = 15
 ·rw [if_pos o15]; exact in_15g l f A0 c0 A2 c2 A6 c6 s A7 A9 A15 A16 A17 c7 c9 c15 c16 c17 w H h7 l7 h9 l9 h16 l16 h17 l17 b7 b9 hll n9 n10 hlk o15
 rw [if_neg o15]
 exact in_no l f A0 c0 A2 c2 A6 c6 s A7 A9 A15 A16 A17 c7 c9 c15 c16 c17 w H h7 l7 h9 l9 h16 l16 h17 l17 b7 b9 o1 o2 o3 o4 o5 o6 o7 o8 o9 o10 o11 o12 o13 o14 o15
def blB (l : List S48) (f : S48) (B : S45) : Bool := B.f0.all (inB l f.f1) && teB f B.f1
def fnB (l : List S48) (k : Int) (f : S48) : Bool := decide (findP l f.f0 = k) && (frB f && f.f5.all (blB l f))
def chkB (l : List S48) : Bool := decide (∀ k : Nat, k < l.length → fnB l k (rd_T48 l k) = true)
theorem all_40 {p : S40 → Bool} {xs : List S40} (h : ∀ j : Int, 0 ≤ j → j < xs.length → p (rd_T40 xs j) = true) : xs.all p = true := by
 rw [List.all_eq_true]
 intro x hx
 obtain ⟨i, hi, rfl⟩ := List.mem_iff_getElem.1 hx
 have := h i (by omega) (by omega)
 simpa [rd_T40, List.getD_eq_getElem?_getD, hi] using this
theorem mem_40 {xs : List S40} {j : Int} (h0 : 0 ≤ j) (h1 : j < xs.length) : rd_T40 xs j ∈ xs := by
 have hi : j.toNat < xs.length := by omega
 have e : rd_T40 xs j = xs[j.toNat] := by simp [rd_T40, List.getD_eq_getElem?_getD, hi]
 rw [e]; exact List.getElem_mem hi
theorem mem_45 {xs : List S45} {j : Int} (h0 : 0 ≤ j) (h1 : j < xs.length) : rd_T45 xs j ∈ xs := by
 have hi : j.toNat < xs.length := by omega
 have e : rd_T45 xs j = xs[j.toNat] := by simp [rd_T45, List.getD_eq_getElem?_getD, hi]
 rw [e]; exact List.getElem_mem hi
theorem mem_48 {xs : List S48} {j : Int} (h0 : 0 ≤ j) (h1 : j < xs.length) : rd_T48 xs j ∈ xs := by
 have hi : j.toNat < xs.length := by omega
 have e : rd_T48 xs j = xs[j.toNat] := by simp [rd_T48, List.getD_eq_getElem?_getD, hi]
 rw [e]; exact List.getElem_mem hi
theorem not_40 {p : S40 → Bool} {xs : List S40} {j : Int} (h0 : 0 ≤ j) (h1 : j < xs.length) (h : p (rd_T40 xs j) = false) : xs.all p = false := by
 rw [List.all_eq_false]
 exact ⟨_, mem_40 h0 h1, by simp [h]⟩
theorem all_45 {p : S45 → Bool} {xs : List S45} (h : ∀ j : Int, 0 ≤ j → j < xs.length → p (rd_T45 xs j) = true) : xs.all p = true := by
 rw [List.all_eq_true]
 intro x hx
 obtain ⟨i, hi, rfl⟩ := List.mem_iff_getElem.1 hx
 have := h i (by omega) (by omega)
 simpa [rd_T45, List.getD_eq_getElem?_getD, hi] using this
theorem not_45 {p : S45 → Bool} {xs : List S45} {j : Int} (h0 : 0 ≤ j) (h1 : j < xs.length) (h : p (rd_T45 xs j) = false) : xs.all p = false := by
 rw [List.all_eq_false]
 exact ⟨_, mem_45 h0 h1, by simp [h]⟩
theorem chk_all {l : List S48} (h : ∀ k : Int, 0 ≤ k → k < l.length → fnB l k (rd_T48 l k) = true) : chkB l = true :=
 decide_eq_true fun k hk => h k (by omega) (by omega)
theorem chk_not {l : List S48} {k : Int} (h0 : 0 ≤ k) (h1 : k < l.length) (h : fnB l k (rd_T48 l k) = false) : chkB l = false := by
 refine decide_eq_false fun hh => ?_
 have := hh k.toNat (by omega)
 rw [show ((k.toNat : Nat) : Int) = k by omega, h] at this
 exact Bool.noConfusion this
theorem chk_at {l : List S48} (h : chkB l = true) {k : Int} (h0 : 0 ≤ k) (h1 : k < l.length) : fnB l k (rd_T48 l k) = true := by
 have := of_decide_eq_true h k.toNat (by omega)
 rwa [show ((k.toNat : Nat) : Int) = k by omega] at this
theorem chk_find {l : List S48} {k : Int} (h0 : 0 ≤ k) (h1 : k < l.length) (h : ¬ findP l (rd_T48 l k).f0 = k) : chkB l = false :=
 chk_not h0 h1 (by simp [fnB, h])
theorem chk_frame {l : List S48} {k : Int} (h0 : 0 ≤ k) (h1 : k < l.length) (h : frB (rd_T48 l k) = false) : chkB l = false :=
 chk_not h0 h1 (by simp [fnB, h])
theorem chk_bl {l : List S48} {k : Int} (h0 : 0 ≤ k) (h1 : k < l.length) {f : S48} (hf : rd_T48 l k = f) {j : Int} (j0 : 0 ≤ j) (j1 : j < f.f5.length) (h : blB l f (rd_T45 f.f5 j) = false) : chkB l = false :=
 chk_not h0 h1 (by subst hf; simp [fnB, not_45 j0 j1 h])
theorem bl_in {l : List S48} {f : S48} {B : S45} {i : Int} (i0 : 0 ≤ i) (i1 : i < B.f0.length) (h : inB l f.f1 (rd_T40 B.f0 i) = false) : blB l f B = false := by
 simp [blB, not_40 i0 i1 h]
structure SzI (s : S40) : Prop where
 p4 : s.f4.f1.length < 4611686018427387904
 p5 : s.f5.f1.length < 4611686018427387904
 n9 : s.f9.length < 4611686018427387904
 n10 : s.f10.length < 4611686018427387904
 ty : tyOk s.f8
structure SzB (B : S45) : Prop where
 n0 : B.f0.length < 4611686018427387904
 n4 : B.f1.f4.length < 4611686018427387904
 ins : ∀ s, s ∈ B.f0 → SzI s
structure SzF (f : S48) : Prop where
 n1 : f.f1.length < 4611686018427387904
 n5 : f.f5.length < 4611686018427387904
 bl : ∀ B, B ∈ f.f5 → SzB B
structure SzL (l : List S48) : Prop where
 n : l.length < 4611686018427387904
 fs : ∀ f, f ∈ l → SzF f
theorem SzL.f1 {l : List S48} (H : SzL l) (k : Int) : (rd_T48 l k).f1.length < 4611686018427387904 := by
 by_cases hk : k.toNat < l.length
 ·have e : rd_T48 l k = l[k.toNat] := by simp [rd_T48, List.getD_eq_getElem?_getD, hk]
  rw [e]; exact (H.fs _ (List.getElem_mem hk)).n1
 ·have e : rd_T48 l k = PMirFuel.z48 := by simp [rd_T48, List.getD_eq_getElem?_getD, List.getElem?_eq_none (show l.length ≤ k.toNat by omega)]
  rw [e]; decide
theorem InT.of {l : List S48} {loc : List Int} {s : S40} (H : SzL l) (Z : SzI s) (h : inB l loc s = true) : InT l loc s := by
 unfold inB at h
 by_cases o1 : s.f0 = 1
 ·rw [if_pos o1] at h; exact .set o1 h
 rw [if_neg o1] at h
 by_cases o2 : s.f0 = 2
 ·rw [if_pos o2] at h
  obtain ⟨r1, hr⟩ := kn_some s.f7
  have hk : knB s.f7 = true := by
   simp only [Bool.and_eq_true] at h
   exact h.2.2.2
  rw [hk] at hr h
  exact .bin o2 r1 hr h
 rw [if_neg o2] at h
 by_cases o3 : s.f0 = 3
 ·rw [if_pos o3] at h; exact .load o3 h
 rw [if_neg o3] at h
 by_cases o4 : s.f0 = 4
 ·rw [if_pos o4] at h; exact .store o4 h
 rw [if_neg o4] at h
 by_cases o5 : s.f0 = 5
 ·rw [if_pos o5] at h; exact .copy o5 h
 rw [if_neg o5] at h
 by_cases o6 : s.f0 = 6
 ·rw [if_pos o6] at h; exact .addr o6 h
 rw [if_neg o6] at h
 by_cases o7 : s.f0 = 7
 ·rw [if_pos o7] at h; exact .alloc o7 h
 rw [if_neg o7] at h
 by_cases o8 : s.f0 = 8
 ·rw [if_pos o8] at h; exact .free o8 h
 rw [if_neg o8] at h
 by_cases o9 : s.f0 = 9
 ·rw [if_pos o9] at h; exact .drop o9 h Z.ty
 rw [if_neg o9] at h
 by_cases o10 : s.f0 = 10
 ·rw [if_pos o10] at h; exact .give o10 h
 rw [if_neg o10] at h
 by_cases o11 : s.f0 = 11
 ·rw [if_pos o11] at h; exact .take o11 h
 rw [if_neg o11] at h
 by_cases o12 : s.f0 = 12
 ·rw [if_pos o12] at h; exact .clear o12 h Z.ty
 rw [if_neg o12] at h
 by_cases o13 : s.f0 = 13
 ·rw [if_pos o13] at h; exact .print o13 h
 rw [if_neg o13] at h
 by_cases o14 : s.f0 = 14
 ·rw [if_pos o14] at h; exact .read o14 h
 rw [if_neg o14] at h
 by_cases o15 : s.f0 = 15
 ·rw [if_pos o15] at h
  unfold caB at h
  split at h
  ·exact Bool.noConfusion h
  rename_i p0
  split at h
  ·exact Bool.noConfusion h
  rename_i p1
  split at h
  ·exact Bool.noConfusion h
  rename_i p2
  split at h
  ·exact Bool.noConfusion h
  rename_i p3
  split at h
  ·exact Bool.noConfusion h
  rename_i p4
  exact .call o15 ⟨H.n, Z.n9, Z.n10, p0, p1, p2, H.f1 _, Decidable.not_not.1 p3, Decidable.not_not.1 p4⟩ h
 rw [if_neg o15] at h
 exact Bool.noConfusion h
theorem ChkT.of {l : List S48} (H : SzL l) (h : chkB l = true) : ChkT l := by
 refine ⟨H.n, fun k h0 h1 => FnL.t ?_⟩
 have hk := chk_at h h0 h1
 have F := H.fs _ (mem_48 h0 h1)
 generalize rd_T48 l k = f at *
 simp only [fnB, Bool.and_eq_true, decide_eq_true_eq, List.all_eq_true] at hk
 refine ⟨hk.1, hk.2.1, F.n1, F.n5, fun B hB => ?_, fun B hB s hs => ?_⟩
 ·have hb := hk.2.2 B hB
  simp only [blB, Bool.and_eq_true] at hb
  exact ⟨(F.bl B hB).n0, (F.bl B hB).n4, hb.2⟩
 ·have hb := hk.2.2 B hB
  simp only [blB, Bool.and_eq_true, List.all_eq_true] at hb
  have Z := (F.bl B hB).ins s hs
  exact ⟨InT.of H Z (hb.1 s hs), Z.p4, Z.p5⟩
theorem forms_chk {l : List S48} (H : SzL l) (h : chkB l = true) (hl : ∀ k : Int, 0 ≤ k → k < l.length → (rd_T48 l k).f1.length < 100000) : Forms l := forms_of (ChkT.of H h) hl
end Go.Proofs.Ytpphpcmbpbppoaa.Form
end
