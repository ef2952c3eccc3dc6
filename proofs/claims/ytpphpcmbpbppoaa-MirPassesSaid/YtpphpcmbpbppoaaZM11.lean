/- Steps toward laws of the middle form (M), merged from several texts (some of them began as the kit's print). No condition. -/
import Derived.Test.YtpphpcmbpbppoaaZM10
section
namespace Go.Proofs.Ytpphpcmbpbppoaa.Form
open Go.RowKit Go.Proofs.YtpphpcmbpbppoaaW.PrintWords Go.Proofs.YtpphpcmbpbppoaaW.PrintLast Go.Proofs.YtpphpcmbpbppoaaW.PrintMore
open Go.Proofs.Ytpphpcmbpbppoaa.Calm
open Go.Proofs.Ytpphpcmbpbppoaa.Mach
open Go.Proofs.Ytpphpcmbpbppoaa.PMirFuel (S30 S57 S34 S37 S40 S43 S45 S48 k30 k57 k34 k37 k40 k43 k45 k48 rd_T30 rd_T57 rd_T34 rd_T37 rd_T40 rd_T43 rd_T45 rd_T48 at_T30 at_T57 at_T34 at_T40 at_T45 at_T48)
set_option linter.unusedVariables false
set_option linter.unusedSimpArgs false
def woB (n : Int) : Bool := decide (0 ≤ n) && decide (n ≤ 128)
theorem la_said {w : World} {l : List S48} {f : S48} {A0 A2 A6 : Option Addr} {c0 c2 c6 : Nat} (H : FA w l f A0 c0 A2 c2 A6 c6) (d : Int) :
    Calls Try.prog 62 #[.agg #[.slice A0 l.length c0, .string f.f0, .slice A2 f.f1.length c2, .int .i64 f.f2, .int .i64 f.f3, .bool f.f4, .slice A6 f.f5.length c6], .int .i64 d] w fun e w' => e = .returned (.bool (laB f.f1 d)) ∧ Below w.heap.size w w' :=
  PMirFuel.mir_former_local.calls A0 c0 l f.f0 A2 c2 f.f1 f.f2 f.f3 f.f4 A6 c6 f.f5 d _ w H.r0 H.l0 H.r2 H.l2 H.r6 H.l6 (local_f _ _ _ _ _ _ _ _)
theorem pl_said {w : World} {l : List S48} {f : S48} {A0 A2 A6 : Option Addr} {c0 c2 c6 : Nat} (H : FA w l f A0 c0 A2 c2 A6 c6) (p : S34) (A : Option Addr) (c : Nat) (h : k57.C w A p.f1.length p.f1) (hc : p.f1.length ≤ c) (hn : p.f1.length < 4611686018427387904) :
    Calls Try.prog 60 #[.agg #[.slice A0 l.length c0, .string f.f0, .slice A2 f.f1.length c2, .int .i64 f.f2, .int .i64 f.f3, .bool f.f4, .slice A6 f.f5.length c6], .agg #[.int .i64 p.f0, .slice A p.f1.length c]] w fun e w' => e = .returned (.bool (plB f.f1 p)) ∧ Below w.heap.size w w' :=
  PMirFuel.mir_former_place.calls (p.f1.length + 1) A0 c0 l f.f0 A2 c2 f.f1 f.f2 f.f3 f.f4 A6 c6 f.f5 p.f0 A c p.f1 _ w H.r0 H.l0 H.r2 H.l2 H.r6 H.l6 h hc (place_f _ _ _ _ _ _ _ p hn _ (by omega))
theorem words_f (n : Int) : PMirFuel.mir_words.f n = some (woB n) := by
  unfold PMirFuel.mir_words.f woB
  by_cases h0 : 0 ≤ n
  · rw [if_pos (show n ≥ 0 from h0)]; simp [h0]
  · rw [if_neg (show ¬ n ≥ 0 from h0)]; simp [h0]
theorem wo_said (n : Int) (w : World) : Calls Try.prog 61 #[.int .i64 n] w fun e w' => e = .returned (.bool (woB n)) ∧ Below w.heap.size w w' :=
  (PMirFuel.mir_words.calls n _ w (words_f n)).mono fun _ _ h => ⟨h.1, h.2.below⟩
set_option maxRecDepth 100000 in
set_option maxHeartbeats 4000000 in
theorem in_1_0 (l : List S48) (f : S48) (A0 : Option Addr) (c0 : Nat) (A2 : Option Addr) (c2 : Nat) (A6 : Option Addr) (c6 : Nat) (s : S40) (A7 A9 A15 A16 A17 : Option Addr) (c7 c9 c15 c16 c17 : Nat) (w : World) (H : FA w l f A0 c0 A2 c2 A6 c6) (h7 : k57.C w A7 s.f4.f1.length s.f4.f1) (l7 : s.f4.f1.length ≤ c7) (h9 : k57.C w A9 s.f5.f1.length s.f5.f1) (l9 : s.f5.f1.length ≤ c9) (h16 : k30.C w A16 s.f9.length s.f9) (l16 : s.f9.length ≤ c16) (h17 : (Kd.int .i64).C w A17 s.f10.length s.f10) (l17 : s.f10.length ≤ c17) (b7 : s.f4.f1.length < 4611686018427387904) (b9 : s.f5.f1.length < 4611686018427387904) (h : s.f0 = 1) (t0 : scB f.f1 s.f1 = false) :
    Calls Try.prog 31 #[.agg #[.slice A0 l.length c0, .string f.f0, .slice A2 f.f1.length c2, .int .i64 f.f2, .int .i64 f.f3, .bool f.f4, .slice A6 f.f5.length c6], .agg #[.int .i64 s.f0, .int .i64 s.f1, .bool s.f2.f0, .int .i64 s.f2.f1, .bool s.f3.f0, .int .i64 s.f3.f1, .int .i64 s.f4.f0, .slice A7 s.f4.f1.length c7, .int .i64 s.f5.f0, .slice A9 s.f5.f1.length c9, .int .i64 s.f6, .string s.f7, .int .i64 s.f8.f0, .string s.f8.f1, .int .i64 s.f8.f2, .slice A15 s.f8.f3.length c15, .slice A16 s.f9.length c16, .slice A17 s.f10.length c17]] w fun e w' => e = .returned (.bool false) ∧ Below w.heap.size w w' := by
  have hu101 := Try.underlying101
  have hu40 := Try.underlying40
  have HF := Aside0.mk H
  have H7 := Aside0.mk h7
  have H9 := Aside0.mk h9
  have HL := Aside0.mk (And.intro l7 (And.intro l9 l16))
  have X := Aside0.mk (FB.new w #[.slice A0 l.length c0, .string f.f0, .slice A2 f.f1.length c2, .int .i64 f.f2, .int .i64 f.f3, .bool f.f4, .slice A6 f.f5.length c6] 101 #[.int .i64 s.f0, .int .i64 s.f1, .bool s.f2.f0, .int .i64 s.f2.f1, .bool s.f3.f0, .int .i64 s.f3.f1, .int .i64 s.f4.f0, .slice A7 s.f4.f1.length c7, .int .i64 s.f5.f0, .slice A9 s.f5.f1.length c9, .int .i64 s.f6, .string s.f7, .int .i64 s.f8.f0, .string s.f8.f1, .int .i64 s.f8.f2, .slice A15 s.f8.f3.length c15, .slice A16 s.f9.length c16, .slice A17 s.f10.length c17] 40)
  have m0 := X.out.b1.cell 0
  have m1 := X.out.b1.cell 1
  have m2 := X.out.b1.cell 2
  have m3 := X.out.b1.cell 3
  have m4 := X.out.b1.cell 4
  have m5 := X.out.b1.cell 5
  have m6 := X.out.b1.cell 6
  have n0 := X.out.b2.cell 0
  have n1 := X.out.b2.cell 1
  have n2 := X.out.b2.cell 2
  have n3 := X.out.b2.cell 3
  have n4 := X.out.b2.cell 4
  have n5 := X.out.b2.cell 5
  have n6 := X.out.b2.cell 6
  have n7 := X.out.b2.cell 7
  have n8 := X.out.b2.cell 8
  have n9 := X.out.b2.cell 9
  have n10 := X.out.b2.cell 10
  have n11 := X.out.b2.cell 11
  have n12 := X.out.b2.cell 12
  have n13 := X.out.b2.cell 13
  have n14 := X.out.b2.cell 14
  have n15 := X.out.b2.cell 15
  have n16 := X.out.b2.cell 16
  have n17 := X.out.b2.cell 17
  simp only [List.getElem?_toArray, List.getElem?_cons_zero, List.getElem?_cons_succ] at m0 m1 m2 m3 m4 m5 m6 n0 n1 n2 n3 n4 n5 n6 n7 n8 n9 n10 n11 n12 n13 n14 n15 n16 n17
  have d1 : (s.f0 == 1) = true := by simp [h]
  have d2 : (s.f0 == 2) = false := by simp [h]
  have d3 : (s.f0 == 3) = false := by simp [h]
  have d4 : (s.f0 == 4) = false := by simp [h]
  have d5 : (s.f0 == 5) = false := by simp [h]
  have d6 : (s.f0 == 6) = false := by simp [h]
  have d7 : (s.f0 == 7) = false := by simp [h]
  have d8 : (s.f0 == 8) = false := by simp [h]
  have d9 : (s.f0 == 9) = false := by simp [h]
  have d10 : (s.f0 == 10) = false := by simp [h]
  have d11 : (s.f0 == 11) = false := by simp [h]
  have d12 : (s.f0 == 12) = false := by simp [h]
  have d13 : (s.f0 == 13) = false := by simp [h]
  have d14 : (s.f0 == 14) = false := by simp [h]
  have d15 : (s.f0 == 15) = false := by simp [h]
  clear H h7 h9 h16 h17 l7 l9 l16 l17 h
  go_enter Try.func31, Try.ntmps31
  go_wp2_with (go_at_call 57; with_reducible refine (sc_said (HF.out.below X.out.hb) s.f1).mono ?_; rintro e w5 ⟨rfl, hb⟩; have XX := Aside0.mk (X.out.below hb); clear X; have X := XX; clear XX; have m0 := pw_cell_below hb m0; have m1 := pw_cell_below hb m1; have m2 := pw_cell_below hb m2; have m3 := pw_cell_below hb m3; have m4 := pw_cell_below hb m4; have m5 := pw_cell_below hb m5; have m6 := pw_cell_below hb m6; have n0 := pw_cell_below hb n0; have n1 := pw_cell_below hb n1; have n2 := pw_cell_below hb n2; have n3 := pw_cell_below hb n3; have n4 := pw_cell_below hb n4; have n5 := pw_cell_below hb n5; have n6 := pw_cell_below hb n6; have n7 := pw_cell_below hb n7; have n8 := pw_cell_below hb n8; have n9 := pw_cell_below hb n9; have n10 := pw_cell_below hb n10; have n11 := pw_cell_below hb n11; have n12 := pw_cell_below hb n12; have n13 := pw_cell_below hb n13; have n14 := pw_cell_below hb n14; have n15 := pw_cell_below hb n15; have n16 := pw_cell_below hb n16; have n17 := pw_cell_below hb n17; clear hb)
  go_ret
  exact ⟨rfl, X.out.hb⟩
set_option maxRecDepth 100000 in
set_option maxHeartbeats 4000000 in
theorem in_1_1 (l : List S48) (f : S48) (A0 : Option Addr) (c0 : Nat) (A2 : Option Addr) (c2 : Nat) (A6 : Option Addr) (c6 : Nat) (s : S40) (A7 A9 A15 A16 A17 : Option Addr) (c7 c9 c15 c16 c17 : Nat) (w : World) (H : FA w l f A0 c0 A2 c2 A6 c6) (h7 : k57.C w A7 s.f4.f1.length s.f4.f1) (l7 : s.f4.f1.length ≤ c7) (h9 : k57.C w A9 s.f5.f1.length s.f5.f1) (l9 : s.f5.f1.length ≤ c9) (h16 : k30.C w A16 s.f9.length s.f9) (l16 : s.f9.length ≤ c16) (h17 : (Kd.int .i64).C w A17 s.f10.length s.f10) (l17 : s.f10.length ≤ c17) (b7 : s.f4.f1.length < 4611686018427387904) (b9 : s.f5.f1.length < 4611686018427387904) (h : s.f0 = 1) (t0 : scB f.f1 s.f1 = true) :
    Calls Try.prog 31 #[.agg #[.slice A0 l.length c0, .string f.f0, .slice A2 f.f1.length c2, .int .i64 f.f2, .int .i64 f.f3, .bool f.f4, .slice A6 f.f5.length c6], .agg #[.int .i64 s.f0, .int .i64 s.f1, .bool s.f2.f0, .int .i64 s.f2.f1, .bool s.f3.f0, .int .i64 s.f3.f1, .int .i64 s.f4.f0, .slice A7 s.f4.f1.length c7, .int .i64 s.f5.f0, .slice A9 s.f5.f1.length c9, .int .i64 s.f6, .string s.f7, .int .i64 s.f8.f0, .string s.f8.f1, .int .i64 s.f8.f2, .slice A15 s.f8.f3.length c15, .slice A16 s.f9.length c16, .slice A17 s.f10.length c17]] w fun e w' => e = .returned (.bool (opB f.f1 s.f2)) ∧ Below w.heap.size w w' := by
  have hu101 := Try.underlying101
  have hu40 := Try.underlying40
  have HF := Aside0.mk H
  have H7 := Aside0.mk h7
  have H9 := Aside0.mk h9
  have HL := Aside0.mk (And.intro l7 (And.intro l9 l16))
  have X := Aside0.mk (FB.new w #[.slice A0 l.length c0, .string f.f0, .slice A2 f.f1.length c2, .int .i64 f.f2, .int .i64 f.f3, .bool f.f4, .slice A6 f.f5.length c6] 101 #[.int .i64 s.f0, .int .i64 s.f1, .bool s.f2.f0, .int .i64 s.f2.f1, .bool s.f3.f0, .int .i64 s.f3.f1, .int .i64 s.f4.f0, .slice A7 s.f4.f1.length c7, .int .i64 s.f5.f0, .slice A9 s.f5.f1.length c9, .int .i64 s.f6, .string s.f7, .int .i64 s.f8.f0, .string s.f8.f1, .int .i64 s.f8.f2, .slice A15 s.f8.f3.length c15, .slice A16 s.f9.length c16, .slice A17 s.f10.length c17] 40)
  have m0 := X.out.b1.cell 0
  have m1 := X.out.b1.cell 1
  have m2 := X.out.b1.cell 2
  have m3 := X.out.b1.cell 3
  have m4 := X.out.b1.cell 4
  have m5 := X.out.b1.cell 5
  have m6 := X.out.b1.cell 6
  have n0 := X.out.b2.cell 0
  have n1 := X.out.b2.cell 1
  have n2 := X.out.b2.cell 2
  have n3 := X.out.b2.cell 3
  have n4 := X.out.b2.cell 4
  have n5 := X.out.b2.cell 5
  have n6 := X.out.b2.cell 6
  have n7 := X.out.b2.cell 7
  have n8 := X.out.b2.cell 8
  have n9 := X.out.b2.cell 9
  have n10 := X.out.b2.cell 10
  have n11 := X.out.b2.cell 11
  have n12 := X.out.b2.cell 12
  have n13 := X.out.b2.cell 13
  have n14 := X.out.b2.cell 14
  have n15 := X.out.b2.cell 15
  have n16 := X.out.b2.cell 16
  have n17 := X.out.b2.cell 17
  simp only [List.getElem?_toArray, List.getElem?_cons_zero, List.getElem?_cons_succ] at m0 m1 m2 m3 m4 m5 m6 n0 n1 n2 n3 n4 n5 n6 n7 n8 n9 n10 n11 n12 n13 n14 n15 n16 n17
  have d1 : (s.f0 == 1) = true := by simp [h]
  have d2 : (s.f0 == 2) = false := by simp [h]
  have d3 : (s.f0 == 3) = false := by simp [h]
  have d4 : (s.f0 == 4) = false := by simp [h]
  have d5 : (s.f0 == 5) = false := by simp [h]
  have d6 : (s.f0 == 6) = false := by simp [h]
  have d7 : (s.f0 == 7) = false := by simp [h]
  have d8 : (s.f0 == 8) = false := by simp [h]
  have d9 : (s.f0 == 9) = false := by simp [h]
  have d10 : (s.f0 == 10) = false := by simp [h]
  have d11 : (s.f0 == 11) = false := by simp [h]
  have d12 : (s.f0 == 12) = false := by simp [h]
  have d13 : (s.f0 == 13) = false := by simp [h]
  have d14 : (s.f0 == 14) = false := by simp [h]
  have d15 : (s.f0 == 15) = false := by simp [h]
  clear H h7 h9 h16 h17 l7 l9 l16 l17 h
  go_enter Try.func31, Try.ntmps31
  go_wp2_with (first | (go_at_call 57; with_reducible refine (sc_said (HF.out.below X.out.hb) s.f1).mono ?_; rintro e w5 ⟨rfl, hb⟩; have XX := Aside0.mk (X.out.below hb); clear X; have X := XX; clear XX; have m0 := pw_cell_below hb m0; have m1 := pw_cell_below hb m1; have m2 := pw_cell_below hb m2; have m3 := pw_cell_below hb m3; have m4 := pw_cell_below hb m4; have m5 := pw_cell_below hb m5; have m6 := pw_cell_below hb m6; have n0 := pw_cell_below hb n0; have n1 := pw_cell_below hb n1; have n2 := pw_cell_below hb n2; have n3 := pw_cell_below hb n3; have n4 := pw_cell_below hb n4; have n5 := pw_cell_below hb n5; have n6 := pw_cell_below hb n6; have n7 := pw_cell_below hb n7; have n8 := pw_cell_below hb n8; have n9 := pw_cell_below hb n9; have n10 := pw_cell_below hb n10; have n11 := pw_cell_below hb n11; have n12 := pw_cell_below hb n12; have n13 := pw_cell_below hb n13; have n14 := pw_cell_below hb n14; have n15 := pw_cell_below hb n15; have n16 := pw_cell_below hb n16; have n17 := pw_cell_below hb n17; clear hb) | (go_at_call 58; with_reducible refine (op_said (HF.out.below X.out.hb) s.f2).mono ?_; rintro e w5 ⟨rfl, hb⟩; have XX := Aside0.mk (X.out.below hb); clear X; have X := XX; clear XX; have m0 := pw_cell_below hb m0; have m1 := pw_cell_below hb m1; have m2 := pw_cell_below hb m2; have m3 := pw_cell_below hb m3; have m4 := pw_cell_below hb m4; have m5 := pw_cell_below hb m5; have m6 := pw_cell_below hb m6; have n0 := pw_cell_below hb n0; have n1 := pw_cell_below hb n1; have n2 := pw_cell_below hb n2; have n3 := pw_cell_below hb n3; have n4 := pw_cell_below hb n4; have n5 := pw_cell_below hb n5; have n6 := pw_cell_below hb n6; have n7 := pw_cell_below hb n7; have n8 := pw_cell_below hb n8; have n9 := pw_cell_below hb n9; have n10 := pw_cell_below hb n10; have n11 := pw_cell_below hb n11; have n12 := pw_cell_below hb n12; have n13 := pw_cell_below hb n13; have n14 := pw_cell_below hb n14; have n15 := pw_cell_below hb n15; have n16 := pw_cell_below hb n16; have n17 := pw_cell_below hb n17; clear hb))
  go_ret
  exact ⟨rfl, X.out.hb⟩
theorem in_1 (l : List S48) (f : S48) (A0 : Option Addr) (c0 : Nat) (A2 : Option Addr) (c2 : Nat) (A6 : Option Addr) (c6 : Nat) (s : S40) (A7 A9 A15 A16 A17 : Option Addr) (c7 c9 c15 c16 c17 : Nat) (w : World) (H : FA w l f A0 c0 A2 c2 A6 c6) (h7 : k57.C w A7 s.f4.f1.length s.f4.f1) (l7 : s.f4.f1.length ≤ c7) (h9 : k57.C w A9 s.f5.f1.length s.f5.f1) (l9 : s.f5.f1.length ≤ c9) (h16 : k30.C w A16 s.f9.length s.f9) (l16 : s.f9.length ≤ c16) (h17 : (Kd.int .i64).C w A17 s.f10.length s.f10) (l17 : s.f10.length ≤ c17) (b7 : s.f4.f1.length < 4611686018427387904) (b9 : s.f5.f1.length < 4611686018427387904) (h : s.f0 = 1) :
    Calls Try.prog 31 #[.agg #[.slice A0 l.length c0, .string f.f0, .slice A2 f.f1.length c2, .int .i64 f.f2, .int .i64 f.f3, .bool f.f4, .slice A6 f.f5.length c6], .agg #[.int .i64 s.f0, .int .i64 s.f1, .bool s.f2.f0, .int .i64 s.f2.f1, .bool s.f3.f0, .int .i64 s.f3.f1, .int .i64 s.f4.f0, .slice A7 s.f4.f1.length c7, .int .i64 s.f5.f0, .slice A9 s.f5.f1.length c9, .int .i64 s.f6, .string s.f7, .int .i64 s.f8.f0, .string s.f8.f1, .int .i64 s.f8.f2, .slice A15 s.f8.f3.length c15, .slice A16 s.f9.length c16, .slice A17 s.f10.length c17]] w fun e w' => e = .returned (.bool ((scB f.f1 s.f1 && opB f.f1 s.f2))) ∧ Below w.heap.size w w' := by
  cases t0 : scB f.f1 s.f1 with
  | false => simpa [t0] using in_1_0 l f A0 c0 A2 c2 A6 c6 s A7 A9 A15 A16 A17 c7 c9 c15 c16 c17 w H h7 l7 h9 l9 h16 l16 h17 l17 b7 b9 h t0
  | true =>
    simpa using in_1_1 l f A0 c0 A2 c2 A6 c6 s A7 A9 A15 A16 A17 c7 c9 c15 c16 c17 w H h7 l7 h9 l9 h16 l16 h17 l17 b7 b9 h t0
set_option maxRecDepth 100000 in
set_option maxHeartbeats 4000000 in
theorem in_2_0 (l : List S48) (f : S48) (A0 : Option Addr) (c0 : Nat) (A2 : Option Addr) (c2 : Nat) (A6 : Option Addr) (c6 : Nat) (s : S40) (A7 A9 A15 A16 A17 : Option Addr) (c7 c9 c15 c16 c17 : Nat) (w : World) (H : FA w l f A0 c0 A2 c2 A6 c6) (h7 : k57.C w A7 s.f4.f1.length s.f4.f1) (l7 : s.f4.f1.length ≤ c7) (h9 : k57.C w A9 s.f5.f1.length s.f5.f1) (l9 : s.f5.f1.length ≤ c9) (h16 : k30.C w A16 s.f9.length s.f9) (l16 : s.f9.length ≤ c16) (h17 : (Kd.int .i64).C w A17 s.f10.length s.f10) (l17 : s.f10.length ≤ c17) (b7 : s.f4.f1.length < 4611686018427387904) (b9 : s.f5.f1.length < 4611686018427387904) {r1 : Int} {r2 : Bool} (hdo : PMirFuel.mir_Do.f 3 s.f7 0 0 = some (r1, r2)) (h : s.f0 = 2) (t0 : scB f.f1 s.f1 = false) :
    Calls Try.prog 31 #[.agg #[.slice A0 l.length c0, .string f.f0, .slice A2 f.f1.length c2, .int .i64 f.f2, .int .i64 f.f3, .bool f.f4, .slice A6 f.f5.length c6], .agg #[.int .i64 s.f0, .int .i64 s.f1, .bool s.f2.f0, .int .i64 s.f2.f1, .bool s.f3.f0, .int .i64 s.f3.f1, .int .i64 s.f4.f0, .slice A7 s.f4.f1.length c7, .int .i64 s.f5.f0, .slice A9 s.f5.f1.length c9, .int .i64 s.f6, .string s.f7, .int .i64 s.f8.f0, .string s.f8.f1, .int .i64 s.f8.f2, .slice A15 s.f8.f3.length c15, .slice A16 s.f9.length c16, .slice A17 s.f10.length c17]] w fun e w' => e = .returned (.bool false) ∧ Below w.heap.size w w' := by
  have hu101 := Try.underlying101
  have hu40 := Try.underlying40
  have HF := Aside0.mk H
  have H7 := Aside0.mk h7
  have H9 := Aside0.mk h9
  have HL := Aside0.mk (And.intro l7 (And.intro l9 l16))
  have X := Aside0.mk (FB.new w #[.slice A0 l.length c0, .string f.f0, .slice A2 f.f1.length c2, .int .i64 f.f2, .int .i64 f.f3, .bool f.f4, .slice A6 f.f5.length c6] 101 #[.int .i64 s.f0, .int .i64 s.f1, .bool s.f2.f0, .int .i64 s.f2.f1, .bool s.f3.f0, .int .i64 s.f3.f1, .int .i64 s.f4.f0, .slice A7 s.f4.f1.length c7, .int .i64 s.f5.f0, .slice A9 s.f5.f1.length c9, .int .i64 s.f6, .string s.f7, .int .i64 s.f8.f0, .string s.f8.f1, .int .i64 s.f8.f2, .slice A15 s.f8.f3.length c15, .slice A16 s.f9.length c16, .slice A17 s.f10.length c17] 40)
  have m0 := X.out.b1.cell 0
  have m1 := X.out.b1.cell 1
  have m2 := X.out.b1.cell 2
  have m3 := X.out.b1.cell 3
  have m4 := X.out.b1.cell 4
  have m5 := X.out.b1.cell 5
  have m6 := X.out.b1.cell 6
  have n0 := X.out.b2.cell 0
  have n1 := X.out.b2.cell 1
  have n2 := X.out.b2.cell 2
  have n3 := X.out.b2.cell 3
  have n4 := X.out.b2.cell 4
  have n5 := X.out.b2.cell 5
  have n6 := X.out.b2.cell 6
  have n7 := X.out.b2.cell 7
  have n8 := X.out.b2.cell 8
  have n9 := X.out.b2.cell 9
  have n10 := X.out.b2.cell 10
  have n11 := X.out.b2.cell 11
  have n12 := X.out.b2.cell 12
  have n13 := X.out.b2.cell 13
  have n14 := X.out.b2.cell 14
  have n15 := X.out.b2.cell 15
  have n16 := X.out.b2.cell 16
  have n17 := X.out.b2.cell 17
  simp only [List.getElem?_toArray, List.getElem?_cons_zero, List.getElem?_cons_succ] at m0 m1 m2 m3 m4 m5 m6 n0 n1 n2 n3 n4 n5 n6 n7 n8 n9 n10 n11 n12 n13 n14 n15 n16 n17
  have d1 : (s.f0 == 1) = false := by simp [h]
  have d2 : (s.f0 == 2) = true := by simp [h]
  have d3 : (s.f0 == 3) = false := by simp [h]
  have d4 : (s.f0 == 4) = false := by simp [h]
  have d5 : (s.f0 == 5) = false := by simp [h]
  have d6 : (s.f0 == 6) = false := by simp [h]
  have d7 : (s.f0 == 7) = false := by simp [h]
  have d8 : (s.f0 == 8) = false := by simp [h]
  have d9 : (s.f0 == 9) = false := by simp [h]
  have d10 : (s.f0 == 10) = false := by simp [h]
  have d11 : (s.f0 == 11) = false := by simp [h]
  have d12 : (s.f0 == 12) = false := by simp [h]
  have d13 : (s.f0 == 13) = false := by simp [h]
  have d14 : (s.f0 == 14) = false := by simp [h]
  have d15 : (s.f0 == 15) = false := by simp [h]
  clear H h7 h9 h16 h17 l7 l9 l16 l17 h
  go_enter Try.func31, Try.ntmps31
  go_wp2_with (first | (go_at_call 59; with_reducible refine (PMirFuel.mir_Do.calls 3 s.f7 0 0 r1 r2 _ hdo).mono ?_; rintro e w5 ⟨rfl, hb0⟩; have hb := hb0.below; clear hb0; have XX := Aside0.mk (X.out.below hb); clear X; have X := XX; clear XX; have m0 := pw_cell_below hb m0; have m1 := pw_cell_below hb m1; have m2 := pw_cell_below hb m2; have m3 := pw_cell_below hb m3; have m4 := pw_cell_below hb m4; have m5 := pw_cell_below hb m5; have m6 := pw_cell_below hb m6; have n0 := pw_cell_below hb n0; have n1 := pw_cell_below hb n1; have n2 := pw_cell_below hb n2; have n3 := pw_cell_below hb n3; have n4 := pw_cell_below hb n4; have n5 := pw_cell_below hb n5; have n6 := pw_cell_below hb n6; have n7 := pw_cell_below hb n7; have n8 := pw_cell_below hb n8; have n9 := pw_cell_below hb n9; have n10 := pw_cell_below hb n10; have n11 := pw_cell_below hb n11; have n12 := pw_cell_below hb n12; have n13 := pw_cell_below hb n13; have n14 := pw_cell_below hb n14; have n15 := pw_cell_below hb n15; have n16 := pw_cell_below hb n16; have n17 := pw_cell_below hb n17; clear hb) | (go_at_call 57; with_reducible refine (sc_said (HF.out.below X.out.hb) s.f1).mono ?_; rintro e w5 ⟨rfl, hb⟩; have XX := Aside0.mk (X.out.below hb); clear X; have X := XX; clear XX; have m0 := pw_cell_below hb m0; have m1 := pw_cell_below hb m1; have m2 := pw_cell_below hb m2; have m3 := pw_cell_below hb m3; have m4 := pw_cell_below hb m4; have m5 := pw_cell_below hb m5; have m6 := pw_cell_below hb m6; have n0 := pw_cell_below hb n0; have n1 := pw_cell_below hb n1; have n2 := pw_cell_below hb n2; have n3 := pw_cell_below hb n3; have n4 := pw_cell_below hb n4; have n5 := pw_cell_below hb n5; have n6 := pw_cell_below hb n6; have n7 := pw_cell_below hb n7; have n8 := pw_cell_below hb n8; have n9 := pw_cell_below hb n9; have n10 := pw_cell_below hb n10; have n11 := pw_cell_below hb n11; have n12 := pw_cell_below hb n12; have n13 := pw_cell_below hb n13; have n14 := pw_cell_below hb n14; have n15 := pw_cell_below hb n15; have n16 := pw_cell_below hb n16; have n17 := pw_cell_below hb n17; clear hb))
  go_ret
  exact ⟨rfl, X.out.hb⟩
set_option maxRecDepth 100000 in
set_option maxHeartbeats 4000000 in
theorem in_2_1 (l : List S48) (f : S48) (A0 : Option Addr) (c0 : Nat) (A2 : Option Addr) (c2 : Nat) (A6 : Option Addr) (c6 : Nat) (s : S40) (A7 A9 A15 A16 A17 : Option Addr) (c7 c9 c15 c16 c17 : Nat) (w : World) (H : FA w l f A0 c0 A2 c2 A6 c6) (h7 : k57.C w A7 s.f4.f1.length s.f4.f1) (l7 : s.f4.f1.length ≤ c7) (h9 : k57.C w A9 s.f5.f1.length s.f5.f1) (l9 : s.f5.f1.length ≤ c9) (h16 : k30.C w A16 s.f9.length s.f9) (l16 : s.f9.length ≤ c16) (h17 : (Kd.int .i64).C w A17 s.f10.length s.f10) (l17 : s.f10.length ≤ c17) (b7 : s.f4.f1.length < 4611686018427387904) (b9 : s.f5.f1.length < 4611686018427387904) {r1 : Int} {r2 : Bool} (hdo : PMirFuel.mir_Do.f 3 s.f7 0 0 = some (r1, r2)) (h : s.f0 = 2) (t0 : scB f.f1 s.f1 = true) (t1 : opB f.f1 s.f2 = false) :
    Calls Try.prog 31 #[.agg #[.slice A0 l.length c0, .string f.f0, .slice A2 f.f1.length c2, .int .i64 f.f2, .int .i64 f.f3, .bool f.f4, .slice A6 f.f5.length c6], .agg #[.int .i64 s.f0, .int .i64 s.f1, .bool s.f2.f0, .int .i64 s.f2.f1, .bool s.f3.f0, .int .i64 s.f3.f1, .int .i64 s.f4.f0, .slice A7 s.f4.f1.length c7, .int .i64 s.f5.f0, .slice A9 s.f5.f1.length c9, .int .i64 s.f6, .string s.f7, .int .i64 s.f8.f0, .string s.f8.f1, .int .i64 s.f8.f2, .slice A15 s.f8.f3.length c15, .slice A16 s.f9.length c16, .slice A17 s.f10.length c17]] w fun e w' => e = .returned (.bool false) ∧ Below w.heap.size w w' := by
  have hu101 := Try.underlying101
  have hu40 := Try.underlying40
  have HF := Aside0.mk H
  have H7 := Aside0.mk h7
  have H9 := Aside0.mk h9
  have HL := Aside0.mk (And.intro l7 (And.intro l9 l16))
  have X := Aside0.mk (FB.new w #[.slice A0 l.length c0, .string f.f0, .slice A2 f.f1.length c2, .int .i64 f.f2, .int .i64 f.f3, .bool f.f4, .slice A6 f.f5.length c6] 101 #[.int .i64 s.f0, .int .i64 s.f1, .bool s.f2.f0, .int .i64 s.f2.f1, .bool s.f3.f0, .int .i64 s.f3.f1, .int .i64 s.f4.f0, .slice A7 s.f4.f1.length c7, .int .i64 s.f5.f0, .slice A9 s.f5.f1.length c9, .int .i64 s.f6, .string s.f7, .int .i64 s.f8.f0, .string s.f8.f1, .int .i64 s.f8.f2, .slice A15 s.f8.f3.length c15, .slice A16 s.f9.length c16, .slice A17 s.f10.length c17] 40)
  have m0 := X.out.b1.cell 0
  have m1 := X.out.b1.cell 1
  have m2 := X.out.b1.cell 2
  have m3 := X.out.b1.cell 3
  have m4 := X.out.b1.cell 4
  have m5 := X.out.b1.cell 5
  have m6 := X.out.b1.cell 6
  have n0 := X.out.b2.cell 0
  have n1 := X.out.b2.cell 1
  have n2 := X.out.b2.cell 2
  have n3 := X.out.b2.cell 3
  have n4 := X.out.b2.cell 4
  have n5 := X.out.b2.cell 5
  have n6 := X.out.b2.cell 6
  have n7 := X.out.b2.cell 7
  have n8 := X.out.b2.cell 8
  have n9 := X.out.b2.cell 9
  have n10 := X.out.b2.cell 10
  have n11 := X.out.b2.cell 11
  have n12 := X.out.b2.cell 12
  have n13 := X.out.b2.cell 13
  have n14 := X.out.b2.cell 14
  have n15 := X.out.b2.cell 15
  have n16 := X.out.b2.cell 16
  have n17 := X.out.b2.cell 17
  simp only [List.getElem?_toArray, List.getElem?_cons_zero, List.getElem?_cons_succ] at m0 m1 m2 m3 m4 m5 m6 n0 n1 n2 n3 n4 n5 n6 n7 n8 n9 n10 n11 n12 n13 n14 n15 n16 n17
  have d1 : (s.f0 == 1) = false := by simp [h]
  have d2 : (s.f0 == 2) = true := by simp [h]
  have d3 : (s.f0 == 3) = false := by simp [h]
  have d4 : (s.f0 == 4) = false := by simp [h]
  have d5 : (s.f0 == 5) = false := by simp [h]
  have d6 : (s.f0 == 6) = false := by simp [h]
  have d7 : (s.f0 == 7) = false := by simp [h]
  have d8 : (s.f0 == 8) = false := by simp [h]
  have d9 : (s.f0 == 9) = false := by simp [h]
  have d10 : (s.f0 == 10) = false := by simp [h]
  have d11 : (s.f0 == 11) = false := by simp [h]
  have d12 : (s.f0 == 12) = false := by simp [h]
  have d13 : (s.f0 == 13) = false := by simp [h]
  have d14 : (s.f0 == 14) = false := by simp [h]
  have d15 : (s.f0 == 15) = false := by simp [h]
  clear H h7 h9 h16 h17 l7 l9 l16 l17 h
  go_enter Try.func31, Try.ntmps31
  go_wp2_with (first | (go_at_call 59; with_reducible refine (PMirFuel.mir_Do.calls 3 s.f7 0 0 r1 r2 _ hdo).mono ?_; rintro e w5 ⟨rfl, hb0⟩; have hb := hb0.below; clear hb0; have XX := Aside0.mk (X.out.below hb); clear X; have X := XX; clear XX; have m0 := pw_cell_below hb m0; have m1 := pw_cell_below hb m1; have m2 := pw_cell_below hb m2; have m3 := pw_cell_below hb m3; have m4 := pw_cell_below hb m4; have m5 := pw_cell_below hb m5; have m6 := pw_cell_below hb m6; have n0 := pw_cell_below hb n0; have n1 := pw_cell_below hb n1; have n2 := pw_cell_below hb n2; have n3 := pw_cell_below hb n3; have n4 := pw_cell_below hb n4; have n5 := pw_cell_below hb n5; have n6 := pw_cell_below hb n6; have n7 := pw_cell_below hb n7; have n8 := pw_cell_below hb n8; have n9 := pw_cell_below hb n9; have n10 := pw_cell_below hb n10; have n11 := pw_cell_below hb n11; have n12 := pw_cell_below hb n12; have n13 := pw_cell_below hb n13; have n14 := pw_cell_below hb n14; have n15 := pw_cell_below hb n15; have n16 := pw_cell_below hb n16; have n17 := pw_cell_below hb n17; clear hb) | (go_at_call 57; with_reducible refine (sc_said (HF.out.below X.out.hb) s.f1).mono ?_; rintro e w5 ⟨rfl, hb⟩; have XX := Aside0.mk (X.out.below hb); clear X; have X := XX; clear XX; have m0 := pw_cell_below hb m0; have m1 := pw_cell_below hb m1; have m2 := pw_cell_below hb m2; have m3 := pw_cell_below hb m3; have m4 := pw_cell_below hb m4; have m5 := pw_cell_below hb m5; have m6 := pw_cell_below hb m6; have n0 := pw_cell_below hb n0; have n1 := pw_cell_below hb n1; have n2 := pw_cell_below hb n2; have n3 := pw_cell_below hb n3; have n4 := pw_cell_below hb n4; have n5 := pw_cell_below hb n5; have n6 := pw_cell_below hb n6; have n7 := pw_cell_below hb n7; have n8 := pw_cell_below hb n8; have n9 := pw_cell_below hb n9; have n10 := pw_cell_below hb n10; have n11 := pw_cell_below hb n11; have n12 := pw_cell_below hb n12; have n13 := pw_cell_below hb n13; have n14 := pw_cell_below hb n14; have n15 := pw_cell_below hb n15; have n16 := pw_cell_below hb n16; have n17 := pw_cell_below hb n17; clear hb) | (go_at_call 58; with_reducible refine (op_said (HF.out.below X.out.hb) s.f2).mono ?_; rintro e w5 ⟨rfl, hb⟩; have XX := Aside0.mk (X.out.below hb); clear X; have X := XX; clear XX; have m0 := pw_cell_below hb m0; have m1 := pw_cell_below hb m1; have m2 := pw_cell_below hb m2; have m3 := pw_cell_below hb m3; have m4 := pw_cell_below hb m4; have m5 := pw_cell_below hb m5; have m6 := pw_cell_below hb m6; have n0 := pw_cell_below hb n0; have n1 := pw_cell_below hb n1; have n2 := pw_cell_below hb n2; have n3 := pw_cell_below hb n3; have n4 := pw_cell_below hb n4; have n5 := pw_cell_below hb n5; have n6 := pw_cell_below hb n6; have n7 := pw_cell_below hb n7; have n8 := pw_cell_below hb n8; have n9 := pw_cell_below hb n9; have n10 := pw_cell_below hb n10; have n11 := pw_cell_below hb n11; have n12 := pw_cell_below hb n12; have n13 := pw_cell_below hb n13; have n14 := pw_cell_below hb n14; have n15 := pw_cell_below hb n15; have n16 := pw_cell_below hb n16; have n17 := pw_cell_below hb n17; clear hb))
  go_ret
  exact ⟨rfl, X.out.hb⟩
set_option maxRecDepth 100000 in
set_option maxHeartbeats 4000000 in
theorem in_2_2 (l : List S48) (f : S48) (A0 : Option Addr) (c0 : Nat) (A2 : Option Addr) (c2 : Nat) (A6 : Option Addr) (c6 : Nat) (s : S40) (A7 A9 A15 A16 A17 : Option Addr) (c7 c9 c15 c16 c17 : Nat) (w : World) (H : FA w l f A0 c0 A2 c2 A6 c6) (h7 : k57.C w A7 s.f4.f1.length s.f4.f1) (l7 : s.f4.f1.length ≤ c7) (h9 : k57.C w A9 s.f5.f1.length s.f5.f1) (l9 : s.f5.f1.length ≤ c9) (h16 : k30.C w A16 s.f9.length s.f9) (l16 : s.f9.length ≤ c16) (h17 : (Kd.int .i64).C w A17 s.f10.length s.f10) (l17 : s.f10.length ≤ c17) (b7 : s.f4.f1.length < 4611686018427387904) (b9 : s.f5.f1.length < 4611686018427387904) {r1 : Int} {r2 : Bool} (hdo : PMirFuel.mir_Do.f 3 s.f7 0 0 = some (r1, r2)) (h : s.f0 = 2) (t0 : scB f.f1 s.f1 = true) (t1 : opB f.f1 s.f2 = true) (t2 : opB f.f1 s.f3 = false) :
    Calls Try.prog 31 #[.agg #[.slice A0 l.length c0, .string f.f0, .slice A2 f.f1.length c2, .int .i64 f.f2, .int .i64 f.f3, .bool f.f4, .slice A6 f.f5.length c6], .agg #[.int .i64 s.f0, .int .i64 s.f1, .bool s.f2.f0, .int .i64 s.f2.f1, .bool s.f3.f0, .int .i64 s.f3.f1, .int .i64 s.f4.f0, .slice A7 s.f4.f1.length c7, .int .i64 s.f5.f0, .slice A9 s.f5.f1.length c9, .int .i64 s.f6, .string s.f7, .int .i64 s.f8.f0, .string s.f8.f1, .int .i64 s.f8.f2, .slice A15 s.f8.f3.length c15, .slice A16 s.f9.length c16, .slice A17 s.f10.length c17]] w fun e w' => e = .returned (.bool false) ∧ Below w.heap.size w w' := by
  have hu101 := Try.underlying101
  have hu40 := Try.underlying40
  have HF := Aside0.mk H
  have H7 := Aside0.mk h7
  have H9 := Aside0.mk h9
  have HL := Aside0.mk (And.intro l7 (And.intro l9 l16))
  have X := Aside0.mk (FB.new w #[.slice A0 l.length c0, .string f.f0, .slice A2 f.f1.length c2, .int .i64 f.f2, .int .i64 f.f3, .bool f.f4, .slice A6 f.f5.length c6] 101 #[.int .i64 s.f0, .int .i64 s.f1, .bool s.f2.f0, .int .i64 s.f2.f1, .bool s.f3.f0, .int .i64 s.f3.f1, .int .i64 s.f4.f0, .slice A7 s.f4.f1.length c7, .int .i64 s.f5.f0, .slice A9 s.f5.f1.length c9, .int .i64 s.f6, .string s.f7, .int .i64 s.f8.f0, .string s.f8.f1, .int .i64 s.f8.f2, .slice A15 s.f8.f3.length c15, .slice A16 s.f9.length c16, .slice A17 s.f10.length c17] 40)
  have m0 := X.out.b1.cell 0
  have m1 := X.out.b1.cell 1
  have m2 := X.out.b1.cell 2
  have m3 := X.out.b1.cell 3
  have m4 := X.out.b1.cell 4
  have m5 := X.out.b1.cell 5
  have m6 := X.out.b1.cell 6
  have n0 := X.out.b2.cell 0
  have n1 := X.out.b2.cell 1
  have n2 := X.out.b2.cell 2
  have n3 := X.out.b2.cell 3
  have n4 := X.out.b2.cell 4
  have n5 := X.out.b2.cell 5
  have n6 := X.out.b2.cell 6
  have n7 := X.out.b2.cell 7
  have n8 := X.out.b2.cell 8
  have n9 := X.out.b2.cell 9
  have n10 := X.out.b2.cell 10
  have n11 := X.out.b2.cell 11
  have n12 := X.out.b2.cell 12
  have n13 := X.out.b2.cell 13
  have n14 := X.out.b2.cell 14
  have n15 := X.out.b2.cell 15
  have n16 := X.out.b2.cell 16
  have n17 := X.out.b2.cell 17
  simp only [List.getElem?_toArray, List.getElem?_cons_zero, List.getElem?_cons_succ] at m0 m1 m2 m3 m4 m5 m6 n0 n1 n2 n3 n4 n5 n6 n7 n8 n9 n10 n11 n12 n13 n14 n15 n16 n17
  have d1 : (s.f0 == 1) = false := by simp [h]
  have d2 : (s.f0 == 2) = true := by simp [h]
  have d3 : (s.f0 == 3) = false := by simp [h]
  have d4 : (s.f0 == 4) = false := by simp [h]
  have d5 : (s.f0 == 5) = false := by simp [h]
  have d6 : (s.f0 == 6) = false := by simp [h]
  have d7 : (s.f0 == 7) = false := by simp [h]
  have d8 : (s.f0 == 8) = false := by simp [h]
  have d9 : (s.f0 == 9) = false := by simp [h]
  have d10 : (s.f0 == 10) = false := by simp [h]
  have d11 : (s.f0 == 11) = false := by simp [h]
  have d12 : (s.f0 == 12) = false := by simp [h]
  have d13 : (s.f0 == 13) = false := by simp [h]
  have d14 : (s.f0 == 14) = false := by simp [h]
  have d15 : (s.f0 == 15) = false := by simp [h]
  clear H h7 h9 h16 h17 l7 l9 l16 l17 h
  go_enter Try.func31, Try.ntmps31
  go_wp2_with (first | (go_at_call 59; with_reducible refine (PMirFuel.mir_Do.calls 3 s.f7 0 0 r1 r2 _ hdo).mono ?_; rintro e w5 ⟨rfl, hb0⟩; have hb := hb0.below; clear hb0; have XX := Aside0.mk (X.out.below hb); clear X; have X := XX; clear XX; have m0 := pw_cell_below hb m0; have m1 := pw_cell_below hb m1; have m2 := pw_cell_below hb m2; have m3 := pw_cell_below hb m3; have m4 := pw_cell_below hb m4; have m5 := pw_cell_below hb m5; have m6 := pw_cell_below hb m6; have n0 := pw_cell_below hb n0; have n1 := pw_cell_below hb n1; have n2 := pw_cell_below hb n2; have n3 := pw_cell_below hb n3; have n4 := pw_cell_below hb n4; have n5 := pw_cell_below hb n5; have n6 := pw_cell_below hb n6; have n7 := pw_cell_below hb n7; have n8 := pw_cell_below hb n8; have n9 := pw_cell_below hb n9; have n10 := pw_cell_below hb n10; have n11 := pw_cell_below hb n11; have n12 := pw_cell_below hb n12; have n13 := pw_cell_below hb n13; have n14 := pw_cell_below hb n14; have n15 := pw_cell_below hb n15; have n16 := pw_cell_below hb n16; have n17 := pw_cell_below hb n17; clear hb) | (go_at_call 57; with_reducible refine (sc_said (HF.out.below X.out.hb) s.f1).mono ?_; rintro e w5 ⟨rfl, hb⟩; have XX := Aside0.mk (X.out.below hb); clear X; have X := XX; clear XX; have m0 := pw_cell_below hb m0; have m1 := pw_cell_below hb m1; have m2 := pw_cell_below hb m2; have m3 := pw_cell_below hb m3; have m4 := pw_cell_below hb m4; have m5 := pw_cell_below hb m5; have m6 := pw_cell_below hb m6; have n0 := pw_cell_below hb n0; have n1 := pw_cell_below hb n1; have n2 := pw_cell_below hb n2; have n3 := pw_cell_below hb n3; have n4 := pw_cell_below hb n4; have n5 := pw_cell_below hb n5; have n6 := pw_cell_below hb n6; have n7 := pw_cell_below hb n7; have n8 := pw_cell_below hb n8; have n9 := pw_cell_below hb n9; have n10 := pw_cell_below hb n10; have n11 := pw_cell_below hb n11; have n12 := pw_cell_below hb n12; have n13 := pw_cell_below hb n13; have n14 := pw_cell_below hb n14; have n15 := pw_cell_below hb n15; have n16 := pw_cell_below hb n16; have n17 := pw_cell_below hb n17; clear hb) | (go_at_call 58; with_reducible refine (op_said (HF.out.below X.out.hb) s.f2).mono ?_; rintro e w5 ⟨rfl, hb⟩; have XX := Aside0.mk (X.out.below hb); clear X; have X := XX; clear XX; have m0 := pw_cell_below hb m0; have m1 := pw_cell_below hb m1; have m2 := pw_cell_below hb m2; have m3 := pw_cell_below hb m3; have m4 := pw_cell_below hb m4; have m5 := pw_cell_below hb m5; have m6 := pw_cell_below hb m6; have n0 := pw_cell_below hb n0; have n1 := pw_cell_below hb n1; have n2 := pw_cell_below hb n2; have n3 := pw_cell_below hb n3; have n4 := pw_cell_below hb n4; have n5 := pw_cell_below hb n5; have n6 := pw_cell_below hb n6; have n7 := pw_cell_below hb n7; have n8 := pw_cell_below hb n8; have n9 := pw_cell_below hb n9; have n10 := pw_cell_below hb n10; have n11 := pw_cell_below hb n11; have n12 := pw_cell_below hb n12; have n13 := pw_cell_below hb n13; have n14 := pw_cell_below hb n14; have n15 := pw_cell_below hb n15; have n16 := pw_cell_below hb n16; have n17 := pw_cell_below hb n17; clear hb) | (go_at_call 58; with_reducible refine (op_said (HF.out.below X.out.hb) s.f3).mono ?_; rintro e w5 ⟨rfl, hb⟩; have XX := Aside0.mk (X.out.below hb); clear X; have X := XX; clear XX; have m0 := pw_cell_below hb m0; have m1 := pw_cell_below hb m1; have m2 := pw_cell_below hb m2; have m3 := pw_cell_below hb m3; have m4 := pw_cell_below hb m4; have m5 := pw_cell_below hb m5; have m6 := pw_cell_below hb m6; have n0 := pw_cell_below hb n0; have n1 := pw_cell_below hb n1; have n2 := pw_cell_below hb n2; have n3 := pw_cell_below hb n3; have n4 := pw_cell_below hb n4; have n5 := pw_cell_below hb n5; have n6 := pw_cell_below hb n6; have n7 := pw_cell_below hb n7; have n8 := pw_cell_below hb n8; have n9 := pw_cell_below hb n9; have n10 := pw_cell_below hb n10; have n11 := pw_cell_below hb n11; have n12 := pw_cell_below hb n12; have n13 := pw_cell_below hb n13; have n14 := pw_cell_below hb n14; have n15 := pw_cell_below hb n15; have n16 := pw_cell_below hb n16; have n17 := pw_cell_below hb n17; clear hb))
  go_ret
  exact ⟨rfl, X.out.hb⟩
set_option maxRecDepth 100000 in
set_option maxHeartbeats 4000000 in
theorem in_2_3 (l : List S48) (f : S48) (A0 : Option Addr) (c0 : Nat) (A2 : Option Addr) (c2 : Nat) (A6 : Option Addr) (c6 : Nat) (s : S40) (A7 A9 A15 A16 A17 : Option Addr) (c7 c9 c15 c16 c17 : Nat) (w : World) (H : FA w l f A0 c0 A2 c2 A6 c6) (h7 : k57.C w A7 s.f4.f1.length s.f4.f1) (l7 : s.f4.f1.length ≤ c7) (h9 : k57.C w A9 s.f5.f1.length s.f5.f1) (l9 : s.f5.f1.length ≤ c9) (h16 : k30.C w A16 s.f9.length s.f9) (l16 : s.f9.length ≤ c16) (h17 : (Kd.int .i64).C w A17 s.f10.length s.f10) (l17 : s.f10.length ≤ c17) (b7 : s.f4.f1.length < 4611686018427387904) (b9 : s.f5.f1.length < 4611686018427387904) {r1 : Int} {r2 : Bool} (hdo : PMirFuel.mir_Do.f 3 s.f7 0 0 = some (r1, r2)) (h : s.f0 = 2) (t0 : scB f.f1 s.f1 = true) (t1 : opB f.f1 s.f2 = true) (t2 : opB f.f1 s.f3 = true) :
    Calls Try.prog 31 #[.agg #[.slice A0 l.length c0, .string f.f0, .slice A2 f.f1.length c2, .int .i64 f.f2, .int .i64 f.f3, .bool f.f4, .slice A6 f.f5.length c6], .agg #[.int .i64 s.f0, .int .i64 s.f1, .bool s.f2.f0, .int .i64 s.f2.f1, .bool s.f3.f0, .int .i64 s.f3.f1, .int .i64 s.f4.f0, .slice A7 s.f4.f1.length c7, .int .i64 s.f5.f0, .slice A9 s.f5.f1.length c9, .int .i64 s.f6, .string s.f7, .int .i64 s.f8.f0, .string s.f8.f1, .int .i64 s.f8.f2, .slice A15 s.f8.f3.length c15, .slice A16 s.f9.length c16, .slice A17 s.f10.length c17]] w fun e w' => e = .returned (.bool (r2)) ∧ Below w.heap.size w w' := by
  have hu101 := Try.underlying101
  have hu40 := Try.underlying40
  have HF := Aside0.mk H
  have H7 := Aside0.mk h7
  have H9 := Aside0.mk h9
  have HL := Aside0.mk (And.intro l7 (And.intro l9 l16))
  have X := Aside0.mk (FB.new w #[.slice A0 l.length c0, .string f.f0, .slice A2 f.f1.length c2, .int .i64 f.f2, .int .i64 f.f3, .bool f.f4, .slice A6 f.f5.length c6] 101 #[.int .i64 s.f0, .int .i64 s.f1, .bool s.f2.f0, .int .i64 s.f2.f1, .bool s.f3.f0, .int .i64 s.f3.f1, .int .i64 s.f4.f0, .slice A7 s.f4.f1.length c7, .int .i64 s.f5.f0, .slice A9 s.f5.f1.length c9, .int .i64 s.f6, .string s.f7, .int .i64 s.f8.f0, .string s.f8.f1, .int .i64 s.f8.f2, .slice A15 s.f8.f3.length c15, .slice A16 s.f9.length c16, .slice A17 s.f10.length c17] 40)
  have m0 := X.out.b1.cell 0
  have m1 := X.out.b1.cell 1
  have m2 := X.out.b1.cell 2
  have m3 := X.out.b1.cell 3
  have m4 := X.out.b1.cell 4
  have m5 := X.out.b1.cell 5
  have m6 := X.out.b1.cell 6
  have n0 := X.out.b2.cell 0
  have n1 := X.out.b2.cell 1
  have n2 := X.out.b2.cell 2
  have n3 := X.out.b2.cell 3
  have n4 := X.out.b2.cell 4
  have n5 := X.out.b2.cell 5
  have n6 := X.out.b2.cell 6
  have n7 := X.out.b2.cell 7
  have n8 := X.out.b2.cell 8
  have n9 := X.out.b2.cell 9
  have n10 := X.out.b2.cell 10
  have n11 := X.out.b2.cell 11
  have n12 := X.out.b2.cell 12
  have n13 := X.out.b2.cell 13
  have n14 := X.out.b2.cell 14
  have n15 := X.out.b2.cell 15
  have n16 := X.out.b2.cell 16
  have n17 := X.out.b2.cell 17
  simp only [List.getElem?_toArray, List.getElem?_cons_zero, List.getElem?_cons_succ] at m0 m1 m2 m3 m4 m5 m6 n0 n1 n2 n3 n4 n5 n6 n7 n8 n9 n10 n11 n12 n13 n14 n15 n16 n17
  have d1 : (s.f0 == 1) = false := by simp [h]
  have d2 : (s.f0 == 2) = true := by simp [h]
  have d3 : (s.f0 == 3) = false := by simp [h]
  have d4 : (s.f0 == 4) = false := by simp [h]
  have d5 : (s.f0 == 5) = false := by simp [h]
  have d6 : (s.f0 == 6) = false := by simp [h]
  have d7 : (s.f0 == 7) = false := by simp [h]
  have d8 : (s.f0 == 8) = false := by simp [h]
  have d9 : (s.f0 == 9) = false := by simp [h]
  have d10 : (s.f0 == 10) = false := by simp [h]
  have d11 : (s.f0 == 11) = false := by simp [h]
  have d12 : (s.f0 == 12) = false := by simp [h]
  have d13 : (s.f0 == 13) = false := by simp [h]
  have d14 : (s.f0 == 14) = false := by simp [h]
  have d15 : (s.f0 == 15) = false := by simp [h]
  clear H h7 h9 h16 h17 l7 l9 l16 l17 h
  go_enter Try.func31, Try.ntmps31
  go_wp2_with (first | (go_at_call 59; with_reducible refine (PMirFuel.mir_Do.calls 3 s.f7 0 0 r1 r2 _ hdo).mono ?_; rintro e w5 ⟨rfl, hb0⟩; have hb := hb0.below; clear hb0; have XX := Aside0.mk (X.out.below hb); clear X; have X := XX; clear XX; have m0 := pw_cell_below hb m0; have m1 := pw_cell_below hb m1; have m2 := pw_cell_below hb m2; have m3 := pw_cell_below hb m3; have m4 := pw_cell_below hb m4; have m5 := pw_cell_below hb m5; have m6 := pw_cell_below hb m6; have n0 := pw_cell_below hb n0; have n1 := pw_cell_below hb n1; have n2 := pw_cell_below hb n2; have n3 := pw_cell_below hb n3; have n4 := pw_cell_below hb n4; have n5 := pw_cell_below hb n5; have n6 := pw_cell_below hb n6; have n7 := pw_cell_below hb n7; have n8 := pw_cell_below hb n8; have n9 := pw_cell_below hb n9; have n10 := pw_cell_below hb n10; have n11 := pw_cell_below hb n11; have n12 := pw_cell_below hb n12; have n13 := pw_cell_below hb n13; have n14 := pw_cell_below hb n14; have n15 := pw_cell_below hb n15; have n16 := pw_cell_below hb n16; have n17 := pw_cell_below hb n17; clear hb) | (go_at_call 57; with_reducible refine (sc_said (HF.out.below X.out.hb) s.f1).mono ?_; rintro e w5 ⟨rfl, hb⟩; have XX := Aside0.mk (X.out.below hb); clear X; have X := XX; clear XX; have m0 := pw_cell_below hb m0; have m1 := pw_cell_below hb m1; have m2 := pw_cell_below hb m2; have m3 := pw_cell_below hb m3; have m4 := pw_cell_below hb m4; have m5 := pw_cell_below hb m5; have m6 := pw_cell_below hb m6; have n0 := pw_cell_below hb n0; have n1 := pw_cell_below hb n1; have n2 := pw_cell_below hb n2; have n3 := pw_cell_below hb n3; have n4 := pw_cell_below hb n4; have n5 := pw_cell_below hb n5; have n6 := pw_cell_below hb n6; have n7 := pw_cell_below hb n7; have n8 := pw_cell_below hb n8; have n9 := pw_cell_below hb n9; have n10 := pw_cell_below hb n10; have n11 := pw_cell_below hb n11; have n12 := pw_cell_below hb n12; have n13 := pw_cell_below hb n13; have n14 := pw_cell_below hb n14; have n15 := pw_cell_below hb n15; have n16 := pw_cell_below hb n16; have n17 := pw_cell_below hb n17; clear hb) | (go_at_call 58; with_reducible refine (op_said (HF.out.below X.out.hb) s.f2).mono ?_; rintro e w5 ⟨rfl, hb⟩; have XX := Aside0.mk (X.out.below hb); clear X; have X := XX; clear XX; have m0 := pw_cell_below hb m0; have m1 := pw_cell_below hb m1; have m2 := pw_cell_below hb m2; have m3 := pw_cell_below hb m3; have m4 := pw_cell_below hb m4; have m5 := pw_cell_below hb m5; have m6 := pw_cell_below hb m6; have n0 := pw_cell_below hb n0; have n1 := pw_cell_below hb n1; have n2 := pw_cell_below hb n2; have n3 := pw_cell_below hb n3; have n4 := pw_cell_below hb n4; have n5 := pw_cell_below hb n5; have n6 := pw_cell_below hb n6; have n7 := pw_cell_below hb n7; have n8 := pw_cell_below hb n8; have n9 := pw_cell_below hb n9; have n10 := pw_cell_below hb n10; have n11 := pw_cell_below hb n11; have n12 := pw_cell_below hb n12; have n13 := pw_cell_below hb n13; have n14 := pw_cell_below hb n14; have n15 := pw_cell_below hb n15; have n16 := pw_cell_below hb n16; have n17 := pw_cell_below hb n17; clear hb) | (go_at_call 58; with_reducible refine (op_said (HF.out.below X.out.hb) s.f3).mono ?_; rintro e w5 ⟨rfl, hb⟩; have XX := Aside0.mk (X.out.below hb); clear X; have X := XX; clear XX; have m0 := pw_cell_below hb m0; have m1 := pw_cell_below hb m1; have m2 := pw_cell_below hb m2; have m3 := pw_cell_below hb m3; have m4 := pw_cell_below hb m4; have m5 := pw_cell_below hb m5; have m6 := pw_cell_below hb m6; have n0 := pw_cell_below hb n0; have n1 := pw_cell_below hb n1; have n2 := pw_cell_below hb n2; have n3 := pw_cell_below hb n3; have n4 := pw_cell_below hb n4; have n5 := pw_cell_below hb n5; have n6 := pw_cell_below hb n6; have n7 := pw_cell_below hb n7; have n8 := pw_cell_below hb n8; have n9 := pw_cell_below hb n9; have n10 := pw_cell_below hb n10; have n11 := pw_cell_below hb n11; have n12 := pw_cell_below hb n12; have n13 := pw_cell_below hb n13; have n14 := pw_cell_below hb n14; have n15 := pw_cell_below hb n15; have n16 := pw_cell_below hb n16; have n17 := pw_cell_below hb n17; clear hb))
  go_ret
  exact ⟨rfl, X.out.hb⟩
theorem in_2 (l : List S48) (f : S48) (A0 : Option Addr) (c0 : Nat) (A2 : Option Addr) (c2 : Nat) (A6 : Option Addr) (c6 : Nat) (s : S40) (A7 A9 A15 A16 A17 : Option Addr) (c7 c9 c15 c16 c17 : Nat) (w : World) (H : FA w l f A0 c0 A2 c2 A6 c6) (h7 : k57.C w A7 s.f4.f1.length s.f4.f1) (l7 : s.f4.f1.length ≤ c7) (h9 : k57.C w A9 s.f5.f1.length s.f5.f1) (l9 : s.f5.f1.length ≤ c9) (h16 : k30.C w A16 s.f9.length s.f9) (l16 : s.f9.length ≤ c16) (h17 : (Kd.int .i64).C w A17 s.f10.length s.f10) (l17 : s.f10.length ≤ c17) (b7 : s.f4.f1.length < 4611686018427387904) (b9 : s.f5.f1.length < 4611686018427387904) {r1 : Int} {r2 : Bool} (hdo : PMirFuel.mir_Do.f 3 s.f7 0 0 = some (r1, r2)) (h : s.f0 = 2) :
    Calls Try.prog 31 #[.agg #[.slice A0 l.length c0, .string f.f0, .slice A2 f.f1.length c2, .int .i64 f.f2, .int .i64 f.f3, .bool f.f4, .slice A6 f.f5.length c6], .agg #[.int .i64 s.f0, .int .i64 s.f1, .bool s.f2.f0, .int .i64 s.f2.f1, .bool s.f3.f0, .int .i64 s.f3.f1, .int .i64 s.f4.f0, .slice A7 s.f4.f1.length c7, .int .i64 s.f5.f0, .slice A9 s.f5.f1.length c9, .int .i64 s.f6, .string s.f7, .int .i64 s.f8.f0, .string s.f8.f1, .int .i64 s.f8.f2, .slice A15 s.f8.f3.length c15, .slice A16 s.f9.length c16, .slice A17 s.f10.length c17]] w fun e w' => e = .returned (.bool ((scB f.f1 s.f1 && (opB f.f1 s.f2 && (opB f.f1 s.f3 && r2))))) ∧ Below w.heap.size w w' := by
  cases t0 : scB f.f1 s.f1 with
  | false => simpa [t0] using in_2_0 l f A0 c0 A2 c2 A6 c6 s A7 A9 A15 A16 A17 c7 c9 c15 c16 c17 w H h7 l7 h9 l9 h16 l16 h17 l17 b7 b9 hdo h t0
  | true =>
    cases t1 : opB f.f1 s.f2 with
    | false => simpa [t1] using in_2_1 l f A0 c0 A2 c2 A6 c6 s A7 A9 A15 A16 A17 c7 c9 c15 c16 c17 w H h7 l7 h9 l9 h16 l16 h17 l17 b7 b9 hdo h t0 t1
    | true =>
      cases t2 : opB f.f1 s.f3 with
      | false => simpa [t2] using in_2_2 l f A0 c0 A2 c2 A6 c6 s A7 A9 A15 A16 A17 c7 c9 c15 c16 c17 w H h7 l7 h9 l9 h16 l16 h17 l17 b7 b9 hdo h t0 t1 t2
      | true =>
        simpa using in_2_3 l f A0 c0 A2 c2 A6 c6 s A7 A9 A15 A16 A17 c7 c9 c15 c16 c17 w H h7 l7 h9 l9 h16 l16 h17 l17 b7 b9 hdo h t0 t1 t2
set_option maxRecDepth 100000 in
set_option maxHeartbeats 4000000 in
theorem in_3_0 (l : List S48) (f : S48) (A0 : Option Addr) (c0 : Nat) (A2 : Option Addr) (c2 : Nat) (A6 : Option Addr) (c6 : Nat) (s : S40) (A7 A9 A15 A16 A17 : Option Addr) (c7 c9 c15 c16 c17 : Nat) (w : World) (H : FA w l f A0 c0 A2 c2 A6 c6) (h7 : k57.C w A7 s.f4.f1.length s.f4.f1) (l7 : s.f4.f1.length ≤ c7) (h9 : k57.C w A9 s.f5.f1.length s.f5.f1) (l9 : s.f5.f1.length ≤ c9) (h16 : k30.C w A16 s.f9.length s.f9) (l16 : s.f9.length ≤ c16) (h17 : (Kd.int .i64).C w A17 s.f10.length s.f10) (l17 : s.f10.length ≤ c17) (b7 : s.f4.f1.length < 4611686018427387904) (b9 : s.f5.f1.length < 4611686018427387904) (h : s.f0 = 3) (t0 : scB f.f1 s.f1 = false) :
    Calls Try.prog 31 #[.agg #[.slice A0 l.length c0, .string f.f0, .slice A2 f.f1.length c2, .int .i64 f.f2, .int .i64 f.f3, .bool f.f4, .slice A6 f.f5.length c6], .agg #[.int .i64 s.f0, .int .i64 s.f1, .bool s.f2.f0, .int .i64 s.f2.f1, .bool s.f3.f0, .int .i64 s.f3.f1, .int .i64 s.f4.f0, .slice A7 s.f4.f1.length c7, .int .i64 s.f5.f0, .slice A9 s.f5.f1.length c9, .int .i64 s.f6, .string s.f7, .int .i64 s.f8.f0, .string s.f8.f1, .int .i64 s.f8.f2, .slice A15 s.f8.f3.length c15, .slice A16 s.f9.length c16, .slice A17 s.f10.length c17]] w fun e w' => e = .returned (.bool false) ∧ Below w.heap.size w w' := by
  have hu101 := Try.underlying101
  have hu40 := Try.underlying40
  have HF := Aside0.mk H
  have H7 := Aside0.mk h7
  have H9 := Aside0.mk h9
  have HL := Aside0.mk (And.intro l7 (And.intro l9 l16))
  have X := Aside0.mk (FB.new w #[.slice A0 l.length c0, .string f.f0, .slice A2 f.f1.length c2, .int .i64 f.f2, .int .i64 f.f3, .bool f.f4, .slice A6 f.f5.length c6] 101 #[.int .i64 s.f0, .int .i64 s.f1, .bool s.f2.f0, .int .i64 s.f2.f1, .bool s.f3.f0, .int .i64 s.f3.f1, .int .i64 s.f4.f0, .slice A7 s.f4.f1.length c7, .int .i64 s.f5.f0, .slice A9 s.f5.f1.length c9, .int .i64 s.f6, .string s.f7, .int .i64 s.f8.f0, .string s.f8.f1, .int .i64 s.f8.f2, .slice A15 s.f8.f3.length c15, .slice A16 s.f9.length c16, .slice A17 s.f10.length c17] 40)
  have m0 := X.out.b1.cell 0
  have m1 := X.out.b1.cell 1
  have m2 := X.out.b1.cell 2
  have m3 := X.out.b1.cell 3
  have m4 := X.out.b1.cell 4
  have m5 := X.out.b1.cell 5
  have m6 := X.out.b1.cell 6
  have n0 := X.out.b2.cell 0
  have n1 := X.out.b2.cell 1
  have n2 := X.out.b2.cell 2
  have n3 := X.out.b2.cell 3
  have n4 := X.out.b2.cell 4
  have n5 := X.out.b2.cell 5
  have n6 := X.out.b2.cell 6
  have n7 := X.out.b2.cell 7
  have n8 := X.out.b2.cell 8
  have n9 := X.out.b2.cell 9
  have n10 := X.out.b2.cell 10
  have n11 := X.out.b2.cell 11
  have n12 := X.out.b2.cell 12
  have n13 := X.out.b2.cell 13
  have n14 := X.out.b2.cell 14
  have n15 := X.out.b2.cell 15
  have n16 := X.out.b2.cell 16
  have n17 := X.out.b2.cell 17
  simp only [List.getElem?_toArray, List.getElem?_cons_zero, List.getElem?_cons_succ] at m0 m1 m2 m3 m4 m5 m6 n0 n1 n2 n3 n4 n5 n6 n7 n8 n9 n10 n11 n12 n13 n14 n15 n16 n17
  have d1 : (s.f0 == 1) = false := by simp [h]
  have d2 : (s.f0 == 2) = false := by simp [h]
  have d3 : (s.f0 == 3) = true := by simp [h]
  have d4 : (s.f0 == 4) = false := by simp [h]
  have d5 : (s.f0 == 5) = false := by simp [h]
  have d6 : (s.f0 == 6) = false := by simp [h]
  have d7 : (s.f0 == 7) = false := by simp [h]
  have d8 : (s.f0 == 8) = false := by simp [h]
  have d9 : (s.f0 == 9) = false := by simp [h]
  have d10 : (s.f0 == 10) = false := by simp [h]
  have d11 : (s.f0 == 11) = false := by simp [h]
  have d12 : (s.f0 == 12) = false := by simp [h]
  have d13 : (s.f0 == 13) = false := by simp [h]
  have d14 : (s.f0 == 14) = false := by simp [h]
  have d15 : (s.f0 == 15) = false := by simp [h]
  clear H h7 h9 h16 h17 l7 l9 l16 l17 h
  go_enter Try.func31, Try.ntmps31
  go_wp2_with (go_at_call 57; with_reducible refine (sc_said (HF.out.below X.out.hb) s.f1).mono ?_; rintro e w5 ⟨rfl, hb⟩; have XX := Aside0.mk (X.out.below hb); clear X; have X := XX; clear XX; have m0 := pw_cell_below hb m0; have m1 := pw_cell_below hb m1; have m2 := pw_cell_below hb m2; have m3 := pw_cell_below hb m3; have m4 := pw_cell_below hb m4; have m5 := pw_cell_below hb m5; have m6 := pw_cell_below hb m6; have n0 := pw_cell_below hb n0; have n1 := pw_cell_below hb n1; have n2 := pw_cell_below hb n2; have n3 := pw_cell_below hb n3; have n4 := pw_cell_below hb n4; have n5 := pw_cell_below hb n5; have n6 := pw_cell_below hb n6; have n7 := pw_cell_below hb n7; have n8 := pw_cell_below hb n8; have n9 := pw_cell_below hb n9; have n10 := pw_cell_below hb n10; have n11 := pw_cell_below hb n11; have n12 := pw_cell_below hb n12; have n13 := pw_cell_below hb n13; have n14 := pw_cell_below hb n14; have n15 := pw_cell_below hb n15; have n16 := pw_cell_below hb n16; have n17 := pw_cell_below hb n17; clear hb)
  go_ret
  exact ⟨rfl, X.out.hb⟩
set_option maxRecDepth 100000 in
set_option maxHeartbeats 4000000 in
theorem in_3_1 (l : List S48) (f : S48) (A0 : Option Addr) (c0 : Nat) (A2 : Option Addr) (c2 : Nat) (A6 : Option Addr) (c6 : Nat) (s : S40) (A7 A9 A15 A16 A17 : Option Addr) (c7 c9 c15 c16 c17 : Nat) (w : World) (H : FA w l f A0 c0 A2 c2 A6 c6) (h7 : k57.C w A7 s.f4.f1.length s.f4.f1) (l7 : s.f4.f1.length ≤ c7) (h9 : k57.C w A9 s.f5.f1.length s.f5.f1) (l9 : s.f5.f1.length ≤ c9) (h16 : k30.C w A16 s.f9.length s.f9) (l16 : s.f9.length ≤ c16) (h17 : (Kd.int .i64).C w A17 s.f10.length s.f10) (l17 : s.f10.length ≤ c17) (b7 : s.f4.f1.length < 4611686018427387904) (b9 : s.f5.f1.length < 4611686018427387904) (h : s.f0 = 3) (t0 : scB f.f1 s.f1 = true) :
    Calls Try.prog 31 #[.agg #[.slice A0 l.length c0, .string f.f0, .slice A2 f.f1.length c2, .int .i64 f.f2, .int .i64 f.f3, .bool f.f4, .slice A6 f.f5.length c6], .agg #[.int .i64 s.f0, .int .i64 s.f1, .bool s.f2.f0, .int .i64 s.f2.f1, .bool s.f3.f0, .int .i64 s.f3.f1, .int .i64 s.f4.f0, .slice A7 s.f4.f1.length c7, .int .i64 s.f5.f0, .slice A9 s.f5.f1.length c9, .int .i64 s.f6, .string s.f7, .int .i64 s.f8.f0, .string s.f8.f1, .int .i64 s.f8.f2, .slice A15 s.f8.f3.length c15, .slice A16 s.f9.length c16, .slice A17 s.f10.length c17]] w fun e w' => e = .returned (.bool (plB f.f1 s.f4)) ∧ Below w.heap.size w w' := by
  have hu101 := Try.underlying101
  have hu40 := Try.underlying40
  have HF := Aside0.mk H
  have H7 := Aside0.mk h7
  have H9 := Aside0.mk h9
  have HL := Aside0.mk (And.intro l7 (And.intro l9 l16))
  have X := Aside0.mk (FB.new w #[.slice A0 l.length c0, .string f.f0, .slice A2 f.f1.length c2, .int .i64 f.f2, .int .i64 f.f3, .bool f.f4, .slice A6 f.f5.length c6] 101 #[.int .i64 s.f0, .int .i64 s.f1, .bool s.f2.f0, .int .i64 s.f2.f1, .bool s.f3.f0, .int .i64 s.f3.f1, .int .i64 s.f4.f0, .slice A7 s.f4.f1.length c7, .int .i64 s.f5.f0, .slice A9 s.f5.f1.length c9, .int .i64 s.f6, .string s.f7, .int .i64 s.f8.f0, .string s.f8.f1, .int .i64 s.f8.f2, .slice A15 s.f8.f3.length c15, .slice A16 s.f9.length c16, .slice A17 s.f10.length c17] 40)
  have m0 := X.out.b1.cell 0
  have m1 := X.out.b1.cell 1
  have m2 := X.out.b1.cell 2
  have m3 := X.out.b1.cell 3
  have m4 := X.out.b1.cell 4
  have m5 := X.out.b1.cell 5
  have m6 := X.out.b1.cell 6
  have n0 := X.out.b2.cell 0
  have n1 := X.out.b2.cell 1
  have n2 := X.out.b2.cell 2
  have n3 := X.out.b2.cell 3
  have n4 := X.out.b2.cell 4
  have n5 := X.out.b2.cell 5
  have n6 := X.out.b2.cell 6
  have n7 := X.out.b2.cell 7
  have n8 := X.out.b2.cell 8
  have n9 := X.out.b2.cell 9
  have n10 := X.out.b2.cell 10
  have n11 := X.out.b2.cell 11
  have n12 := X.out.b2.cell 12
  have n13 := X.out.b2.cell 13
  have n14 := X.out.b2.cell 14
  have n15 := X.out.b2.cell 15
  have n16 := X.out.b2.cell 16
  have n17 := X.out.b2.cell 17
  simp only [List.getElem?_toArray, List.getElem?_cons_zero, List.getElem?_cons_succ] at m0 m1 m2 m3 m4 m5 m6 n0 n1 n2 n3 n4 n5 n6 n7 n8 n9 n10 n11 n12 n13 n14 n15 n16 n17
  have d1 : (s.f0 == 1) = false := by simp [h]
  have d2 : (s.f0 == 2) = false := by simp [h]
  have d3 : (s.f0 == 3) = true := by simp [h]
  have d4 : (s.f0 == 4) = false := by simp [h]
  have d5 : (s.f0 == 5) = false := by simp [h]
  have d6 : (s.f0 == 6) = false := by simp [h]
  have d7 : (s.f0 == 7) = false := by simp [h]
  have d8 : (s.f0 == 8) = false := by simp [h]
  have d9 : (s.f0 == 9) = false := by simp [h]
  have d10 : (s.f0 == 10) = false := by simp [h]
  have d11 : (s.f0 == 11) = false := by simp [h]
  have d12 : (s.f0 == 12) = false := by simp [h]
  have d13 : (s.f0 == 13) = false := by simp [h]
  have d14 : (s.f0 == 14) = false := by simp [h]
  have d15 : (s.f0 == 15) = false := by simp [h]
  clear H h7 h9 h16 h17 l7 l9 l16 l17 h
  go_enter Try.func31, Try.ntmps31
  go_wp2_with (first | (go_at_call 57; with_reducible refine (sc_said (HF.out.below X.out.hb) s.f1).mono ?_; rintro e w5 ⟨rfl, hb⟩; have XX := Aside0.mk (X.out.below hb); clear X; have X := XX; clear XX; have m0 := pw_cell_below hb m0; have m1 := pw_cell_below hb m1; have m2 := pw_cell_below hb m2; have m3 := pw_cell_below hb m3; have m4 := pw_cell_below hb m4; have m5 := pw_cell_below hb m5; have m6 := pw_cell_below hb m6; have n0 := pw_cell_below hb n0; have n1 := pw_cell_below hb n1; have n2 := pw_cell_below hb n2; have n3 := pw_cell_below hb n3; have n4 := pw_cell_below hb n4; have n5 := pw_cell_below hb n5; have n6 := pw_cell_below hb n6; have n7 := pw_cell_below hb n7; have n8 := pw_cell_below hb n8; have n9 := pw_cell_below hb n9; have n10 := pw_cell_below hb n10; have n11 := pw_cell_below hb n11; have n12 := pw_cell_below hb n12; have n13 := pw_cell_below hb n13; have n14 := pw_cell_below hb n14; have n15 := pw_cell_below hb n15; have n16 := pw_cell_below hb n16; have n17 := pw_cell_below hb n17; clear hb) | (go_at_call 60; with_reducible refine (pl_said (HF.out.below X.out.hb) s.f4 A7 c7 (Kd.C_below H7.out X.out.hb) HL.out.1 b7).mono ?_; rintro e w5 ⟨rfl, hb⟩; have XX := Aside0.mk (X.out.below hb); clear X; have X := XX; clear XX; have m0 := pw_cell_below hb m0; have m1 := pw_cell_below hb m1; have m2 := pw_cell_below hb m2; have m3 := pw_cell_below hb m3; have m4 := pw_cell_below hb m4; have m5 := pw_cell_below hb m5; have m6 := pw_cell_below hb m6; have n0 := pw_cell_below hb n0; have n1 := pw_cell_below hb n1; have n2 := pw_cell_below hb n2; have n3 := pw_cell_below hb n3; have n4 := pw_cell_below hb n4; have n5 := pw_cell_below hb n5; have n6 := pw_cell_below hb n6; have n7 := pw_cell_below hb n7; have n8 := pw_cell_below hb n8; have n9 := pw_cell_below hb n9; have n10 := pw_cell_below hb n10; have n11 := pw_cell_below hb n11; have n12 := pw_cell_below hb n12; have n13 := pw_cell_below hb n13; have n14 := pw_cell_below hb n14; have n15 := pw_cell_below hb n15; have n16 := pw_cell_below hb n16; have n17 := pw_cell_below hb n17; clear hb))
  go_ret
  exact ⟨rfl, X.out.hb⟩
theorem in_3 (l : List S48) (f : S48) (A0 : Option Addr) (c0 : Nat) (A2 : Option Addr) (c2 : Nat) (A6 : Option Addr) (c6 : Nat) (s : S40) (A7 A9 A15 A16 A17 : Option Addr) (c7 c9 c15 c16 c17 : Nat) (w : World) (H : FA w l f A0 c0 A2 c2 A6 c6) (h7 : k57.C w A7 s.f4.f1.length s.f4.f1) (l7 : s.f4.f1.length ≤ c7) (h9 : k57.C w A9 s.f5.f1.length s.f5.f1) (l9 : s.f5.f1.length ≤ c9) (h16 : k30.C w A16 s.f9.length s.f9) (l16 : s.f9.length ≤ c16) (h17 : (Kd.int .i64).C w A17 s.f10.length s.f10) (l17 : s.f10.length ≤ c17) (b7 : s.f4.f1.length < 4611686018427387904) (b9 : s.f5.f1.length < 4611686018427387904) (h : s.f0 = 3) :
    Calls Try.prog 31 #[.agg #[.slice A0 l.length c0, .string f.f0, .slice A2 f.f1.length c2, .int .i64 f.f2, .int .i64 f.f3, .bool f.f4, .slice A6 f.f5.length c6], .agg #[.int .i64 s.f0, .int .i64 s.f1, .bool s.f2.f0, .int .i64 s.f2.f1, .bool s.f3.f0, .int .i64 s.f3.f1, .int .i64 s.f4.f0, .slice A7 s.f4.f1.length c7, .int .i64 s.f5.f0, .slice A9 s.f5.f1.length c9, .int .i64 s.f6, .string s.f7, .int .i64 s.f8.f0, .string s.f8.f1, .int .i64 s.f8.f2, .slice A15 s.f8.f3.length c15, .slice A16 s.f9.length c16, .slice A17 s.f10.length c17]] w fun e w' => e = .returned (.bool ((scB f.f1 s.f1 && plB f.f1 s.f4))) ∧ Below w.heap.size w w' := by
  cases t0 : scB f.f1 s.f1 with
  | false => simpa [t0] using in_3_0 l f A0 c0 A2 c2 A6 c6 s A7 A9 A15 A16 A17 c7 c9 c15 c16 c17 w H h7 l7 h9 l9 h16 l16 h17 l17 b7 b9 h t0
  | true =>
    simpa using in_3_1 l f A0 c0 A2 c2 A6 c6 s A7 A9 A15 A16 A17 c7 c9 c15 c16 c17 w H h7 l7 h9 l9 h16 l16 h17 l17 b7 b9 h t0
set_option maxRecDepth 100000 in
set_option maxHeartbeats 4000000 in
theorem in_6_0 (l : List S48) (f : S48) (A0 : Option Addr) (c0 : Nat) (A2 : Option Addr) (c2 : Nat) (A6 : Option Addr) (c6 : Nat) (s : S40) (A7 A9 A15 A16 A17 : Option Addr) (c7 c9 c15 c16 c17 : Nat) (w : World) (H : FA w l f A0 c0 A2 c2 A6 c6) (h7 : k57.C w A7 s.f4.f1.length s.f4.f1) (l7 : s.f4.f1.length ≤ c7) (h9 : k57.C w A9 s.f5.f1.length s.f5.f1) (l9 : s.f5.f1.length ≤ c9) (h16 : k30.C w A16 s.f9.length s.f9) (l16 : s.f9.length ≤ c16) (h17 : (Kd.int .i64).C w A17 s.f10.length s.f10) (l17 : s.f10.length ≤ c17) (b7 : s.f4.f1.length < 4611686018427387904) (b9 : s.f5.f1.length < 4611686018427387904) (h : s.f0 = 6) (t0 : scB f.f1 s.f1 = false) :
    Calls Try.prog 31 #[.agg #[.slice A0 l.length c0, .string f.f0, .slice A2 f.f1.length c2, .int .i64 f.f2, .int .i64 f.f3, .bool f.f4, .slice A6 f.f5.length c6], .agg #[.int .i64 s.f0, .int .i64 s.f1, .bool s.f2.f0, .int .i64 s.f2.f1, .bool s.f3.f0, .int .i64 s.f3.f1, .int .i64 s.f4.f0, .slice A7 s.f4.f1.length c7, .int .i64 s.f5.f0, .slice A9 s.f5.f1.length c9, .int .i64 s.f6, .string s.f7, .int .i64 s.f8.f0, .string s.f8.f1, .int .i64 s.f8.f2, .slice A15 s.f8.f3.length c15, .slice A16 s.f9.length c16, .slice A17 s.f10.length c17]] w fun e w' => e = .returned (.bool false) ∧ Below w.heap.size w w' := by
  have hu101 := Try.underlying101
  have hu40 := Try.underlying40
  have HF := Aside0.mk H
  have H7 := Aside0.mk h7
  have H9 := Aside0.mk h9
  have HL := Aside0.mk (And.intro l7 (And.intro l9 l16))
  have X := Aside0.mk (FB.new w #[.slice A0 l.length c0, .string f.f0, .slice A2 f.f1.length c2, .int .i64 f.f2, .int .i64 f.f3, .bool f.f4, .slice A6 f.f5.length c6] 101 #[.int .i64 s.f0, .int .i64 s.f1, .bool s.f2.f0, .int .i64 s.f2.f1, .bool s.f3.f0, .int .i64 s.f3.f1, .int .i64 s.f4.f0, .slice A7 s.f4.f1.length c7, .int .i64 s.f5.f0, .slice A9 s.f5.f1.length c9, .int .i64 s.f6, .string s.f7, .int .i64 s.f8.f0, .string s.f8.f1, .int .i64 s.f8.f2, .slice A15 s.f8.f3.length c15, .slice A16 s.f9.length c16, .slice A17 s.f10.length c17] 40)
  have m0 := X.out.b1.cell 0
  have m1 := X.out.b1.cell 1
  have m2 := X.out.b1.cell 2
  have m3 := X.out.b1.cell 3
  have m4 := X.out.b1.cell 4
  have m5 := X.out.b1.cell 5
  have m6 := X.out.b1.cell 6
  have n0 := X.out.b2.cell 0
  have n1 := X.out.b2.cell 1
  have n2 := X.out.b2.cell 2
  have n3 := X.out.b2.cell 3
  have n4 := X.out.b2.cell 4
  have n5 := X.out.b2.cell 5
  have n6 := X.out.b2.cell 6
  have n7 := X.out.b2.cell 7
  have n8 := X.out.b2.cell 8
  have n9 := X.out.b2.cell 9
  have n10 := X.out.b2.cell 10
  have n11 := X.out.b2.cell 11
  have n12 := X.out.b2.cell 12
  have n13 := X.out.b2.cell 13
  have n14 := X.out.b2.cell 14
  have n15 := X.out.b2.cell 15
  have n16 := X.out.b2.cell 16
  have n17 := X.out.b2.cell 17
  simp only [List.getElem?_toArray, List.getElem?_cons_zero, List.getElem?_cons_succ] at m0 m1 m2 m3 m4 m5 m6 n0 n1 n2 n3 n4 n5 n6 n7 n8 n9 n10 n11 n12 n13 n14 n15 n16 n17
  have d1 : (s.f0 == 1) = false := by simp [h]
  have d2 : (s.f0 == 2) = false := by simp [h]
  have d3 : (s.f0 == 3) = false := by simp [h]
  have d4 : (s.f0 == 4) = false := by simp [h]
  have d5 : (s.f0 == 5) = false := by simp [h]
  have d6 : (s.f0 == 6) = true := by simp [h]
  have d7 : (s.f0 == 7) = false := by simp [h]
  have d8 : (s.f0 == 8) = false := by simp [h]
  have d9 : (s.f0 == 9) = false := by simp [h]
  have d10 : (s.f0 == 10) = false := by simp [h]
  have d11 : (s.f0 == 11) = false := by simp [h]
  have d12 : (s.f0 == 12) = false := by simp [h]
  have d13 : (s.f0 == 13) = false := by simp [h]
  have d14 : (s.f0 == 14) = false := by simp [h]
  have d15 : (s.f0 == 15) = false := by simp [h]
  clear H h7 h9 h16 h17 l7 l9 l16 l17 h
  go_enter Try.func31, Try.ntmps31
  go_wp2_with (go_at_call 57; with_reducible refine (sc_said (HF.out.below X.out.hb) s.f1).mono ?_; rintro e w5 ⟨rfl, hb⟩; have XX := Aside0.mk (X.out.below hb); clear X; have X := XX; clear XX; have m0 := pw_cell_below hb m0; have m1 := pw_cell_below hb m1; have m2 := pw_cell_below hb m2; have m3 := pw_cell_below hb m3; have m4 := pw_cell_below hb m4; have m5 := pw_cell_below hb m5; have m6 := pw_cell_below hb m6; have n0 := pw_cell_below hb n0; have n1 := pw_cell_below hb n1; have n2 := pw_cell_below hb n2; have n3 := pw_cell_below hb n3; have n4 := pw_cell_below hb n4; have n5 := pw_cell_below hb n5; have n6 := pw_cell_below hb n6; have n7 := pw_cell_below hb n7; have n8 := pw_cell_below hb n8; have n9 := pw_cell_below hb n9; have n10 := pw_cell_below hb n10; have n11 := pw_cell_below hb n11; have n12 := pw_cell_below hb n12; have n13 := pw_cell_below hb n13; have n14 := pw_cell_below hb n14; have n15 := pw_cell_below hb n15; have n16 := pw_cell_below hb n16; have n17 := pw_cell_below hb n17; clear hb)
  go_ret
  exact ⟨rfl, X.out.hb⟩
set_option maxRecDepth 100000 in
set_option maxHeartbeats 4000000 in
theorem in_6_1 (l : List S48) (f : S48) (A0 : Option Addr) (c0 : Nat) (A2 : Option Addr) (c2 : Nat) (A6 : Option Addr) (c6 : Nat) (s : S40) (A7 A9 A15 A16 A17 : Option Addr) (c7 c9 c15 c16 c17 : Nat) (w : World) (H : FA w l f A0 c0 A2 c2 A6 c6) (h7 : k57.C w A7 s.f4.f1.length s.f4.f1) (l7 : s.f4.f1.length ≤ c7) (h9 : k57.C w A9 s.f5.f1.length s.f5.f1) (l9 : s.f5.f1.length ≤ c9) (h16 : k30.C w A16 s.f9.length s.f9) (l16 : s.f9.length ≤ c16) (h17 : (Kd.int .i64).C w A17 s.f10.length s.f10) (l17 : s.f10.length ≤ c17) (b7 : s.f4.f1.length < 4611686018427387904) (b9 : s.f5.f1.length < 4611686018427387904) (h : s.f0 = 6) (t0 : scB f.f1 s.f1 = true) :
    Calls Try.prog 31 #[.agg #[.slice A0 l.length c0, .string f.f0, .slice A2 f.f1.length c2, .int .i64 f.f2, .int .i64 f.f3, .bool f.f4, .slice A6 f.f5.length c6], .agg #[.int .i64 s.f0, .int .i64 s.f1, .bool s.f2.f0, .int .i64 s.f2.f1, .bool s.f3.f0, .int .i64 s.f3.f1, .int .i64 s.f4.f0, .slice A7 s.f4.f1.length c7, .int .i64 s.f5.f0, .slice A9 s.f5.f1.length c9, .int .i64 s.f6, .string s.f7, .int .i64 s.f8.f0, .string s.f8.f1, .int .i64 s.f8.f2, .slice A15 s.f8.f3.length c15, .slice A16 s.f9.length c16, .slice A17 s.f10.length c17]] w fun e w' => e = .returned (.bool (plB f.f1 s.f4)) ∧ Below w.heap.size w w' := by
  have hu101 := Try.underlying101
  have hu40 := Try.underlying40
  have HF := Aside0.mk H
  have H7 := Aside0.mk h7
  have H9 := Aside0.mk h9
  have HL := Aside0.mk (And.intro l7 (And.intro l9 l16))
  have X := Aside0.mk (FB.new w #[.slice A0 l.length c0, .string f.f0, .slice A2 f.f1.length c2, .int .i64 f.f2, .int .i64 f.f3, .bool f.f4, .slice A6 f.f5.length c6] 101 #[.int .i64 s.f0, .int .i64 s.f1, .bool s.f2.f0, .int .i64 s.f2.f1, .bool s.f3.f0, .int .i64 s.f3.f1, .int .i64 s.f4.f0, .slice A7 s.f4.f1.length c7, .int .i64 s.f5.f0, .slice A9 s.f5.f1.length c9, .int .i64 s.f6, .string s.f7, .int .i64 s.f8.f0, .string s.f8.f1, .int .i64 s.f8.f2, .slice A15 s.f8.f3.length c15, .slice A16 s.f9.length c16, .slice A17 s.f10.length c17] 40)
  have m0 := X.out.b1.cell 0
  have m1 := X.out.b1.cell 1
  have m2 := X.out.b1.cell 2
  have m3 := X.out.b1.cell 3
  have m4 := X.out.b1.cell 4
  have m5 := X.out.b1.cell 5
  have m6 := X.out.b1.cell 6
  have n0 := X.out.b2.cell 0
  have n1 := X.out.b2.cell 1
  have n2 := X.out.b2.cell 2
  have n3 := X.out.b2.cell 3
  have n4 := X.out.b2.cell 4
  have n5 := X.out.b2.cell 5
  have n6 := X.out.b2.cell 6
  have n7 := X.out.b2.cell 7
  have n8 := X.out.b2.cell 8
  have n9 := X.out.b2.cell 9
  have n10 := X.out.b2.cell 10
  have n11 := X.out.b2.cell 11
  have n12 := X.out.b2.cell 12
  have n13 := X.out.b2.cell 13
  have n14 := X.out.b2.cell 14
  have n15 := X.out.b2.cell 15
  have n16 := X.out.b2.cell 16
  have n17 := X.out.b2.cell 17
  simp only [List.getElem?_toArray, List.getElem?_cons_zero, List.getElem?_cons_succ] at m0 m1 m2 m3 m4 m5 m6 n0 n1 n2 n3 n4 n5 n6 n7 n8 n9 n10 n11 n12 n13 n14 n15 n16 n17
  have d1 : (s.f0 == 1) = false := by simp [h]
  have d2 : (s.f0 == 2) = false := by simp [h]
  have d3 : (s.f0 == 3) = false := by simp [h]
  have d4 : (s.f0 == 4) = false := by simp [h]
  have d5 : (s.f0 == 5) = false := by simp [h]
  have d6 : (s.f0 == 6) = true := by simp [h]
  have d7 : (s.f0 == 7) = false := by simp [h]
  have d8 : (s.f0 == 8) = false := by simp [h]
  have d9 : (s.f0 == 9) = false := by simp [h]
  have d10 : (s.f0 == 10) = false := by simp [h]
  have d11 : (s.f0 == 11) = false := by simp [h]
  have d12 : (s.f0 == 12) = false := by simp [h]
  have d13 : (s.f0 == 13) = false := by simp [h]
  have d14 : (s.f0 == 14) = false := by simp [h]
  have d15 : (s.f0 == 15) = false := by simp [h]
  clear H h7 h9 h16 h17 l7 l9 l16 l17 h
  go_enter Try.func31, Try.ntmps31
  go_wp2_with (first | (go_at_call 57; with_reducible refine (sc_said (HF.out.below X.out.hb) s.f1).mono ?_; rintro e w5 ⟨rfl, hb⟩; have XX := Aside0.mk (X.out.below hb); clear X; have X := XX; clear XX; have m0 := pw_cell_below hb m0; have m1 := pw_cell_below hb m1; have m2 := pw_cell_below hb m2; have m3 := pw_cell_below hb m3; have m4 := pw_cell_below hb m4; have m5 := pw_cell_below hb m5; have m6 := pw_cell_below hb m6; have n0 := pw_cell_below hb n0; have n1 := pw_cell_below hb n1; have n2 := pw_cell_below hb n2; have n3 := pw_cell_below hb n3; have n4 := pw_cell_below hb n4; have n5 := pw_cell_below hb n5; have n6 := pw_cell_below hb n6; have n7 := pw_cell_below hb n7; have n8 := pw_cell_below hb n8; have n9 := pw_cell_below hb n9; have n10 := pw_cell_below hb n10; have n11 := pw_cell_below hb n11; have n12 := pw_cell_below hb n12; have n13 := pw_cell_below hb n13; have n14 := pw_cell_below hb n14; have n15 := pw_cell_below hb n15; have n16 := pw_cell_below hb n16; have n17 := pw_cell_below hb n17; clear hb) | (go_at_call 60; with_reducible refine (pl_said (HF.out.below X.out.hb) s.f4 A7 c7 (Kd.C_below H7.out X.out.hb) HL.out.1 b7).mono ?_; rintro e w5 ⟨rfl, hb⟩; have XX := Aside0.mk (X.out.below hb); clear X; have X := XX; clear XX; have m0 := pw_cell_below hb m0; have m1 := pw_cell_below hb m1; have m2 := pw_cell_below hb m2; have m3 := pw_cell_below hb m3; have m4 := pw_cell_below hb m4; have m5 := pw_cell_below hb m5; have m6 := pw_cell_below hb m6; have n0 := pw_cell_below hb n0; have n1 := pw_cell_below hb n1; have n2 := pw_cell_below hb n2; have n3 := pw_cell_below hb n3; have n4 := pw_cell_below hb n4; have n5 := pw_cell_below hb n5; have n6 := pw_cell_below hb n6; have n7 := pw_cell_below hb n7; have n8 := pw_cell_below hb n8; have n9 := pw_cell_below hb n9; have n10 := pw_cell_below hb n10; have n11 := pw_cell_below hb n11; have n12 := pw_cell_below hb n12; have n13 := pw_cell_below hb n13; have n14 := pw_cell_below hb n14; have n15 := pw_cell_below hb n15; have n16 := pw_cell_below hb n16; have n17 := pw_cell_below hb n17; clear hb))
  go_ret
  exact ⟨rfl, X.out.hb⟩
theorem in_6 (l : List S48) (f : S48) (A0 : Option Addr) (c0 : Nat) (A2 : Option Addr) (c2 : Nat) (A6 : Option Addr) (c6 : Nat) (s : S40) (A7 A9 A15 A16 A17 : Option Addr) (c7 c9 c15 c16 c17 : Nat) (w : World) (H : FA w l f A0 c0 A2 c2 A6 c6) (h7 : k57.C w A7 s.f4.f1.length s.f4.f1) (l7 : s.f4.f1.length ≤ c7) (h9 : k57.C w A9 s.f5.f1.length s.f5.f1) (l9 : s.f5.f1.length ≤ c9) (h16 : k30.C w A16 s.f9.length s.f9) (l16 : s.f9.length ≤ c16) (h17 : (Kd.int .i64).C w A17 s.f10.length s.f10) (l17 : s.f10.length ≤ c17) (b7 : s.f4.f1.length < 4611686018427387904) (b9 : s.f5.f1.length < 4611686018427387904) (h : s.f0 = 6) :
    Calls Try.prog 31 #[.agg #[.slice A0 l.length c0, .string f.f0, .slice A2 f.f1.length c2, .int .i64 f.f2, .int .i64 f.f3, .bool f.f4, .slice A6 f.f5.length c6], .agg #[.int .i64 s.f0, .int .i64 s.f1, .bool s.f2.f0, .int .i64 s.f2.f1, .bool s.f3.f0, .int .i64 s.f3.f1, .int .i64 s.f4.f0, .slice A7 s.f4.f1.length c7, .int .i64 s.f5.f0, .slice A9 s.f5.f1.length c9, .int .i64 s.f6, .string s.f7, .int .i64 s.f8.f0, .string s.f8.f1, .int .i64 s.f8.f2, .slice A15 s.f8.f3.length c15, .slice A16 s.f9.length c16, .slice A17 s.f10.length c17]] w fun e w' => e = .returned (.bool ((scB f.f1 s.f1 && plB f.f1 s.f4))) ∧ Below w.heap.size w w' := by
  cases t0 : scB f.f1 s.f1 with
  | false => simpa [t0] using in_6_0 l f A0 c0 A2 c2 A6 c6 s A7 A9 A15 A16 A17 c7 c9 c15 c16 c17 w H h7 l7 h9 l9 h16 l16 h17 l17 b7 b9 h t0
  | true =>
    simpa using in_6_1 l f A0 c0 A2 c2 A6 c6 s A7 A9 A15 A16 A17 c7 c9 c15 c16 c17 w H h7 l7 h9 l9 h16 l16 h17 l17 b7 b9 h t0
set_option maxRecDepth 100000 in
set_option maxHeartbeats 4000000 in
theorem in_4_0 (l : List S48) (f : S48) (A0 : Option Addr) (c0 : Nat) (A2 : Option Addr) (c2 : Nat) (A6 : Option Addr) (c6 : Nat) (s : S40) (A7 A9 A15 A16 A17 : Option Addr) (c7 c9 c15 c16 c17 : Nat) (w : World) (H : FA w l f A0 c0 A2 c2 A6 c6) (h7 : k57.C w A7 s.f4.f1.length s.f4.f1) (l7 : s.f4.f1.length ≤ c7) (h9 : k57.C w A9 s.f5.f1.length s.f5.f1) (l9 : s.f5.f1.length ≤ c9) (h16 : k30.C w A16 s.f9.length s.f9) (l16 : s.f9.length ≤ c16) (h17 : (Kd.int .i64).C w A17 s.f10.length s.f10) (l17 : s.f10.length ≤ c17) (b7 : s.f4.f1.length < 4611686018427387904) (b9 : s.f5.f1.length < 4611686018427387904) (h : s.f0 = 4) (t0 : plB f.f1 s.f4 = false) :
    Calls Try.prog 31 #[.agg #[.slice A0 l.length c0, .string f.f0, .slice A2 f.f1.length c2, .int .i64 f.f2, .int .i64 f.f3, .bool f.f4, .slice A6 f.f5.length c6], .agg #[.int .i64 s.f0, .int .i64 s.f1, .bool s.f2.f0, .int .i64 s.f2.f1, .bool s.f3.f0, .int .i64 s.f3.f1, .int .i64 s.f4.f0, .slice A7 s.f4.f1.length c7, .int .i64 s.f5.f0, .slice A9 s.f5.f1.length c9, .int .i64 s.f6, .string s.f7, .int .i64 s.f8.f0, .string s.f8.f1, .int .i64 s.f8.f2, .slice A15 s.f8.f3.length c15, .slice A16 s.f9.length c16, .slice A17 s.f10.length c17]] w fun e w' => e = .returned (.bool false) ∧ Below w.heap.size w w' := by
  have hu101 := Try.underlying101
  have hu40 := Try.underlying40
  have HF := Aside0.mk H
  have H7 := Aside0.mk h7
  have H9 := Aside0.mk h9
  have HL := Aside0.mk (And.intro l7 (And.intro l9 l16))
  have X := Aside0.mk (FB.new w #[.slice A0 l.length c0, .string f.f0, .slice A2 f.f1.length c2, .int .i64 f.f2, .int .i64 f.f3, .bool f.f4, .slice A6 f.f5.length c6] 101 #[.int .i64 s.f0, .int .i64 s.f1, .bool s.f2.f0, .int .i64 s.f2.f1, .bool s.f3.f0, .int .i64 s.f3.f1, .int .i64 s.f4.f0, .slice A7 s.f4.f1.length c7, .int .i64 s.f5.f0, .slice A9 s.f5.f1.length c9, .int .i64 s.f6, .string s.f7, .int .i64 s.f8.f0, .string s.f8.f1, .int .i64 s.f8.f2, .slice A15 s.f8.f3.length c15, .slice A16 s.f9.length c16, .slice A17 s.f10.length c17] 40)
  have m0 := X.out.b1.cell 0
  have m1 := X.out.b1.cell 1
  have m2 := X.out.b1.cell 2
  have m3 := X.out.b1.cell 3
  have m4 := X.out.b1.cell 4
  have m5 := X.out.b1.cell 5
  have m6 := X.out.b1.cell 6
  have n0 := X.out.b2.cell 0
  have n1 := X.out.b2.cell 1
  have n2 := X.out.b2.cell 2
  have n3 := X.out.b2.cell 3
  have n4 := X.out.b2.cell 4
  have n5 := X.out.b2.cell 5
  have n6 := X.out.b2.cell 6
  have n7 := X.out.b2.cell 7
  have n8 := X.out.b2.cell 8
  have n9 := X.out.b2.cell 9
  have n10 := X.out.b2.cell 10
  have n11 := X.out.b2.cell 11
  have n12 := X.out.b2.cell 12
  have n13 := X.out.b2.cell 13
  have n14 := X.out.b2.cell 14
  have n15 := X.out.b2.cell 15
  have n16 := X.out.b2.cell 16
  have n17 := X.out.b2.cell 17
  simp only [List.getElem?_toArray, List.getElem?_cons_zero, List.getElem?_cons_succ] at m0 m1 m2 m3 m4 m5 m6 n0 n1 n2 n3 n4 n5 n6 n7 n8 n9 n10 n11 n12 n13 n14 n15 n16 n17
  have d1 : (s.f0 == 1) = false := by simp [h]
  have d2 : (s.f0 == 2) = false := by simp [h]
  have d3 : (s.f0 == 3) = false := by simp [h]
  have d4 : (s.f0 == 4) = true := by simp [h]
  have d5 : (s.f0 == 5) = false := by simp [h]
  have d6 : (s.f0 == 6) = false := by simp [h]
  have d7 : (s.f0 == 7) = false := by simp [h]
  have d8 : (s.f0 == 8) = false := by simp [h]
  have d9 : (s.f0 == 9) = false := by simp [h]
  have d10 : (s.f0 == 10) = false := by simp [h]
  have d11 : (s.f0 == 11) = false := by simp [h]
  have d12 : (s.f0 == 12) = false := by simp [h]
  have d13 : (s.f0 == 13) = false := by simp [h]
  have d14 : (s.f0 == 14) = false := by simp [h]
  have d15 : (s.f0 == 15) = false := by simp [h]
  clear H h7 h9 h16 h17 l7 l9 l16 l17 h
  go_enter Try.func31, Try.ntmps31
  go_wp2_with (go_at_call 60; with_reducible refine (pl_said (HF.out.below X.out.hb) s.f4 A7 c7 (Kd.C_below H7.out X.out.hb) HL.out.1 b7).mono ?_; rintro e w5 ⟨rfl, hb⟩; have XX := Aside0.mk (X.out.below hb); clear X; have X := XX; clear XX; have m0 := pw_cell_below hb m0; have m1 := pw_cell_below hb m1; have m2 := pw_cell_below hb m2; have m3 := pw_cell_below hb m3; have m4 := pw_cell_below hb m4; have m5 := pw_cell_below hb m5; have m6 := pw_cell_below hb m6; have n0 := pw_cell_below hb n0; have n1 := pw_cell_below hb n1; have n2 := pw_cell_below hb n2; have n3 := pw_cell_below hb n3; have n4 := pw_cell_below hb n4; have n5 := pw_cell_below hb n5; have n6 := pw_cell_below hb n6; have n7 := pw_cell_below hb n7; have n8 := pw_cell_below hb n8; have n9 := pw_cell_below hb n9; have n10 := pw_cell_below hb n10; have n11 := pw_cell_below hb n11; have n12 := pw_cell_below hb n12; have n13 := pw_cell_below hb n13; have n14 := pw_cell_below hb n14; have n15 := pw_cell_below hb n15; have n16 := pw_cell_below hb n16; have n17 := pw_cell_below hb n17; clear hb)
  go_ret
  exact ⟨rfl, X.out.hb⟩
set_option maxRecDepth 100000 in
set_option maxHeartbeats 4000000 in
theorem in_4_1 (l : List S48) (f : S48) (A0 : Option Addr) (c0 : Nat) (A2 : Option Addr) (c2 : Nat) (A6 : Option Addr) (c6 : Nat) (s : S40) (A7 A9 A15 A16 A17 : Option Addr) (c7 c9 c15 c16 c17 : Nat) (w : World) (H : FA w l f A0 c0 A2 c2 A6 c6) (h7 : k57.C w A7 s.f4.f1.length s.f4.f1) (l7 : s.f4.f1.length ≤ c7) (h9 : k57.C w A9 s.f5.f1.length s.f5.f1) (l9 : s.f5.f1.length ≤ c9) (h16 : k30.C w A16 s.f9.length s.f9) (l16 : s.f9.length ≤ c16) (h17 : (Kd.int .i64).C w A17 s.f10.length s.f10) (l17 : s.f10.length ≤ c17) (b7 : s.f4.f1.length < 4611686018427387904) (b9 : s.f5.f1.length < 4611686018427387904) (h : s.f0 = 4) (t0 : plB f.f1 s.f4 = true) :
    Calls Try.prog 31 #[.agg #[.slice A0 l.length c0, .string f.f0, .slice A2 f.f1.length c2, .int .i64 f.f2, .int .i64 f.f3, .bool f.f4, .slice A6 f.f5.length c6], .agg #[.int .i64 s.f0, .int .i64 s.f1, .bool s.f2.f0, .int .i64 s.f2.f1, .bool s.f3.f0, .int .i64 s.f3.f1, .int .i64 s.f4.f0, .slice A7 s.f4.f1.length c7, .int .i64 s.f5.f0, .slice A9 s.f5.f1.length c9, .int .i64 s.f6, .string s.f7, .int .i64 s.f8.f0, .string s.f8.f1, .int .i64 s.f8.f2, .slice A15 s.f8.f3.length c15, .slice A16 s.f9.length c16, .slice A17 s.f10.length c17]] w fun e w' => e = .returned (.bool (opB f.f1 s.f2)) ∧ Below w.heap.size w w' := by
  have hu101 := Try.underlying101
  have hu40 := Try.underlying40
  have HF := Aside0.mk H
  have H7 := Aside0.mk h7
  have H9 := Aside0.mk h9
  have HL := Aside0.mk (And.intro l7 (And.intro l9 l16))
  have X := Aside0.mk (FB.new w #[.slice A0 l.length c0, .string f.f0, .slice A2 f.f1.length c2, .int .i64 f.f2, .int .i64 f.f3, .bool f.f4, .slice A6 f.f5.length c6] 101 #[.int .i64 s.f0, .int .i64 s.f1, .bool s.f2.f0, .int .i64 s.f2.f1, .bool s.f3.f0, .int .i64 s.f3.f1, .int .i64 s.f4.f0, .slice A7 s.f4.f1.length c7, .int .i64 s.f5.f0, .slice A9 s.f5.f1.length c9, .int .i64 s.f6, .string s.f7, .int .i64 s.f8.f0, .string s.f8.f1, .int .i64 s.f8.f2, .slice A15 s.f8.f3.length c15, .slice A16 s.f9.length c16, .slice A17 s.f10.length c17] 40)
  have m0 := X.out.b1.cell 0
  have m1 := X.out.b1.cell 1
  have m2 := X.out.b1.cell 2
  have m3 := X.out.b1.cell 3
  have m4 := X.out.b1.cell 4
  have m5 := X.out.b1.cell 5
  have m6 := X.out.b1.cell 6
  have n0 := X.out.b2.cell 0
  have n1 := X.out.b2.cell 1
  have n2 := X.out.b2.cell 2
  have n3 := X.out.b2.cell 3
  have n4 := X.out.b2.cell 4
  have n5 := X.out.b2.cell 5
  have n6 := X.out.b2.cell 6
  have n7 := X.out.b2.cell 7
  have n8 := X.out.b2.cell 8
  have n9 := X.out.b2.cell 9
  have n10 := X.out.b2.cell 10
  have n11 := X.out.b2.cell 11
  have n12 := X.out.b2.cell 12
  have n13 := X.out.b2.cell 13
  have n14 := X.out.b2.cell 14
  have n15 := X.out.b2.cell 15
  have n16 := X.out.b2.cell 16
  have n17 := X.out.b2.cell 17
  simp only [List.getElem?_toArray, List.getElem?_cons_zero, List.getElem?_cons_succ] at m0 m1 m2 m3 m4 m5 m6 n0 n1 n2 n3 n4 n5 n6 n7 n8 n9 n10 n11 n12 n13 n14 n15 n16 n17
  have d1 : (s.f0 == 1) = false := by simp [h]
  have d2 : (s.f0 == 2) = false := by simp [h]
  have d3 : (s.f0 == 3) = false := by simp [h]
  have d4 : (s.f0 == 4) = true := by simp [h]
  have d5 : (s.f0 == 5) = false := by simp [h]
  have d6 : (s.f0 == 6) = false := by simp [h]
  have d7 : (s.f0 == 7) = false := by simp [h]
  have d8 : (s.f0 == 8) = false := by simp [h]
  have d9 : (s.f0 == 9) = false := by simp [h]
  have d10 : (s.f0 == 10) = false := by simp [h]
  have d11 : (s.f0 == 11) = false := by simp [h]
  have d12 : (s.f0 == 12) = false := by simp [h]
  have d13 : (s.f0 == 13) = false := by simp [h]
  have d14 : (s.f0 == 14) = false := by simp [h]
  have d15 : (s.f0 == 15) = false := by simp [h]
  clear H h7 h9 h16 h17 l7 l9 l16 l17 h
  go_enter Try.func31, Try.ntmps31
  go_wp2_with (first | (go_at_call 60; with_reducible refine (pl_said (HF.out.below X.out.hb) s.f4 A7 c7 (Kd.C_below H7.out X.out.hb) HL.out.1 b7).mono ?_; rintro e w5 ⟨rfl, hb⟩; have XX := Aside0.mk (X.out.below hb); clear X; have X := XX; clear XX; have m0 := pw_cell_below hb m0; have m1 := pw_cell_below hb m1; have m2 := pw_cell_below hb m2; have m3 := pw_cell_below hb m3; have m4 := pw_cell_below hb m4; have m5 := pw_cell_below hb m5; have m6 := pw_cell_below hb m6; have n0 := pw_cell_below hb n0; have n1 := pw_cell_below hb n1; have n2 := pw_cell_below hb n2; have n3 := pw_cell_below hb n3; have n4 := pw_cell_below hb n4; have n5 := pw_cell_below hb n5; have n6 := pw_cell_below hb n6; have n7 := pw_cell_below hb n7; have n8 := pw_cell_below hb n8; have n9 := pw_cell_below hb n9; have n10 := pw_cell_below hb n10; have n11 := pw_cell_below hb n11; have n12 := pw_cell_below hb n12; have n13 := pw_cell_below hb n13; have n14 := pw_cell_below hb n14; have n15 := pw_cell_below hb n15; have n16 := pw_cell_below hb n16; have n17 := pw_cell_below hb n17; clear hb) | (go_at_call 58; with_reducible refine (op_said (HF.out.below X.out.hb) s.f2).mono ?_; rintro e w5 ⟨rfl, hb⟩; have XX := Aside0.mk (X.out.below hb); clear X; have X := XX; clear XX; have m0 := pw_cell_below hb m0; have m1 := pw_cell_below hb m1; have m2 := pw_cell_below hb m2; have m3 := pw_cell_below hb m3; have m4 := pw_cell_below hb m4; have m5 := pw_cell_below hb m5; have m6 := pw_cell_below hb m6; have n0 := pw_cell_below hb n0; have n1 := pw_cell_below hb n1; have n2 := pw_cell_below hb n2; have n3 := pw_cell_below hb n3; have n4 := pw_cell_below hb n4; have n5 := pw_cell_below hb n5; have n6 := pw_cell_below hb n6; have n7 := pw_cell_below hb n7; have n8 := pw_cell_below hb n8; have n9 := pw_cell_below hb n9; have n10 := pw_cell_below hb n10; have n11 := pw_cell_below hb n11; have n12 := pw_cell_below hb n12; have n13 := pw_cell_below hb n13; have n14 := pw_cell_below hb n14; have n15 := pw_cell_below hb n15; have n16 := pw_cell_below hb n16; have n17 := pw_cell_below hb n17; clear hb))
  go_ret
  exact ⟨rfl, X.out.hb⟩
theorem in_4 (l : List S48) (f : S48) (A0 : Option Addr) (c0 : Nat) (A2 : Option Addr) (c2 : Nat) (A6 : Option Addr) (c6 : Nat) (s : S40) (A7 A9 A15 A16 A17 : Option Addr) (c7 c9 c15 c16 c17 : Nat) (w : World) (H : FA w l f A0 c0 A2 c2 A6 c6) (h7 : k57.C w A7 s.f4.f1.length s.f4.f1) (l7 : s.f4.f1.length ≤ c7) (h9 : k57.C w A9 s.f5.f1.length s.f5.f1) (l9 : s.f5.f1.length ≤ c9) (h16 : k30.C w A16 s.f9.length s.f9) (l16 : s.f9.length ≤ c16) (h17 : (Kd.int .i64).C w A17 s.f10.length s.f10) (l17 : s.f10.length ≤ c17) (b7 : s.f4.f1.length < 4611686018427387904) (b9 : s.f5.f1.length < 4611686018427387904) (h : s.f0 = 4) :
    Calls Try.prog 31 #[.agg #[.slice A0 l.length c0, .string f.f0, .slice A2 f.f1.length c2, .int .i64 f.f2, .int .i64 f.f3, .bool f.f4, .slice A6 f.f5.length c6], .agg #[.int .i64 s.f0, .int .i64 s.f1, .bool s.f2.f0, .int .i64 s.f2.f1, .bool s.f3.f0, .int .i64 s.f3.f1, .int .i64 s.f4.f0, .slice A7 s.f4.f1.length c7, .int .i64 s.f5.f0, .slice A9 s.f5.f1.length c9, .int .i64 s.f6, .string s.f7, .int .i64 s.f8.f0, .string s.f8.f1, .int .i64 s.f8.f2, .slice A15 s.f8.f3.length c15, .slice A16 s.f9.length c16, .slice A17 s.f10.length c17]] w fun e w' => e = .returned (.bool ((plB f.f1 s.f4 && opB f.f1 s.f2))) ∧ Below w.heap.size w w' := by
  cases t0 : plB f.f1 s.f4 with
  | false => simpa [t0] using in_4_0 l f A0 c0 A2 c2 A6 c6 s A7 A9 A15 A16 A17 c7 c9 c15 c16 c17 w H h7 l7 h9 l9 h16 l16 h17 l17 b7 b9 h t0
  | true =>
    simpa using in_4_1 l f A0 c0 A2 c2 A6 c6 s A7 A9 A15 A16 A17 c7 c9 c15 c16 c17 w H h7 l7 h9 l9 h16 l16 h17 l17 b7 b9 h t0
set_option maxRecDepth 100000 in
set_option maxHeartbeats 4000000 in
theorem in_5_0 (l : List S48) (f : S48) (A0 : Option Addr) (c0 : Nat) (A2 : Option Addr) (c2 : Nat) (A6 : Option Addr) (c6 : Nat) (s : S40) (A7 A9 A15 A16 A17 : Option Addr) (c7 c9 c15 c16 c17 : Nat) (w : World) (H : FA w l f A0 c0 A2 c2 A6 c6) (h7 : k57.C w A7 s.f4.f1.length s.f4.f1) (l7 : s.f4.f1.length ≤ c7) (h9 : k57.C w A9 s.f5.f1.length s.f5.f1) (l9 : s.f5.f1.length ≤ c9) (h16 : k30.C w A16 s.f9.length s.f9) (l16 : s.f9.length ≤ c16) (h17 : (Kd.int .i64).C w A17 s.f10.length s.f10) (l17 : s.f10.length ≤ c17) (b7 : s.f4.f1.length < 4611686018427387904) (b9 : s.f5.f1.length < 4611686018427387904) (h : s.f0 = 5) (t0 : plB f.f1 s.f4 = false) :
    Calls Try.prog 31 #[.agg #[.slice A0 l.length c0, .string f.f0, .slice A2 f.f1.length c2, .int .i64 f.f2, .int .i64 f.f3, .bool f.f4, .slice A6 f.f5.length c6], .agg #[.int .i64 s.f0, .int .i64 s.f1, .bool s.f2.f0, .int .i64 s.f2.f1, .bool s.f3.f0, .int .i64 s.f3.f1, .int .i64 s.f4.f0, .slice A7 s.f4.f1.length c7, .int .i64 s.f5.f0, .slice A9 s.f5.f1.length c9, .int .i64 s.f6, .string s.f7, .int .i64 s.f8.f0, .string s.f8.f1, .int .i64 s.f8.f2, .slice A15 s.f8.f3.length c15, .slice A16 s.f9.length c16, .slice A17 s.f10.length c17]] w fun e w' => e = .returned (.bool false) ∧ Below w.heap.size w w' := by
  have hu101 := Try.underlying101
  have hu40 := Try.underlying40
  have HF := Aside0.mk H
  have H7 := Aside0.mk h7
  have H9 := Aside0.mk h9
  have HL := Aside0.mk (And.intro l7 (And.intro l9 l16))
  have X := Aside0.mk (FB.new w #[.slice A0 l.length c0, .string f.f0, .slice A2 f.f1.length c2, .int .i64 f.f2, .int .i64 f.f3, .bool f.f4, .slice A6 f.f5.length c6] 101 #[.int .i64 s.f0, .int .i64 s.f1, .bool s.f2.f0, .int .i64 s.f2.f1, .bool s.f3.f0, .int .i64 s.f3.f1, .int .i64 s.f4.f0, .slice A7 s.f4.f1.length c7, .int .i64 s.f5.f0, .slice A9 s.f5.f1.length c9, .int .i64 s.f6, .string s.f7, .int .i64 s.f8.f0, .string s.f8.f1, .int .i64 s.f8.f2, .slice A15 s.f8.f3.length c15, .slice A16 s.f9.length c16, .slice A17 s.f10.length c17] 40)
  have m0 := X.out.b1.cell 0
  have m1 := X.out.b1.cell 1
  have m2 := X.out.b1.cell 2
  have m3 := X.out.b1.cell 3
  have m4 := X.out.b1.cell 4
  have m5 := X.out.b1.cell 5
  have m6 := X.out.b1.cell 6
  have n0 := X.out.b2.cell 0
  have n1 := X.out.b2.cell 1
  have n2 := X.out.b2.cell 2
  have n3 := X.out.b2.cell 3
  have n4 := X.out.b2.cell 4
  have n5 := X.out.b2.cell 5
  have n6 := X.out.b2.cell 6
  have n7 := X.out.b2.cell 7
  have n8 := X.out.b2.cell 8
  have n9 := X.out.b2.cell 9
  have n10 := X.out.b2.cell 10
  have n11 := X.out.b2.cell 11
  have n12 := X.out.b2.cell 12
  have n13 := X.out.b2.cell 13
  have n14 := X.out.b2.cell 14
  have n15 := X.out.b2.cell 15
  have n16 := X.out.b2.cell 16
  have n17 := X.out.b2.cell 17
  simp only [List.getElem?_toArray, List.getElem?_cons_zero, List.getElem?_cons_succ] at m0 m1 m2 m3 m4 m5 m6 n0 n1 n2 n3 n4 n5 n6 n7 n8 n9 n10 n11 n12 n13 n14 n15 n16 n17
  have d1 : (s.f0 == 1) = false := by simp [h]
  have d2 : (s.f0 == 2) = false := by simp [h]
  have d3 : (s.f0 == 3) = false := by simp [h]
  have d4 : (s.f0 == 4) = false := by simp [h]
  have d5 : (s.f0 == 5) = true := by simp [h]
  have d6 : (s.f0 == 6) = false := by simp [h]
  have d7 : (s.f0 == 7) = false := by simp [h]
  have d8 : (s.f0 == 8) = false := by simp [h]
  have d9 : (s.f0 == 9) = false := by simp [h]
  have d10 : (s.f0 == 10) = false := by simp [h]
  have d11 : (s.f0 == 11) = false := by simp [h]
  have d12 : (s.f0 == 12) = false := by simp [h]
  have d13 : (s.f0 == 13) = false := by simp [h]
  have d14 : (s.f0 == 14) = false := by simp [h]
  have d15 : (s.f0 == 15) = false := by simp [h]
  clear H h7 h9 h16 h17 l7 l9 l16 l17 h
  go_enter Try.func31, Try.ntmps31
  go_wp2_with (go_at_call 60; with_reducible refine (pl_said (HF.out.below X.out.hb) s.f4 A7 c7 (Kd.C_below H7.out X.out.hb) HL.out.1 b7).mono ?_; rintro e w5 ⟨rfl, hb⟩; have XX := Aside0.mk (X.out.below hb); clear X; have X := XX; clear XX; have m0 := pw_cell_below hb m0; have m1 := pw_cell_below hb m1; have m2 := pw_cell_below hb m2; have m3 := pw_cell_below hb m3; have m4 := pw_cell_below hb m4; have m5 := pw_cell_below hb m5; have m6 := pw_cell_below hb m6; have n0 := pw_cell_below hb n0; have n1 := pw_cell_below hb n1; have n2 := pw_cell_below hb n2; have n3 := pw_cell_below hb n3; have n4 := pw_cell_below hb n4; have n5 := pw_cell_below hb n5; have n6 := pw_cell_below hb n6; have n7 := pw_cell_below hb n7; have n8 := pw_cell_below hb n8; have n9 := pw_cell_below hb n9; have n10 := pw_cell_below hb n10; have n11 := pw_cell_below hb n11; have n12 := pw_cell_below hb n12; have n13 := pw_cell_below hb n13; have n14 := pw_cell_below hb n14; have n15 := pw_cell_below hb n15; have n16 := pw_cell_below hb n16; have n17 := pw_cell_below hb n17; clear hb)
  go_ret
  exact ⟨rfl, X.out.hb⟩
set_option maxRecDepth 100000 in
set_option maxHeartbeats 4000000 in
theorem in_5_1 (l : List S48) (f : S48) (A0 : Option Addr) (c0 : Nat) (A2 : Option Addr) (c2 : Nat) (A6 : Option Addr) (c6 : Nat) (s : S40) (A7 A9 A15 A16 A17 : Option Addr) (c7 c9 c15 c16 c17 : Nat) (w : World) (H : FA w l f A0 c0 A2 c2 A6 c6) (h7 : k57.C w A7 s.f4.f1.length s.f4.f1) (l7 : s.f4.f1.length ≤ c7) (h9 : k57.C w A9 s.f5.f1.length s.f5.f1) (l9 : s.f5.f1.length ≤ c9) (h16 : k30.C w A16 s.f9.length s.f9) (l16 : s.f9.length ≤ c16) (h17 : (Kd.int .i64).C w A17 s.f10.length s.f10) (l17 : s.f10.length ≤ c17) (b7 : s.f4.f1.length < 4611686018427387904) (b9 : s.f5.f1.length < 4611686018427387904) (h : s.f0 = 5) (t0 : plB f.f1 s.f4 = true) (t1 : plB f.f1 s.f5 = false) :
    Calls Try.prog 31 #[.agg #[.slice A0 l.length c0, .string f.f0, .slice A2 f.f1.length c2, .int .i64 f.f2, .int .i64 f.f3, .bool f.f4, .slice A6 f.f5.length c6], .agg #[.int .i64 s.f0, .int .i64 s.f1, .bool s.f2.f0, .int .i64 s.f2.f1, .bool s.f3.f0, .int .i64 s.f3.f1, .int .i64 s.f4.f0, .slice A7 s.f4.f1.length c7, .int .i64 s.f5.f0, .slice A9 s.f5.f1.length c9, .int .i64 s.f6, .string s.f7, .int .i64 s.f8.f0, .string s.f8.f1, .int .i64 s.f8.f2, .slice A15 s.f8.f3.length c15, .slice A16 s.f9.length c16, .slice A17 s.f10.length c17]] w fun e w' => e = .returned (.bool false) ∧ Below w.heap.size w w' := by
  have hu101 := Try.underlying101
  have hu40 := Try.underlying40
  have HF := Aside0.mk H
  have H7 := Aside0.mk h7
  have H9 := Aside0.mk h9
  have HL := Aside0.mk (And.intro l7 (And.intro l9 l16))
  have X := Aside0.mk (FB.new w #[.slice A0 l.length c0, .string f.f0, .slice A2 f.f1.length c2, .int .i64 f.f2, .int .i64 f.f3, .bool f.f4, .slice A6 f.f5.length c6] 101 #[.int .i64 s.f0, .int .i64 s.f1, .bool s.f2.f0, .int .i64 s.f2.f1, .bool s.f3.f0, .int .i64 s.f3.f1, .int .i64 s.f4.f0, .slice A7 s.f4.f1.length c7, .int .i64 s.f5.f0, .slice A9 s.f5.f1.length c9, .int .i64 s.f6, .string s.f7, .int .i64 s.f8.f0, .string s.f8.f1, .int .i64 s.f8.f2, .slice A15 s.f8.f3.length c15, .slice A16 s.f9.length c16, .slice A17 s.f10.length c17] 40)
  have m0 := X.out.b1.cell 0
  have m1 := X.out.b1.cell 1
  have m2 := X.out.b1.cell 2
  have m3 := X.out.b1.cell 3
  have m4 := X.out.b1.cell 4
  have m5 := X.out.b1.cell 5
  have m6 := X.out.b1.cell 6
  have n0 := X.out.b2.cell 0
  have n1 := X.out.b2.cell 1
  have n2 := X.out.b2.cell 2
  have n3 := X.out.b2.cell 3
  have n4 := X.out.b2.cell 4
  have n5 := X.out.b2.cell 5
  have n6 := X.out.b2.cell 6
  have n7 := X.out.b2.cell 7
  have n8 := X.out.b2.cell 8
  have n9 := X.out.b2.cell 9
  have n10 := X.out.b2.cell 10
  have n11 := X.out.b2.cell 11
  have n12 := X.out.b2.cell 12
  have n13 := X.out.b2.cell 13
  have n14 := X.out.b2.cell 14
  have n15 := X.out.b2.cell 15
  have n16 := X.out.b2.cell 16
  have n17 := X.out.b2.cell 17
  simp only [List.getElem?_toArray, List.getElem?_cons_zero, List.getElem?_cons_succ] at m0 m1 m2 m3 m4 m5 m6 n0 n1 n2 n3 n4 n5 n6 n7 n8 n9 n10 n11 n12 n13 n14 n15 n16 n17
  have d1 : (s.f0 == 1) = false := by simp [h]
  have d2 : (s.f0 == 2) = false := by simp [h]
  have d3 : (s.f0 == 3) = false := by simp [h]
  have d4 : (s.f0 == 4) = false := by simp [h]
  have d5 : (s.f0 == 5) = true := by simp [h]
  have d6 : (s.f0 == 6) = false := by simp [h]
  have d7 : (s.f0 == 7) = false := by simp [h]
  have d8 : (s.f0 == 8) = false := by simp [h]
  have d9 : (s.f0 == 9) = false := by simp [h]
  have d10 : (s.f0 == 10) = false := by simp [h]
  have d11 : (s.f0 == 11) = false := by simp [h]
  have d12 : (s.f0 == 12) = false := by simp [h]
  have d13 : (s.f0 == 13) = false := by simp [h]
  have d14 : (s.f0 == 14) = false := by simp [h]
  have d15 : (s.f0 == 15) = false := by simp [h]
  clear H h7 h9 h16 h17 l7 l9 l16 l17 h
  go_enter Try.func31, Try.ntmps31
  go_wp2_with (first | (go_at_call 60; with_reducible refine (pl_said (HF.out.below X.out.hb) s.f4 A7 c7 (Kd.C_below H7.out X.out.hb) HL.out.1 b7).mono ?_; rintro e w5 ⟨rfl, hb⟩; have XX := Aside0.mk (X.out.below hb); clear X; have X := XX; clear XX; have m0 := pw_cell_below hb m0; have m1 := pw_cell_below hb m1; have m2 := pw_cell_below hb m2; have m3 := pw_cell_below hb m3; have m4 := pw_cell_below hb m4; have m5 := pw_cell_below hb m5; have m6 := pw_cell_below hb m6; have n0 := pw_cell_below hb n0; have n1 := pw_cell_below hb n1; have n2 := pw_cell_below hb n2; have n3 := pw_cell_below hb n3; have n4 := pw_cell_below hb n4; have n5 := pw_cell_below hb n5; have n6 := pw_cell_below hb n6; have n7 := pw_cell_below hb n7; have n8 := pw_cell_below hb n8; have n9 := pw_cell_below hb n9; have n10 := pw_cell_below hb n10; have n11 := pw_cell_below hb n11; have n12 := pw_cell_below hb n12; have n13 := pw_cell_below hb n13; have n14 := pw_cell_below hb n14; have n15 := pw_cell_below hb n15; have n16 := pw_cell_below hb n16; have n17 := pw_cell_below hb n17; clear hb) | (go_at_call 60; with_reducible refine (pl_said (HF.out.below X.out.hb) s.f5 A9 c9 (Kd.C_below H9.out X.out.hb) HL.out.2.1 b9).mono ?_; rintro e w5 ⟨rfl, hb⟩; have XX := Aside0.mk (X.out.below hb); clear X; have X := XX; clear XX; have m0 := pw_cell_below hb m0; have m1 := pw_cell_below hb m1; have m2 := pw_cell_below hb m2; have m3 := pw_cell_below hb m3; have m4 := pw_cell_below hb m4; have m5 := pw_cell_below hb m5; have m6 := pw_cell_below hb m6; have n0 := pw_cell_below hb n0; have n1 := pw_cell_below hb n1; have n2 := pw_cell_below hb n2; have n3 := pw_cell_below hb n3; have n4 := pw_cell_below hb n4; have n5 := pw_cell_below hb n5; have n6 := pw_cell_below hb n6; have n7 := pw_cell_below hb n7; have n8 := pw_cell_below hb n8; have n9 := pw_cell_below hb n9; have n10 := pw_cell_below hb n10; have n11 := pw_cell_below hb n11; have n12 := pw_cell_below hb n12; have n13 := pw_cell_below hb n13; have n14 := pw_cell_below hb n14; have n15 := pw_cell_below hb n15; have n16 := pw_cell_below hb n16; have n17 := pw_cell_below hb n17; clear hb))
  go_ret
  exact ⟨rfl, X.out.hb⟩
set_option maxRecDepth 100000 in
set_option maxHeartbeats 4000000 in
theorem in_5_2 (l : List S48) (f : S48) (A0 : Option Addr) (c0 : Nat) (A2 : Option Addr) (c2 : Nat) (A6 : Option Addr) (c6 : Nat) (s : S40) (A7 A9 A15 A16 A17 : Option Addr) (c7 c9 c15 c16 c17 : Nat) (w : World) (H : FA w l f A0 c0 A2 c2 A6 c6) (h7 : k57.C w A7 s.f4.f1.length s.f4.f1) (l7 : s.f4.f1.length ≤ c7) (h9 : k57.C w A9 s.f5.f1.length s.f5.f1) (l9 : s.f5.f1.length ≤ c9) (h16 : k30.C w A16 s.f9.length s.f9) (l16 : s.f9.length ≤ c16) (h17 : (Kd.int .i64).C w A17 s.f10.length s.f10) (l17 : s.f10.length ≤ c17) (b7 : s.f4.f1.length < 4611686018427387904) (b9 : s.f5.f1.length < 4611686018427387904) (h : s.f0 = 5) (t0 : plB f.f1 s.f4 = true) (t1 : plB f.f1 s.f5 = true) :
    Calls Try.prog 31 #[.agg #[.slice A0 l.length c0, .string f.f0, .slice A2 f.f1.length c2, .int .i64 f.f2, .int .i64 f.f3, .bool f.f4, .slice A6 f.f5.length c6], .agg #[.int .i64 s.f0, .int .i64 s.f1, .bool s.f2.f0, .int .i64 s.f2.f1, .bool s.f3.f0, .int .i64 s.f3.f1, .int .i64 s.f4.f0, .slice A7 s.f4.f1.length c7, .int .i64 s.f5.f0, .slice A9 s.f5.f1.length c9, .int .i64 s.f6, .string s.f7, .int .i64 s.f8.f0, .string s.f8.f1, .int .i64 s.f8.f2, .slice A15 s.f8.f3.length c15, .slice A16 s.f9.length c16, .slice A17 s.f10.length c17]] w fun e w' => e = .returned (.bool (woB s.f6)) ∧ Below w.heap.size w w' := by
  have hu101 := Try.underlying101
  have hu40 := Try.underlying40
  have HF := Aside0.mk H
  have H7 := Aside0.mk h7
  have H9 := Aside0.mk h9
  have HL := Aside0.mk (And.intro l7 (And.intro l9 l16))
  have X := Aside0.mk (FB.new w #[.slice A0 l.length c0, .string f.f0, .slice A2 f.f1.length c2, .int .i64 f.f2, .int .i64 f.f3, .bool f.f4, .slice A6 f.f5.length c6] 101 #[.int .i64 s.f0, .int .i64 s.f1, .bool s.f2.f0, .int .i64 s.f2.f1, .bool s.f3.f0, .int .i64 s.f3.f1, .int .i64 s.f4.f0, .slice A7 s.f4.f1.length c7, .int .i64 s.f5.f0, .slice A9 s.f5.f1.length c9, .int .i64 s.f6, .string s.f7, .int .i64 s.f8.f0, .string s.f8.f1, .int .i64 s.f8.f2, .slice A15 s.f8.f3.length c15, .slice A16 s.f9.length c16, .slice A17 s.f10.length c17] 40)
  have m0 := X.out.b1.cell 0
  have m1 := X.out.b1.cell 1
  have m2 := X.out.b1.cell 2
  have m3 := X.out.b1.cell 3
  have m4 := X.out.b1.cell 4
  have m5 := X.out.b1.cell 5
  have m6 := X.out.b1.cell 6
  have n0 := X.out.b2.cell 0
  have n1 := X.out.b2.cell 1
  have n2 := X.out.b2.cell 2
  have n3 := X.out.b2.cell 3
  have n4 := X.out.b2.cell 4
  have n5 := X.out.b2.cell 5
  have n6 := X.out.b2.cell 6
  have n7 := X.out.b2.cell 7
  have n8 := X.out.b2.cell 8
  have n9 := X.out.b2.cell 9
  have n10 := X.out.b2.cell 10
  have n11 := X.out.b2.cell 11
  have n12 := X.out.b2.cell 12
  have n13 := X.out.b2.cell 13
  have n14 := X.out.b2.cell 14
  have n15 := X.out.b2.cell 15
  have n16 := X.out.b2.cell 16
  have n17 := X.out.b2.cell 17
  simp only [List.getElem?_toArray, List.getElem?_cons_zero, List.getElem?_cons_succ] at m0 m1 m2 m3 m4 m5 m6 n0 n1 n2 n3 n4 n5 n6 n7 n8 n9 n10 n11 n12 n13 n14 n15 n16 n17
  have d1 : (s.f0 == 1) = false := by simp [h]
  have d2 : (s.f0 == 2) = false := by simp [h]
  have d3 : (s.f0 == 3) = false := by simp [h]
  have d4 : (s.f0 == 4) = false := by simp [h]
  have d5 : (s.f0 == 5) = true := by simp [h]
  have d6 : (s.f0 == 6) = false := by simp [h]
  have d7 : (s.f0 == 7) = false := by simp [h]
  have d8 : (s.f0 == 8) = false := by simp [h]
  have d9 : (s.f0 == 9) = false := by simp [h]
  have d10 : (s.f0 == 10) = false := by simp [h]
  have d11 : (s.f0 == 11) = false := by simp [h]
  have d12 : (s.f0 == 12) = false := by simp [h]
  have d13 : (s.f0 == 13) = false := by simp [h]
  have d14 : (s.f0 == 14) = false := by simp [h]
  have d15 : (s.f0 == 15) = false := by simp [h]
  clear H h7 h9 h16 h17 l7 l9 l16 l17 h
  go_enter Try.func31, Try.ntmps31
  go_wp2_with (first | (go_at_call 60; with_reducible refine (pl_said (HF.out.below X.out.hb) s.f4 A7 c7 (Kd.C_below H7.out X.out.hb) HL.out.1 b7).mono ?_; rintro e w5 ⟨rfl, hb⟩; have XX := Aside0.mk (X.out.below hb); clear X; have X := XX; clear XX; have m0 := pw_cell_below hb m0; have m1 := pw_cell_below hb m1; have m2 := pw_cell_below hb m2; have m3 := pw_cell_below hb m3; have m4 := pw_cell_below hb m4; have m5 := pw_cell_below hb m5; have m6 := pw_cell_below hb m6; have n0 := pw_cell_below hb n0; have n1 := pw_cell_below hb n1; have n2 := pw_cell_below hb n2; have n3 := pw_cell_below hb n3; have n4 := pw_cell_below hb n4; have n5 := pw_cell_below hb n5; have n6 := pw_cell_below hb n6; have n7 := pw_cell_below hb n7; have n8 := pw_cell_below hb n8; have n9 := pw_cell_below hb n9; have n10 := pw_cell_below hb n10; have n11 := pw_cell_below hb n11; have n12 := pw_cell_below hb n12; have n13 := pw_cell_below hb n13; have n14 := pw_cell_below hb n14; have n15 := pw_cell_below hb n15; have n16 := pw_cell_below hb n16; have n17 := pw_cell_below hb n17; clear hb) | (go_at_call 60; with_reducible refine (pl_said (HF.out.below X.out.hb) s.f5 A9 c9 (Kd.C_below H9.out X.out.hb) HL.out.2.1 b9).mono ?_; rintro e w5 ⟨rfl, hb⟩; have XX := Aside0.mk (X.out.below hb); clear X; have X := XX; clear XX; have m0 := pw_cell_below hb m0; have m1 := pw_cell_below hb m1; have m2 := pw_cell_below hb m2; have m3 := pw_cell_below hb m3; have m4 := pw_cell_below hb m4; have m5 := pw_cell_below hb m5; have m6 := pw_cell_below hb m6; have n0 := pw_cell_below hb n0; have n1 := pw_cell_below hb n1; have n2 := pw_cell_below hb n2; have n3 := pw_cell_below hb n3; have n4 := pw_cell_below hb n4; have n5 := pw_cell_below hb n5; have n6 := pw_cell_below hb n6; have n7 := pw_cell_below hb n7; have n8 := pw_cell_below hb n8; have n9 := pw_cell_below hb n9; have n10 := pw_cell_below hb n10; have n11 := pw_cell_below hb n11; have n12 := pw_cell_below hb n12; have n13 := pw_cell_below hb n13; have n14 := pw_cell_below hb n14; have n15 := pw_cell_below hb n15; have n16 := pw_cell_below hb n16; have n17 := pw_cell_below hb n17; clear hb) | (go_at_call 61; with_reducible refine (wo_said s.f6 _).mono ?_; rintro e w5 ⟨rfl, hb⟩; have XX := Aside0.mk (X.out.below hb); clear X; have X := XX; clear XX; have m0 := pw_cell_below hb m0; have m1 := pw_cell_below hb m1; have m2 := pw_cell_below hb m2; have m3 := pw_cell_below hb m3; have m4 := pw_cell_below hb m4; have m5 := pw_cell_below hb m5; have m6 := pw_cell_below hb m6; have n0 := pw_cell_below hb n0; have n1 := pw_cell_below hb n1; have n2 := pw_cell_below hb n2; have n3 := pw_cell_below hb n3; have n4 := pw_cell_below hb n4; have n5 := pw_cell_below hb n5; have n6 := pw_cell_below hb n6; have n7 := pw_cell_below hb n7; have n8 := pw_cell_below hb n8; have n9 := pw_cell_below hb n9; have n10 := pw_cell_below hb n10; have n11 := pw_cell_below hb n11; have n12 := pw_cell_below hb n12; have n13 := pw_cell_below hb n13; have n14 := pw_cell_below hb n14; have n15 := pw_cell_below hb n15; have n16 := pw_cell_below hb n16; have n17 := pw_cell_below hb n17; clear hb))
  go_ret
  exact ⟨rfl, X.out.hb⟩
theorem in_5 (l : List S48) (f : S48) (A0 : Option Addr) (c0 : Nat) (A2 : Option Addr) (c2 : Nat) (A6 : Option Addr) (c6 : Nat) (s : S40) (A7 A9 A15 A16 A17 : Option Addr) (c7 c9 c15 c16 c17 : Nat) (w : World) (H : FA w l f A0 c0 A2 c2 A6 c6) (h7 : k57.C w A7 s.f4.f1.length s.f4.f1) (l7 : s.f4.f1.length ≤ c7) (h9 : k57.C w A9 s.f5.f1.length s.f5.f1) (l9 : s.f5.f1.length ≤ c9) (h16 : k30.C w A16 s.f9.length s.f9) (l16 : s.f9.length ≤ c16) (h17 : (Kd.int .i64).C w A17 s.f10.length s.f10) (l17 : s.f10.length ≤ c17) (b7 : s.f4.f1.length < 4611686018427387904) (b9 : s.f5.f1.length < 4611686018427387904) (h : s.f0 = 5) :
    Calls Try.prog 31 #[.agg #[.slice A0 l.length c0, .string f.f0, .slice A2 f.f1.length c2, .int .i64 f.f2, .int .i64 f.f3, .bool f.f4, .slice A6 f.f5.length c6], .agg #[.int .i64 s.f0, .int .i64 s.f1, .bool s.f2.f0, .int .i64 s.f2.f1, .bool s.f3.f0, .int .i64 s.f3.f1, .int .i64 s.f4.f0, .slice A7 s.f4.f1.length c7, .int .i64 s.f5.f0, .slice A9 s.f5.f1.length c9, .int .i64 s.f6, .string s.f7, .int .i64 s.f8.f0, .string s.f8.f1, .int .i64 s.f8.f2, .slice A15 s.f8.f3.length c15, .slice A16 s.f9.length c16, .slice A17 s.f10.length c17]] w fun e w' => e = .returned (.bool ((plB f.f1 s.f4 && (plB f.f1 s.f5 && woB s.f6)))) ∧ Below w.heap.size w w' := by
  cases t0 : plB f.f1 s.f4 with
  | false => simpa [t0] using in_5_0 l f A0 c0 A2 c2 A6 c6 s A7 A9 A15 A16 A17 c7 c9 c15 c16 c17 w H h7 l7 h9 l9 h16 l16 h17 l17 b7 b9 h t0
  | true =>
    cases t1 : plB f.f1 s.f5 with
    | false => simpa [t1] using in_5_1 l f A0 c0 A2 c2 A6 c6 s A7 A9 A15 A16 A17 c7 c9 c15 c16 c17 w H h7 l7 h9 l9 h16 l16 h17 l17 b7 b9 h t0 t1
    | true =>
      simpa using in_5_2 l f A0 c0 A2 c2 A6 c6 s A7 A9 A15 A16 A17 c7 c9 c15 c16 c17 w H h7 l7 h9 l9 h16 l16 h17 l17 b7 b9 h t0 t1
set_option maxRecDepth 100000 in
set_option maxHeartbeats 4000000 in
theorem in_7_0 (l : List S48) (f : S48) (A0 : Option Addr) (c0 : Nat) (A2 : Option Addr) (c2 : Nat) (A6 : Option Addr) (c6 : Nat) (s : S40) (A7 A9 A15 A16 A17 : Option Addr) (c7 c9 c15 c16 c17 : Nat) (w : World) (H : FA w l f A0 c0 A2 c2 A6 c6) (h7 : k57.C w A7 s.f4.f1.length s.f4.f1) (l7 : s.f4.f1.length ≤ c7) (h9 : k57.C w A9 s.f5.f1.length s.f5.f1) (l9 : s.f5.f1.length ≤ c9) (h16 : k30.C w A16 s.f9.length s.f9) (l16 : s.f9.length ≤ c16) (h17 : (Kd.int .i64).C w A17 s.f10.length s.f10) (l17 : s.f10.length ≤ c17) (b7 : s.f4.f1.length < 4611686018427387904) (b9 : s.f5.f1.length < 4611686018427387904) (h : s.f0 = 7) (t0 : scB f.f1 s.f1 = false) :
    Calls Try.prog 31 #[.agg #[.slice A0 l.length c0, .string f.f0, .slice A2 f.f1.length c2, .int .i64 f.f2, .int .i64 f.f3, .bool f.f4, .slice A6 f.f5.length c6], .agg #[.int .i64 s.f0, .int .i64 s.f1, .bool s.f2.f0, .int .i64 s.f2.f1, .bool s.f3.f0, .int .i64 s.f3.f1, .int .i64 s.f4.f0, .slice A7 s.f4.f1.length c7, .int .i64 s.f5.f0, .slice A9 s.f5.f1.length c9, .int .i64 s.f6, .string s.f7, .int .i64 s.f8.f0, .string s.f8.f1, .int .i64 s.f8.f2, .slice A15 s.f8.f3.length c15, .slice A16 s.f9.length c16, .slice A17 s.f10.length c17]] w fun e w' => e = .returned (.bool false) ∧ Below w.heap.size w w' := by
  have hu101 := Try.underlying101
  have hu40 := Try.underlying40
  have HF := Aside0.mk H
  have H7 := Aside0.mk h7
  have H9 := Aside0.mk h9
  have HL := Aside0.mk (And.intro l7 (And.intro l9 l16))
  have X := Aside0.mk (FB.new w #[.slice A0 l.length c0, .string f.f0, .slice A2 f.f1.length c2, .int .i64 f.f2, .int .i64 f.f3, .bool f.f4, .slice A6 f.f5.length c6] 101 #[.int .i64 s.f0, .int .i64 s.f1, .bool s.f2.f0, .int .i64 s.f2.f1, .bool s.f3.f0, .int .i64 s.f3.f1, .int .i64 s.f4.f0, .slice A7 s.f4.f1.length c7, .int .i64 s.f5.f0, .slice A9 s.f5.f1.length c9, .int .i64 s.f6, .string s.f7, .int .i64 s.f8.f0, .string s.f8.f1, .int .i64 s.f8.f2, .slice A15 s.f8.f3.length c15, .slice A16 s.f9.length c16, .slice A17 s.f10.length c17] 40)
  have m0 := X.out.b1.cell 0
  have m1 := X.out.b1.cell 1
  have m2 := X.out.b1.cell 2
  have m3 := X.out.b1.cell 3
  have m4 := X.out.b1.cell 4
  have m5 := X.out.b1.cell 5
  have m6 := X.out.b1.cell 6
  have n0 := X.out.b2.cell 0
  have n1 := X.out.b2.cell 1
  have n2 := X.out.b2.cell 2
  have n3 := X.out.b2.cell 3
  have n4 := X.out.b2.cell 4
  have n5 := X.out.b2.cell 5
  have n6 := X.out.b2.cell 6
  have n7 := X.out.b2.cell 7
  have n8 := X.out.b2.cell 8
  have n9 := X.out.b2.cell 9
  have n10 := X.out.b2.cell 10
  have n11 := X.out.b2.cell 11
  have n12 := X.out.b2.cell 12
  have n13 := X.out.b2.cell 13
  have n14 := X.out.b2.cell 14
  have n15 := X.out.b2.cell 15
  have n16 := X.out.b2.cell 16
  have n17 := X.out.b2.cell 17
  simp only [List.getElem?_toArray, List.getElem?_cons_zero, List.getElem?_cons_succ] at m0 m1 m2 m3 m4 m5 m6 n0 n1 n2 n3 n4 n5 n6 n7 n8 n9 n10 n11 n12 n13 n14 n15 n16 n17
  have d1 : (s.f0 == 1) = false := by simp [h]
  have d2 : (s.f0 == 2) = false := by simp [h]
  have d3 : (s.f0 == 3) = false := by simp [h]
  have d4 : (s.f0 == 4) = false := by simp [h]
  have d5 : (s.f0 == 5) = false := by simp [h]
  have d6 : (s.f0 == 6) = false := by simp [h]
  have d7 : (s.f0 == 7) = true := by simp [h]
  have d8 : (s.f0 == 8) = false := by simp [h]
  have d9 : (s.f0 == 9) = false := by simp [h]
  have d10 : (s.f0 == 10) = false := by simp [h]
  have d11 : (s.f0 == 11) = false := by simp [h]
  have d12 : (s.f0 == 12) = false := by simp [h]
  have d13 : (s.f0 == 13) = false := by simp [h]
  have d14 : (s.f0 == 14) = false := by simp [h]
  have d15 : (s.f0 == 15) = false := by simp [h]
  clear H h7 h9 h16 h17 l7 l9 l16 l17 h
  go_enter Try.func31, Try.ntmps31
  go_wp2_with (go_at_call 57; with_reducible refine (sc_said (HF.out.below X.out.hb) s.f1).mono ?_; rintro e w5 ⟨rfl, hb⟩; have XX := Aside0.mk (X.out.below hb); clear X; have X := XX; clear XX; have m0 := pw_cell_below hb m0; have m1 := pw_cell_below hb m1; have m2 := pw_cell_below hb m2; have m3 := pw_cell_below hb m3; have m4 := pw_cell_below hb m4; have m5 := pw_cell_below hb m5; have m6 := pw_cell_below hb m6; have n0 := pw_cell_below hb n0; have n1 := pw_cell_below hb n1; have n2 := pw_cell_below hb n2; have n3 := pw_cell_below hb n3; have n4 := pw_cell_below hb n4; have n5 := pw_cell_below hb n5; have n6 := pw_cell_below hb n6; have n7 := pw_cell_below hb n7; have n8 := pw_cell_below hb n8; have n9 := pw_cell_below hb n9; have n10 := pw_cell_below hb n10; have n11 := pw_cell_below hb n11; have n12 := pw_cell_below hb n12; have n13 := pw_cell_below hb n13; have n14 := pw_cell_below hb n14; have n15 := pw_cell_below hb n15; have n16 := pw_cell_below hb n16; have n17 := pw_cell_below hb n17; clear hb)
  go_ret
  exact ⟨rfl, X.out.hb⟩
set_option maxRecDepth 100000 in
set_option maxHeartbeats 4000000 in
theorem in_7_1 (l : List S48) (f : S48) (A0 : Option Addr) (c0 : Nat) (A2 : Option Addr) (c2 : Nat) (A6 : Option Addr) (c6 : Nat) (s : S40) (A7 A9 A15 A16 A17 : Option Addr) (c7 c9 c15 c16 c17 : Nat) (w : World) (H : FA w l f A0 c0 A2 c2 A6 c6) (h7 : k57.C w A7 s.f4.f1.length s.f4.f1) (l7 : s.f4.f1.length ≤ c7) (h9 : k57.C w A9 s.f5.f1.length s.f5.f1) (l9 : s.f5.f1.length ≤ c9) (h16 : k30.C w A16 s.f9.length s.f9) (l16 : s.f9.length ≤ c16) (h17 : (Kd.int .i64).C w A17 s.f10.length s.f10) (l17 : s.f10.length ≤ c17) (b7 : s.f4.f1.length < 4611686018427387904) (b9 : s.f5.f1.length < 4611686018427387904) (h : s.f0 = 7) (t0 : scB f.f1 s.f1 = true) :
    Calls Try.prog 31 #[.agg #[.slice A0 l.length c0, .string f.f0, .slice A2 f.f1.length c2, .int .i64 f.f2, .int .i64 f.f3, .bool f.f4, .slice A6 f.f5.length c6], .agg #[.int .i64 s.f0, .int .i64 s.f1, .bool s.f2.f0, .int .i64 s.f2.f1, .bool s.f3.f0, .int .i64 s.f3.f1, .int .i64 s.f4.f0, .slice A7 s.f4.f1.length c7, .int .i64 s.f5.f0, .slice A9 s.f5.f1.length c9, .int .i64 s.f6, .string s.f7, .int .i64 s.f8.f0, .string s.f8.f1, .int .i64 s.f8.f2, .slice A15 s.f8.f3.length c15, .slice A16 s.f9.length c16, .slice A17 s.f10.length c17]] w fun e w' => e = .returned (.bool (woB s.f6)) ∧ Below w.heap.size w w' := by
  have hu101 := Try.underlying101
  have hu40 := Try.underlying40
  have HF := Aside0.mk H
  have H7 := Aside0.mk h7
  have H9 := Aside0.mk h9
  have HL := Aside0.mk (And.intro l7 (And.intro l9 l16))
  have X := Aside0.mk (FB.new w #[.slice A0 l.length c0, .string f.f0, .slice A2 f.f1.length c2, .int .i64 f.f2, .int .i64 f.f3, .bool f.f4, .slice A6 f.f5.length c6] 101 #[.int .i64 s.f0, .int .i64 s.f1, .bool s.f2.f0, .int .i64 s.f2.f1, .bool s.f3.f0, .int .i64 s.f3.f1, .int .i64 s.f4.f0, .slice A7 s.f4.f1.length c7, .int .i64 s.f5.f0, .slice A9 s.f5.f1.length c9, .int .i64 s.f6, .string s.f7, .int .i64 s.f8.f0, .string s.f8.f1, .int .i64 s.f8.f2, .slice A15 s.f8.f3.length c15, .slice A16 s.f9.length c16, .slice A17 s.f10.length c17] 40)
  have m0 := X.out.b1.cell 0
  have m1 := X.out.b1.cell 1
  have m2 := X.out.b1.cell 2
  have m3 := X.out.b1.cell 3
  have m4 := X.out.b1.cell 4
  have m5 := X.out.b1.cell 5
  have m6 := X.out.b1.cell 6
  have n0 := X.out.b2.cell 0
  have n1 := X.out.b2.cell 1
  have n2 := X.out.b2.cell 2
  have n3 := X.out.b2.cell 3
  have n4 := X.out.b2.cell 4
  have n5 := X.out.b2.cell 5
  have n6 := X.out.b2.cell 6
  have n7 := X.out.b2.cell 7
  have n8 := X.out.b2.cell 8
  have n9 := X.out.b2.cell 9
  have n10 := X.out.b2.cell 10
  have n11 := X.out.b2.cell 11
  have n12 := X.out.b2.cell 12
  have n13 := X.out.b2.cell 13
  have n14 := X.out.b2.cell 14
  have n15 := X.out.b2.cell 15
  have n16 := X.out.b2.cell 16
  have n17 := X.out.b2.cell 17
  simp only [List.getElem?_toArray, List.getElem?_cons_zero, List.getElem?_cons_succ] at m0 m1 m2 m3 m4 m5 m6 n0 n1 n2 n3 n4 n5 n6 n7 n8 n9 n10 n11 n12 n13 n14 n15 n16 n17
  have d1 : (s.f0 == 1) = false := by simp [h]
  have d2 : (s.f0 == 2) = false := by simp [h]
  have d3 : (s.f0 == 3) = false := by simp [h]
  have d4 : (s.f0 == 4) = false := by simp [h]
  have d5 : (s.f0 == 5) = false := by simp [h]
  have d6 : (s.f0 == 6) = false := by simp [h]
  have d7 : (s.f0 == 7) = true := by simp [h]
  have d8 : (s.f0 == 8) = false := by simp [h]
  have d9 : (s.f0 == 9) = false := by simp [h]
  have d10 : (s.f0 == 10) = false := by simp [h]
  have d11 : (s.f0 == 11) = false := by simp [h]
  have d12 : (s.f0 == 12) = false := by simp [h]
  have d13 : (s.f0 == 13) = false := by simp [h]
  have d14 : (s.f0 == 14) = false := by simp [h]
  have d15 : (s.f0 == 15) = false := by simp [h]
  clear H h7 h9 h16 h17 l7 l9 l16 l17 h
  go_enter Try.func31, Try.ntmps31
  go_wp2_with (first | (go_at_call 57; with_reducible refine (sc_said (HF.out.below X.out.hb) s.f1).mono ?_; rintro e w5 ⟨rfl, hb⟩; have XX := Aside0.mk (X.out.below hb); clear X; have X := XX; clear XX; have m0 := pw_cell_below hb m0; have m1 := pw_cell_below hb m1; have m2 := pw_cell_below hb m2; have m3 := pw_cell_below hb m3; have m4 := pw_cell_below hb m4; have m5 := pw_cell_below hb m5; have m6 := pw_cell_below hb m6; have n0 := pw_cell_below hb n0; have n1 := pw_cell_below hb n1; have n2 := pw_cell_below hb n2; have n3 := pw_cell_below hb n3; have n4 := pw_cell_below hb n4; have n5 := pw_cell_below hb n5; have n6 := pw_cell_below hb n6; have n7 := pw_cell_below hb n7; have n8 := pw_cell_below hb n8; have n9 := pw_cell_below hb n9; have n10 := pw_cell_below hb n10; have n11 := pw_cell_below hb n11; have n12 := pw_cell_below hb n12; have n13 := pw_cell_below hb n13; have n14 := pw_cell_below hb n14; have n15 := pw_cell_below hb n15; have n16 := pw_cell_below hb n16; have n17 := pw_cell_below hb n17; clear hb) | (go_at_call 61; with_reducible refine (wo_said s.f6 _).mono ?_; rintro e w5 ⟨rfl, hb⟩; have XX := Aside0.mk (X.out.below hb); clear X; have X := XX; clear XX; have m0 := pw_cell_below hb m0; have m1 := pw_cell_below hb m1; have m2 := pw_cell_below hb m2; have m3 := pw_cell_below hb m3; have m4 := pw_cell_below hb m4; have m5 := pw_cell_below hb m5; have m6 := pw_cell_below hb m6; have n0 := pw_cell_below hb n0; have n1 := pw_cell_below hb n1; have n2 := pw_cell_below hb n2; have n3 := pw_cell_below hb n3; have n4 := pw_cell_below hb n4; have n5 := pw_cell_below hb n5; have n6 := pw_cell_below hb n6; have n7 := pw_cell_below hb n7; have n8 := pw_cell_below hb n8; have n9 := pw_cell_below hb n9; have n10 := pw_cell_below hb n10; have n11 := pw_cell_below hb n11; have n12 := pw_cell_below hb n12; have n13 := pw_cell_below hb n13; have n14 := pw_cell_below hb n14; have n15 := pw_cell_below hb n15; have n16 := pw_cell_below hb n16; have n17 := pw_cell_below hb n17; clear hb))
  go_ret
  exact ⟨rfl, X.out.hb⟩
theorem in_7 (l : List S48) (f : S48) (A0 : Option Addr) (c0 : Nat) (A2 : Option Addr) (c2 : Nat) (A6 : Option Addr) (c6 : Nat) (s : S40) (A7 A9 A15 A16 A17 : Option Addr) (c7 c9 c15 c16 c17 : Nat) (w : World) (H : FA w l f A0 c0 A2 c2 A6 c6) (h7 : k57.C w A7 s.f4.f1.length s.f4.f1) (l7 : s.f4.f1.length ≤ c7) (h9 : k57.C w A9 s.f5.f1.length s.f5.f1) (l9 : s.f5.f1.length ≤ c9) (h16 : k30.C w A16 s.f9.length s.f9) (l16 : s.f9.length ≤ c16) (h17 : (Kd.int .i64).C w A17 s.f10.length s.f10) (l17 : s.f10.length ≤ c17) (b7 : s.f4.f1.length < 4611686018427387904) (b9 : s.f5.f1.length < 4611686018427387904) (h : s.f0 = 7) :
    Calls Try.prog 31 #[.agg #[.slice A0 l.length c0, .string f.f0, .slice A2 f.f1.length c2, .int .i64 f.f2, .int .i64 f.f3, .bool f.f4, .slice A6 f.f5.length c6], .agg #[.int .i64 s.f0, .int .i64 s.f1, .bool s.f2.f0, .int .i64 s.f2.f1, .bool s.f3.f0, .int .i64 s.f3.f1, .int .i64 s.f4.f0, .slice A7 s.f4.f1.length c7, .int .i64 s.f5.f0, .slice A9 s.f5.f1.length c9, .int .i64 s.f6, .string s.f7, .int .i64 s.f8.f0, .string s.f8.f1, .int .i64 s.f8.f2, .slice A15 s.f8.f3.length c15, .slice A16 s.f9.length c16, .slice A17 s.f10.length c17]] w fun e w' => e = .returned (.bool ((scB f.f1 s.f1 && woB s.f6))) ∧ Below w.heap.size w w' := by
  cases t0 : scB f.f1 s.f1 with
  | false => simpa [t0] using in_7_0 l f A0 c0 A2 c2 A6 c6 s A7 A9 A15 A16 A17 c7 c9 c15 c16 c17 w H h7 l7 h9 l9 h16 l16 h17 l17 b7 b9 h t0
  | true =>
    simpa using in_7_1 l f A0 c0 A2 c2 A6 c6 s A7 A9 A15 A16 A17 c7 c9 c15 c16 c17 w H h7 l7 h9 l9 h16 l16 h17 l17 b7 b9 h t0
set_option maxRecDepth 100000 in
set_option maxHeartbeats 4000000 in
theorem in_8_0 (l : List S48) (f : S48) (A0 : Option Addr) (c0 : Nat) (A2 : Option Addr) (c2 : Nat) (A6 : Option Addr) (c6 : Nat) (s : S40) (A7 A9 A15 A16 A17 : Option Addr) (c7 c9 c15 c16 c17 : Nat) (w : World) (H : FA w l f A0 c0 A2 c2 A6 c6) (h7 : k57.C w A7 s.f4.f1.length s.f4.f1) (l7 : s.f4.f1.length ≤ c7) (h9 : k57.C w A9 s.f5.f1.length s.f5.f1) (l9 : s.f5.f1.length ≤ c9) (h16 : k30.C w A16 s.f9.length s.f9) (l16 : s.f9.length ≤ c16) (h17 : (Kd.int .i64).C w A17 s.f10.length s.f10) (l17 : s.f10.length ≤ c17) (b7 : s.f4.f1.length < 4611686018427387904) (b9 : s.f5.f1.length < 4611686018427387904) (h : s.f0 = 8) :
    Calls Try.prog 31 #[.agg #[.slice A0 l.length c0, .string f.f0, .slice A2 f.f1.length c2, .int .i64 f.f2, .int .i64 f.f3, .bool f.f4, .slice A6 f.f5.length c6], .agg #[.int .i64 s.f0, .int .i64 s.f1, .bool s.f2.f0, .int .i64 s.f2.f1, .bool s.f3.f0, .int .i64 s.f3.f1, .int .i64 s.f4.f0, .slice A7 s.f4.f1.length c7, .int .i64 s.f5.f0, .slice A9 s.f5.f1.length c9, .int .i64 s.f6, .string s.f7, .int .i64 s.f8.f0, .string s.f8.f1, .int .i64 s.f8.f2, .slice A15 s.f8.f3.length c15, .slice A16 s.f9.length c16, .slice A17 s.f10.length c17]] w fun e w' => e = .returned (.bool (opB f.f1 s.f2)) ∧ Below w.heap.size w w' := by
  have hu101 := Try.underlying101
  have hu40 := Try.underlying40
  have HF := Aside0.mk H
  have H7 := Aside0.mk h7
  have H9 := Aside0.mk h9
  have HL := Aside0.mk (And.intro l7 (And.intro l9 l16))
  have X := Aside0.mk (FB.new w #[.slice A0 l.length c0, .string f.f0, .slice A2 f.f1.length c2, .int .i64 f.f2, .int .i64 f.f3, .bool f.f4, .slice A6 f.f5.length c6] 101 #[.int .i64 s.f0, .int .i64 s.f1, .bool s.f2.f0, .int .i64 s.f2.f1, .bool s.f3.f0, .int .i64 s.f3.f1, .int .i64 s.f4.f0, .slice A7 s.f4.f1.length c7, .int .i64 s.f5.f0, .slice A9 s.f5.f1.length c9, .int .i64 s.f6, .string s.f7, .int .i64 s.f8.f0, .string s.f8.f1, .int .i64 s.f8.f2, .slice A15 s.f8.f3.length c15, .slice A16 s.f9.length c16, .slice A17 s.f10.length c17] 40)
  have m0 := X.out.b1.cell 0
  have m1 := X.out.b1.cell 1
  have m2 := X.out.b1.cell 2
  have m3 := X.out.b1.cell 3
  have m4 := X.out.b1.cell 4
  have m5 := X.out.b1.cell 5
  have m6 := X.out.b1.cell 6
  have n0 := X.out.b2.cell 0
  have n1 := X.out.b2.cell 1
  have n2 := X.out.b2.cell 2
  have n3 := X.out.b2.cell 3
  have n4 := X.out.b2.cell 4
  have n5 := X.out.b2.cell 5
  have n6 := X.out.b2.cell 6
  have n7 := X.out.b2.cell 7
  have n8 := X.out.b2.cell 8
  have n9 := X.out.b2.cell 9
  have n10 := X.out.b2.cell 10
  have n11 := X.out.b2.cell 11
  have n12 := X.out.b2.cell 12
  have n13 := X.out.b2.cell 13
  have n14 := X.out.b2.cell 14
  have n15 := X.out.b2.cell 15
  have n16 := X.out.b2.cell 16
  have n17 := X.out.b2.cell 17
  simp only [List.getElem?_toArray, List.getElem?_cons_zero, List.getElem?_cons_succ] at m0 m1 m2 m3 m4 m5 m6 n0 n1 n2 n3 n4 n5 n6 n7 n8 n9 n10 n11 n12 n13 n14 n15 n16 n17
  have d1 : (s.f0 == 1) = false := by simp [h]
  have d2 : (s.f0 == 2) = false := by simp [h]
  have d3 : (s.f0 == 3) = false := by simp [h]
  have d4 : (s.f0 == 4) = false := by simp [h]
  have d5 : (s.f0 == 5) = false := by simp [h]
  have d6 : (s.f0 == 6) = false := by simp [h]
  have d7 : (s.f0 == 7) = false := by simp [h]
  have d8 : (s.f0 == 8) = true := by simp [h]
  have d9 : (s.f0 == 9) = false := by simp [h]
  have d10 : (s.f0 == 10) = false := by simp [h]
  have d11 : (s.f0 == 11) = false := by simp [h]
  have d12 : (s.f0 == 12) = false := by simp [h]
  have d13 : (s.f0 == 13) = false := by simp [h]
  have d14 : (s.f0 == 14) = false := by simp [h]
  have d15 : (s.f0 == 15) = false := by simp [h]
  clear H h7 h9 h16 h17 l7 l9 l16 l17 h
  go_enter Try.func31, Try.ntmps31
  go_wp2_with (go_at_call 58; with_reducible refine (op_said (HF.out.below X.out.hb) s.f2).mono ?_; rintro e w5 ⟨rfl, hb⟩; have XX := Aside0.mk (X.out.below hb); clear X; have X := XX; clear XX; have m0 := pw_cell_below hb m0; have m1 := pw_cell_below hb m1; have m2 := pw_cell_below hb m2; have m3 := pw_cell_below hb m3; have m4 := pw_cell_below hb m4; have m5 := pw_cell_below hb m5; have m6 := pw_cell_below hb m6; have n0 := pw_cell_below hb n0; have n1 := pw_cell_below hb n1; have n2 := pw_cell_below hb n2; have n3 := pw_cell_below hb n3; have n4 := pw_cell_below hb n4; have n5 := pw_cell_below hb n5; have n6 := pw_cell_below hb n6; have n7 := pw_cell_below hb n7; have n8 := pw_cell_below hb n8; have n9 := pw_cell_below hb n9; have n10 := pw_cell_below hb n10; have n11 := pw_cell_below hb n11; have n12 := pw_cell_below hb n12; have n13 := pw_cell_below hb n13; have n14 := pw_cell_below hb n14; have n15 := pw_cell_below hb n15; have n16 := pw_cell_below hb n16; have n17 := pw_cell_below hb n17; clear hb)
  go_ret
  exact ⟨rfl, X.out.hb⟩
theorem in_8 (l : List S48) (f : S48) (A0 : Option Addr) (c0 : Nat) (A2 : Option Addr) (c2 : Nat) (A6 : Option Addr) (c6 : Nat) (s : S40) (A7 A9 A15 A16 A17 : Option Addr) (c7 c9 c15 c16 c17 : Nat) (w : World) (H : FA w l f A0 c0 A2 c2 A6 c6) (h7 : k57.C w A7 s.f4.f1.length s.f4.f1) (l7 : s.f4.f1.length ≤ c7) (h9 : k57.C w A9 s.f5.f1.length s.f5.f1) (l9 : s.f5.f1.length ≤ c9) (h16 : k30.C w A16 s.f9.length s.f9) (l16 : s.f9.length ≤ c16) (h17 : (Kd.int .i64).C w A17 s.f10.length s.f10) (l17 : s.f10.length ≤ c17) (b7 : s.f4.f1.length < 4611686018427387904) (b9 : s.f5.f1.length < 4611686018427387904) (h : s.f0 = 8) :
    Calls Try.prog 31 #[.agg #[.slice A0 l.length c0, .string f.f0, .slice A2 f.f1.length c2, .int .i64 f.f2, .int .i64 f.f3, .bool f.f4, .slice A6 f.f5.length c6], .agg #[.int .i64 s.f0, .int .i64 s.f1, .bool s.f2.f0, .int .i64 s.f2.f1, .bool s.f3.f0, .int .i64 s.f3.f1, .int .i64 s.f4.f0, .slice A7 s.f4.f1.length c7, .int .i64 s.f5.f0, .slice A9 s.f5.f1.length c9, .int .i64 s.f6, .string s.f7, .int .i64 s.f8.f0, .string s.f8.f1, .int .i64 s.f8.f2, .slice A15 s.f8.f3.length c15, .slice A16 s.f9.length c16, .slice A17 s.f10.length c17]] w fun e w' => e = .returned (.bool (opB f.f1 s.f2)) ∧ Below w.heap.size w w' := by
  simpa using in_8_0 l f A0 c0 A2 c2 A6 c6 s A7 A9 A15 A16 A17 c7 c9 c15 c16 c17 w H h7 l7 h9 l9 h16 l16 h17 l17 b7 b9 h
set_option maxRecDepth 100000 in
set_option maxHeartbeats 4000000 in
theorem in_13_0 (l : List S48) (f : S48) (A0 : Option Addr) (c0 : Nat) (A2 : Option Addr) (c2 : Nat) (A6 : Option Addr) (c6 : Nat) (s : S40) (A7 A9 A15 A16 A17 : Option Addr) (c7 c9 c15 c16 c17 : Nat) (w : World) (H : FA w l f A0 c0 A2 c2 A6 c6) (h7 : k57.C w A7 s.f4.f1.length s.f4.f1) (l7 : s.f4.f1.length ≤ c7) (h9 : k57.C w A9 s.f5.f1.length s.f5.f1) (l9 : s.f5.f1.length ≤ c9) (h16 : k30.C w A16 s.f9.length s.f9) (l16 : s.f9.length ≤ c16) (h17 : (Kd.int .i64).C w A17 s.f10.length s.f10) (l17 : s.f10.length ≤ c17) (b7 : s.f4.f1.length < 4611686018427387904) (b9 : s.f5.f1.length < 4611686018427387904) (h : s.f0 = 13) :
    Calls Try.prog 31 #[.agg #[.slice A0 l.length c0, .string f.f0, .slice A2 f.f1.length c2, .int .i64 f.f2, .int .i64 f.f3, .bool f.f4, .slice A6 f.f5.length c6], .agg #[.int .i64 s.f0, .int .i64 s.f1, .bool s.f2.f0, .int .i64 s.f2.f1, .bool s.f3.f0, .int .i64 s.f3.f1, .int .i64 s.f4.f0, .slice A7 s.f4.f1.length c7, .int .i64 s.f5.f0, .slice A9 s.f5.f1.length c9, .int .i64 s.f6, .string s.f7, .int .i64 s.f8.f0, .string s.f8.f1, .int .i64 s.f8.f2, .slice A15 s.f8.f3.length c15, .slice A16 s.f9.length c16, .slice A17 s.f10.length c17]] w fun e w' => e = .returned (.bool (opB f.f1 s.f2)) ∧ Below w.heap.size w w' := by
  have hu101 := Try.underlying101
  have hu40 := Try.underlying40
  have HF := Aside0.mk H
  have H7 := Aside0.mk h7
  have H9 := Aside0.mk h9
  have HL := Aside0.mk (And.intro l7 (And.intro l9 l16))
  have X := Aside0.mk (FB.new w #[.slice A0 l.length c0, .string f.f0, .slice A2 f.f1.length c2, .int .i64 f.f2, .int .i64 f.f3, .bool f.f4, .slice A6 f.f5.length c6] 101 #[.int .i64 s.f0, .int .i64 s.f1, .bool s.f2.f0, .int .i64 s.f2.f1, .bool s.f3.f0, .int .i64 s.f3.f1, .int .i64 s.f4.f0, .slice A7 s.f4.f1.length c7, .int .i64 s.f5.f0, .slice A9 s.f5.f1.length c9, .int .i64 s.f6, .string s.f7, .int .i64 s.f8.f0, .string s.f8.f1, .int .i64 s.f8.f2, .slice A15 s.f8.f3.length c15, .slice A16 s.f9.length c16, .slice A17 s.f10.length c17] 40)
  have m0 := X.out.b1.cell 0
  have m1 := X.out.b1.cell 1
  have m2 := X.out.b1.cell 2
  have m3 := X.out.b1.cell 3
  have m4 := X.out.b1.cell 4
  have m5 := X.out.b1.cell 5
  have m6 := X.out.b1.cell 6
  have n0 := X.out.b2.cell 0
  have n1 := X.out.b2.cell 1
  have n2 := X.out.b2.cell 2
  have n3 := X.out.b2.cell 3
  have n4 := X.out.b2.cell 4
  have n5 := X.out.b2.cell 5
  have n6 := X.out.b2.cell 6
  have n7 := X.out.b2.cell 7
  have n8 := X.out.b2.cell 8
  have n9 := X.out.b2.cell 9
  have n10 := X.out.b2.cell 10
  have n11 := X.out.b2.cell 11
  have n12 := X.out.b2.cell 12
  have n13 := X.out.b2.cell 13
  have n14 := X.out.b2.cell 14
  have n15 := X.out.b2.cell 15
  have n16 := X.out.b2.cell 16
  have n17 := X.out.b2.cell 17
  simp only [List.getElem?_toArray, List.getElem?_cons_zero, List.getElem?_cons_succ] at m0 m1 m2 m3 m4 m5 m6 n0 n1 n2 n3 n4 n5 n6 n7 n8 n9 n10 n11 n12 n13 n14 n15 n16 n17
  have d1 : (s.f0 == 1) = false := by simp [h]
  have d2 : (s.f0 == 2) = false := by simp [h]
  have d3 : (s.f0 == 3) = false := by simp [h]
  have d4 : (s.f0 == 4) = false := by simp [h]
  have d5 : (s.f0 == 5) = false := by simp [h]
  have d6 : (s.f0 == 6) = false := by simp [h]
  have d7 : (s.f0 == 7) = false := by simp [h]
  have d8 : (s.f0 == 8) = false := by simp [h]
  have d9 : (s.f0 == 9) = false := by simp [h]
  have d10 : (s.f0 == 10) = false := by simp [h]
  have d11 : (s.f0 == 11) = false := by simp [h]
  have d12 : (s.f0 == 12) = false := by simp [h]
  have d13 : (s.f0 == 13) = true := by simp [h]
  have d14 : (s.f0 == 14) = false := by simp [h]
  have d15 : (s.f0 == 15) = false := by simp [h]
  clear H h7 h9 h16 h17 l7 l9 l16 l17 h
  go_enter Try.func31, Try.ntmps31
  go_wp2_with (go_at_call 58; with_reducible refine (op_said (HF.out.below X.out.hb) s.f2).mono ?_; rintro e w5 ⟨rfl, hb⟩; have XX := Aside0.mk (X.out.below hb); clear X; have X := XX; clear XX; have m0 := pw_cell_below hb m0; have m1 := pw_cell_below hb m1; have m2 := pw_cell_below hb m2; have m3 := pw_cell_below hb m3; have m4 := pw_cell_below hb m4; have m5 := pw_cell_below hb m5; have m6 := pw_cell_below hb m6; have n0 := pw_cell_below hb n0; have n1 := pw_cell_below hb n1; have n2 := pw_cell_below hb n2; have n3 := pw_cell_below hb n3; have n4 := pw_cell_below hb n4; have n5 := pw_cell_below hb n5; have n6 := pw_cell_below hb n6; have n7 := pw_cell_below hb n7; have n8 := pw_cell_below hb n8; have n9 := pw_cell_below hb n9; have n10 := pw_cell_below hb n10; have n11 := pw_cell_below hb n11; have n12 := pw_cell_below hb n12; have n13 := pw_cell_below hb n13; have n14 := pw_cell_below hb n14; have n15 := pw_cell_below hb n15; have n16 := pw_cell_below hb n16; have n17 := pw_cell_below hb n17; clear hb)
  go_ret
  exact ⟨rfl, X.out.hb⟩
theorem in_13 (l : List S48) (f : S48) (A0 : Option Addr) (c0 : Nat) (A2 : Option Addr) (c2 : Nat) (A6 : Option Addr) (c6 : Nat) (s : S40) (A7 A9 A15 A16 A17 : Option Addr) (c7 c9 c15 c16 c17 : Nat) (w : World) (H : FA w l f A0 c0 A2 c2 A6 c6) (h7 : k57.C w A7 s.f4.f1.length s.f4.f1) (l7 : s.f4.f1.length ≤ c7) (h9 : k57.C w A9 s.f5.f1.length s.f5.f1) (l9 : s.f5.f1.length ≤ c9) (h16 : k30.C w A16 s.f9.length s.f9) (l16 : s.f9.length ≤ c16) (h17 : (Kd.int .i64).C w A17 s.f10.length s.f10) (l17 : s.f10.length ≤ c17) (b7 : s.f4.f1.length < 4611686018427387904) (b9 : s.f5.f1.length < 4611686018427387904) (h : s.f0 = 13) :
    Calls Try.prog 31 #[.agg #[.slice A0 l.length c0, .string f.f0, .slice A2 f.f1.length c2, .int .i64 f.f2, .int .i64 f.f3, .bool f.f4, .slice A6 f.f5.length c6], .agg #[.int .i64 s.f0, .int .i64 s.f1, .bool s.f2.f0, .int .i64 s.f2.f1, .bool s.f3.f0, .int .i64 s.f3.f1, .int .i64 s.f4.f0, .slice A7 s.f4.f1.length c7, .int .i64 s.f5.f0, .slice A9 s.f5.f1.length c9, .int .i64 s.f6, .string s.f7, .int .i64 s.f8.f0, .string s.f8.f1, .int .i64 s.f8.f2, .slice A15 s.f8.f3.length c15, .slice A16 s.f9.length c16, .slice A17 s.f10.length c17]] w fun e w' => e = .returned (.bool (opB f.f1 s.f2)) ∧ Below w.heap.size w w' := by
  simpa using in_13_0 l f A0 c0 A2 c2 A6 c6 s A7 A9 A15 A16 A17 c7 c9 c15 c16 c17 w H h7 l7 h9 l9 h16 l16 h17 l17 b7 b9 h
set_option maxRecDepth 100000 in
set_option maxHeartbeats 4000000 in
theorem in_10_0 (l : List S48) (f : S48) (A0 : Option Addr) (c0 : Nat) (A2 : Option Addr) (c2 : Nat) (A6 : Option Addr) (c6 : Nat) (s : S40) (A7 A9 A15 A16 A17 : Option Addr) (c7 c9 c15 c16 c17 : Nat) (w : World) (H : FA w l f A0 c0 A2 c2 A6 c6) (h7 : k57.C w A7 s.f4.f1.length s.f4.f1) (l7 : s.f4.f1.length ≤ c7) (h9 : k57.C w A9 s.f5.f1.length s.f5.f1) (l9 : s.f5.f1.length ≤ c9) (h16 : k30.C w A16 s.f9.length s.f9) (l16 : s.f9.length ≤ c16) (h17 : (Kd.int .i64).C w A17 s.f10.length s.f10) (l17 : s.f10.length ≤ c17) (b7 : s.f4.f1.length < 4611686018427387904) (b9 : s.f5.f1.length < 4611686018427387904) (h : s.f0 = 10) :
    Calls Try.prog 31 #[.agg #[.slice A0 l.length c0, .string f.f0, .slice A2 f.f1.length c2, .int .i64 f.f2, .int .i64 f.f3, .bool f.f4, .slice A6 f.f5.length c6], .agg #[.int .i64 s.f0, .int .i64 s.f1, .bool s.f2.f0, .int .i64 s.f2.f1, .bool s.f3.f0, .int .i64 s.f3.f1, .int .i64 s.f4.f0, .slice A7 s.f4.f1.length c7, .int .i64 s.f5.f0, .slice A9 s.f5.f1.length c9, .int .i64 s.f6, .string s.f7, .int .i64 s.f8.f0, .string s.f8.f1, .int .i64 s.f8.f2, .slice A15 s.f8.f3.length c15, .slice A16 s.f9.length c16, .slice A17 s.f10.length c17]] w fun e w' => e = .returned (.bool (laB f.f1 s.f1)) ∧ Below w.heap.size w w' := by
  have hu101 := Try.underlying101
  have hu40 := Try.underlying40
  have HF := Aside0.mk H
  have H7 := Aside0.mk h7
  have H9 := Aside0.mk h9
  have HL := Aside0.mk (And.intro l7 (And.intro l9 l16))
  have X := Aside0.mk (FB.new w #[.slice A0 l.length c0, .string f.f0, .slice A2 f.f1.length c2, .int .i64 f.f2, .int .i64 f.f3, .bool f.f4, .slice A6 f.f5.length c6] 101 #[.int .i64 s.f0, .int .i64 s.f1, .bool s.f2.f0, .int .i64 s.f2.f1, .bool s.f3.f0, .int .i64 s.f3.f1, .int .i64 s.f4.f0, .slice A7 s.f4.f1.length c7, .int .i64 s.f5.f0, .slice A9 s.f5.f1.length c9, .int .i64 s.f6, .string s.f7, .int .i64 s.f8.f0, .string s.f8.f1, .int .i64 s.f8.f2, .slice A15 s.f8.f3.length c15, .slice A16 s.f9.length c16, .slice A17 s.f10.length c17] 40)
  have m0 := X.out.b1.cell 0
  have m1 := X.out.b1.cell 1
  have m2 := X.out.b1.cell 2
  have m3 := X.out.b1.cell 3
  have m4 := X.out.b1.cell 4
  have m5 := X.out.b1.cell 5
  have m6 := X.out.b1.cell 6
  have n0 := X.out.b2.cell 0
  have n1 := X.out.b2.cell 1
  have n2 := X.out.b2.cell 2
  have n3 := X.out.b2.cell 3
  have n4 := X.out.b2.cell 4
  have n5 := X.out.b2.cell 5
  have n6 := X.out.b2.cell 6
  have n7 := X.out.b2.cell 7
  have n8 := X.out.b2.cell 8
  have n9 := X.out.b2.cell 9
  have n10 := X.out.b2.cell 10
  have n11 := X.out.b2.cell 11
  have n12 := X.out.b2.cell 12
  have n13 := X.out.b2.cell 13
  have n14 := X.out.b2.cell 14
  have n15 := X.out.b2.cell 15
  have n16 := X.out.b2.cell 16
  have n17 := X.out.b2.cell 17
  simp only [List.getElem?_toArray, List.getElem?_cons_zero, List.getElem?_cons_succ] at m0 m1 m2 m3 m4 m5 m6 n0 n1 n2 n3 n4 n5 n6 n7 n8 n9 n10 n11 n12 n13 n14 n15 n16 n17
  have d1 : (s.f0 == 1) = false := by simp [h]
  have d2 : (s.f0 == 2) = false := by simp [h]
  have d3 : (s.f0 == 3) = false := by simp [h]
  have d4 : (s.f0 == 4) = false := by simp [h]
  have d5 : (s.f0 == 5) = false := by simp [h]
  have d6 : (s.f0 == 6) = false := by simp [h]
  have d7 : (s.f0 == 7) = false := by simp [h]
  have d8 : (s.f0 == 8) = false := by simp [h]
  have d9 : (s.f0 == 9) = false := by simp [h]
  have d10 : (s.f0 == 10) = true := by simp [h]
  have d11 : (s.f0 == 11) = false := by simp [h]
  have d12 : (s.f0 == 12) = false := by simp [h]
  have d13 : (s.f0 == 13) = false := by simp [h]
  have d14 : (s.f0 == 14) = false := by simp [h]
  have d15 : (s.f0 == 15) = false := by simp [h]
  clear H h7 h9 h16 h17 l7 l9 l16 l17 h
  go_enter Try.func31, Try.ntmps31
  go_wp2_with (go_at_call 62; with_reducible refine (la_said (HF.out.below X.out.hb) s.f1).mono ?_; rintro e w5 ⟨rfl, hb⟩; have XX := Aside0.mk (X.out.below hb); clear X; have X := XX; clear XX; have m0 := pw_cell_below hb m0; have m1 := pw_cell_below hb m1; have m2 := pw_cell_below hb m2; have m3 := pw_cell_below hb m3; have m4 := pw_cell_below hb m4; have m5 := pw_cell_below hb m5; have m6 := pw_cell_below hb m6; have n0 := pw_cell_below hb n0; have n1 := pw_cell_below hb n1; have n2 := pw_cell_below hb n2; have n3 := pw_cell_below hb n3; have n4 := pw_cell_below hb n4; have n5 := pw_cell_below hb n5; have n6 := pw_cell_below hb n6; have n7 := pw_cell_below hb n7; have n8 := pw_cell_below hb n8; have n9 := pw_cell_below hb n9; have n10 := pw_cell_below hb n10; have n11 := pw_cell_below hb n11; have n12 := pw_cell_below hb n12; have n13 := pw_cell_below hb n13; have n14 := pw_cell_below hb n14; have n15 := pw_cell_below hb n15; have n16 := pw_cell_below hb n16; have n17 := pw_cell_below hb n17; clear hb)
  go_ret
  exact ⟨rfl, X.out.hb⟩
theorem in_10 (l : List S48) (f : S48) (A0 : Option Addr) (c0 : Nat) (A2 : Option Addr) (c2 : Nat) (A6 : Option Addr) (c6 : Nat) (s : S40) (A7 A9 A15 A16 A17 : Option Addr) (c7 c9 c15 c16 c17 : Nat) (w : World) (H : FA w l f A0 c0 A2 c2 A6 c6) (h7 : k57.C w A7 s.f4.f1.length s.f4.f1) (l7 : s.f4.f1.length ≤ c7) (h9 : k57.C w A9 s.f5.f1.length s.f5.f1) (l9 : s.f5.f1.length ≤ c9) (h16 : k30.C w A16 s.f9.length s.f9) (l16 : s.f9.length ≤ c16) (h17 : (Kd.int .i64).C w A17 s.f10.length s.f10) (l17 : s.f10.length ≤ c17) (b7 : s.f4.f1.length < 4611686018427387904) (b9 : s.f5.f1.length < 4611686018427387904) (h : s.f0 = 10) :
    Calls Try.prog 31 #[.agg #[.slice A0 l.length c0, .string f.f0, .slice A2 f.f1.length c2, .int .i64 f.f2, .int .i64 f.f3, .bool f.f4, .slice A6 f.f5.length c6], .agg #[.int .i64 s.f0, .int .i64 s.f1, .bool s.f2.f0, .int .i64 s.f2.f1, .bool s.f3.f0, .int .i64 s.f3.f1, .int .i64 s.f4.f0, .slice A7 s.f4.f1.length c7, .int .i64 s.f5.f0, .slice A9 s.f5.f1.length c9, .int .i64 s.f6, .string s.f7, .int .i64 s.f8.f0, .string s.f8.f1, .int .i64 s.f8.f2, .slice A15 s.f8.f3.length c15, .slice A16 s.f9.length c16, .slice A17 s.f10.length c17]] w fun e w' => e = .returned (.bool (laB f.f1 s.f1)) ∧ Below w.heap.size w w' := by
  simpa using in_10_0 l f A0 c0 A2 c2 A6 c6 s A7 A9 A15 A16 A17 c7 c9 c15 c16 c17 w H h7 l7 h9 l9 h16 l16 h17 l17 b7 b9 h
set_option maxRecDepth 100000 in
set_option maxHeartbeats 4000000 in
theorem in_11_0 (l : List S48) (f : S48) (A0 : Option Addr) (c0 : Nat) (A2 : Option Addr) (c2 : Nat) (A6 : Option Addr) (c6 : Nat) (s : S40) (A7 A9 A15 A16 A17 : Option Addr) (c7 c9 c15 c16 c17 : Nat) (w : World) (H : FA w l f A0 c0 A2 c2 A6 c6) (h7 : k57.C w A7 s.f4.f1.length s.f4.f1) (l7 : s.f4.f1.length ≤ c7) (h9 : k57.C w A9 s.f5.f1.length s.f5.f1) (l9 : s.f5.f1.length ≤ c9) (h16 : k30.C w A16 s.f9.length s.f9) (l16 : s.f9.length ≤ c16) (h17 : (Kd.int .i64).C w A17 s.f10.length s.f10) (l17 : s.f10.length ≤ c17) (b7 : s.f4.f1.length < 4611686018427387904) (b9 : s.f5.f1.length < 4611686018427387904) (h : s.f0 = 11) :
    Calls Try.prog 31 #[.agg #[.slice A0 l.length c0, .string f.f0, .slice A2 f.f1.length c2, .int .i64 f.f2, .int .i64 f.f3, .bool f.f4, .slice A6 f.f5.length c6], .agg #[.int .i64 s.f0, .int .i64 s.f1, .bool s.f2.f0, .int .i64 s.f2.f1, .bool s.f3.f0, .int .i64 s.f3.f1, .int .i64 s.f4.f0, .slice A7 s.f4.f1.length c7, .int .i64 s.f5.f0, .slice A9 s.f5.f1.length c9, .int .i64 s.f6, .string s.f7, .int .i64 s.f8.f0, .string s.f8.f1, .int .i64 s.f8.f2, .slice A15 s.f8.f3.length c15, .slice A16 s.f9.length c16, .slice A17 s.f10.length c17]] w fun e w' => e = .returned (.bool (laB f.f1 s.f1)) ∧ Below w.heap.size w w' := by
  have hu101 := Try.underlying101
  have hu40 := Try.underlying40
  have HF := Aside0.mk H
  have H7 := Aside0.mk h7
  have H9 := Aside0.mk h9
  have HL := Aside0.mk (And.intro l7 (And.intro l9 l16))
  have X := Aside0.mk (FB.new w #[.slice A0 l.length c0, .string f.f0, .slice A2 f.f1.length c2, .int .i64 f.f2, .int .i64 f.f3, .bool f.f4, .slice A6 f.f5.length c6] 101 #[.int .i64 s.f0, .int .i64 s.f1, .bool s.f2.f0, .int .i64 s.f2.f1, .bool s.f3.f0, .int .i64 s.f3.f1, .int .i64 s.f4.f0, .slice A7 s.f4.f1.length c7, .int .i64 s.f5.f0, .slice A9 s.f5.f1.length c9, .int .i64 s.f6, .string s.f7, .int .i64 s.f8.f0, .string s.f8.f1, .int .i64 s.f8.f2, .slice A15 s.f8.f3.length c15, .slice A16 s.f9.length c16, .slice A17 s.f10.length c17] 40)
  have m0 := X.out.b1.cell 0
  have m1 := X.out.b1.cell 1
  have m2 := X.out.b1.cell 2
  have m3 := X.out.b1.cell 3
  have m4 := X.out.b1.cell 4
  have m5 := X.out.b1.cell 5
  have m6 := X.out.b1.cell 6
  have n0 := X.out.b2.cell 0
  have n1 := X.out.b2.cell 1
  have n2 := X.out.b2.cell 2
  have n3 := X.out.b2.cell 3
  have n4 := X.out.b2.cell 4
  have n5 := X.out.b2.cell 5
  have n6 := X.out.b2.cell 6
  have n7 := X.out.b2.cell 7
  have n8 := X.out.b2.cell 8
  have n9 := X.out.b2.cell 9
  have n10 := X.out.b2.cell 10
  have n11 := X.out.b2.cell 11
  have n12 := X.out.b2.cell 12
  have n13 := X.out.b2.cell 13
  have n14 := X.out.b2.cell 14
  have n15 := X.out.b2.cell 15
  have n16 := X.out.b2.cell 16
  have n17 := X.out.b2.cell 17
  simp only [List.getElem?_toArray, List.getElem?_cons_zero, List.getElem?_cons_succ] at m0 m1 m2 m3 m4 m5 m6 n0 n1 n2 n3 n4 n5 n6 n7 n8 n9 n10 n11 n12 n13 n14 n15 n16 n17
  have d1 : (s.f0 == 1) = false := by simp [h]
  have d2 : (s.f0 == 2) = false := by simp [h]
  have d3 : (s.f0 == 3) = false := by simp [h]
  have d4 : (s.f0 == 4) = false := by simp [h]
  have d5 : (s.f0 == 5) = false := by simp [h]
  have d6 : (s.f0 == 6) = false := by simp [h]
  have d7 : (s.f0 == 7) = false := by simp [h]
  have d8 : (s.f0 == 8) = false := by simp [h]
  have d9 : (s.f0 == 9) = false := by simp [h]
  have d10 : (s.f0 == 10) = false := by simp [h]
  have d11 : (s.f0 == 11) = true := by simp [h]
  have d12 : (s.f0 == 12) = false := by simp [h]
  have d13 : (s.f0 == 13) = false := by simp [h]
  have d14 : (s.f0 == 14) = false := by simp [h]
  have d15 : (s.f0 == 15) = false := by simp [h]
  clear H h7 h9 h16 h17 l7 l9 l16 l17 h
  go_enter Try.func31, Try.ntmps31
  go_wp2_with (go_at_call 62; with_reducible refine (la_said (HF.out.below X.out.hb) s.f1).mono ?_; rintro e w5 ⟨rfl, hb⟩; have XX := Aside0.mk (X.out.below hb); clear X; have X := XX; clear XX; have m0 := pw_cell_below hb m0; have m1 := pw_cell_below hb m1; have m2 := pw_cell_below hb m2; have m3 := pw_cell_below hb m3; have m4 := pw_cell_below hb m4; have m5 := pw_cell_below hb m5; have m6 := pw_cell_below hb m6; have n0 := pw_cell_below hb n0; have n1 := pw_cell_below hb n1; have n2 := pw_cell_below hb n2; have n3 := pw_cell_below hb n3; have n4 := pw_cell_below hb n4; have n5 := pw_cell_below hb n5; have n6 := pw_cell_below hb n6; have n7 := pw_cell_below hb n7; have n8 := pw_cell_below hb n8; have n9 := pw_cell_below hb n9; have n10 := pw_cell_below hb n10; have n11 := pw_cell_below hb n11; have n12 := pw_cell_below hb n12; have n13 := pw_cell_below hb n13; have n14 := pw_cell_below hb n14; have n15 := pw_cell_below hb n15; have n16 := pw_cell_below hb n16; have n17 := pw_cell_below hb n17; clear hb)
  go_ret
  exact ⟨rfl, X.out.hb⟩
theorem in_11 (l : List S48) (f : S48) (A0 : Option Addr) (c0 : Nat) (A2 : Option Addr) (c2 : Nat) (A6 : Option Addr) (c6 : Nat) (s : S40) (A7 A9 A15 A16 A17 : Option Addr) (c7 c9 c15 c16 c17 : Nat) (w : World) (H : FA w l f A0 c0 A2 c2 A6 c6) (h7 : k57.C w A7 s.f4.f1.length s.f4.f1) (l7 : s.f4.f1.length ≤ c7) (h9 : k57.C w A9 s.f5.f1.length s.f5.f1) (l9 : s.f5.f1.length ≤ c9) (h16 : k30.C w A16 s.f9.length s.f9) (l16 : s.f9.length ≤ c16) (h17 : (Kd.int .i64).C w A17 s.f10.length s.f10) (l17 : s.f10.length ≤ c17) (b7 : s.f4.f1.length < 4611686018427387904) (b9 : s.f5.f1.length < 4611686018427387904) (h : s.f0 = 11) :
    Calls Try.prog 31 #[.agg #[.slice A0 l.length c0, .string f.f0, .slice A2 f.f1.length c2, .int .i64 f.f2, .int .i64 f.f3, .bool f.f4, .slice A6 f.f5.length c6], .agg #[.int .i64 s.f0, .int .i64 s.f1, .bool s.f2.f0, .int .i64 s.f2.f1, .bool s.f3.f0, .int .i64 s.f3.f1, .int .i64 s.f4.f0, .slice A7 s.f4.f1.length c7, .int .i64 s.f5.f0, .slice A9 s.f5.f1.length c9, .int .i64 s.f6, .string s.f7, .int .i64 s.f8.f0, .string s.f8.f1, .int .i64 s.f8.f2, .slice A15 s.f8.f3.length c15, .slice A16 s.f9.length c16, .slice A17 s.f10.length c17]] w fun e w' => e = .returned (.bool (laB f.f1 s.f1)) ∧ Below w.heap.size w w' := by
  simpa using in_11_0 l f A0 c0 A2 c2 A6 c6 s A7 A9 A15 A16 A17 c7 c9 c15 c16 c17 w H h7 l7 h9 l9 h16 l16 h17 l17 b7 b9 h
set_option maxRecDepth 100000 in
set_option maxHeartbeats 4000000 in
theorem in_14_0 (l : List S48) (f : S48) (A0 : Option Addr) (c0 : Nat) (A2 : Option Addr) (c2 : Nat) (A6 : Option Addr) (c6 : Nat) (s : S40) (A7 A9 A15 A16 A17 : Option Addr) (c7 c9 c15 c16 c17 : Nat) (w : World) (H : FA w l f A0 c0 A2 c2 A6 c6) (h7 : k57.C w A7 s.f4.f1.length s.f4.f1) (l7 : s.f4.f1.length ≤ c7) (h9 : k57.C w A9 s.f5.f1.length s.f5.f1) (l9 : s.f5.f1.length ≤ c9) (h16 : k30.C w A16 s.f9.length s.f9) (l16 : s.f9.length ≤ c16) (h17 : (Kd.int .i64).C w A17 s.f10.length s.f10) (l17 : s.f10.length ≤ c17) (b7 : s.f4.f1.length < 4611686018427387904) (b9 : s.f5.f1.length < 4611686018427387904) (h : s.f0 = 14) :
    Calls Try.prog 31 #[.agg #[.slice A0 l.length c0, .string f.f0, .slice A2 f.f1.length c2, .int .i64 f.f2, .int .i64 f.f3, .bool f.f4, .slice A6 f.f5.length c6], .agg #[.int .i64 s.f0, .int .i64 s.f1, .bool s.f2.f0, .int .i64 s.f2.f1, .bool s.f3.f0, .int .i64 s.f3.f1, .int .i64 s.f4.f0, .slice A7 s.f4.f1.length c7, .int .i64 s.f5.f0, .slice A9 s.f5.f1.length c9, .int .i64 s.f6, .string s.f7, .int .i64 s.f8.f0, .string s.f8.f1, .int .i64 s.f8.f2, .slice A15 s.f8.f3.length c15, .slice A16 s.f9.length c16, .slice A17 s.f10.length c17]] w fun e w' => e = .returned (.bool (scB f.f1 s.f1)) ∧ Below w.heap.size w w' := by
  have hu101 := Try.underlying101
  have hu40 := Try.underlying40
  have HF := Aside0.mk H
  have H7 := Aside0.mk h7
  have H9 := Aside0.mk h9
  have HL := Aside0.mk (And.intro l7 (And.intro l9 l16))
  have X := Aside0.mk (FB.new w #[.slice A0 l.length c0, .string f.f0, .slice A2 f.f1.length c2, .int .i64 f.f2, .int .i64 f.f3, .bool f.f4, .slice A6 f.f5.length c6] 101 #[.int .i64 s.f0, .int .i64 s.f1, .bool s.f2.f0, .int .i64 s.f2.f1, .bool s.f3.f0, .int .i64 s.f3.f1, .int .i64 s.f4.f0, .slice A7 s.f4.f1.length c7, .int .i64 s.f5.f0, .slice A9 s.f5.f1.length c9, .int .i64 s.f6, .string s.f7, .int .i64 s.f8.f0, .string s.f8.f1, .int .i64 s.f8.f2, .slice A15 s.f8.f3.length c15, .slice A16 s.f9.length c16, .slice A17 s.f10.length c17] 40)
  have m0 := X.out.b1.cell 0
  have m1 := X.out.b1.cell 1
  have m2 := X.out.b1.cell 2
  have m3 := X.out.b1.cell 3
  have m4 := X.out.b1.cell 4
  have m5 := X.out.b1.cell 5
  have m6 := X.out.b1.cell 6
  have n0 := X.out.b2.cell 0
  have n1 := X.out.b2.cell 1
  have n2 := X.out.b2.cell 2
  have n3 := X.out.b2.cell 3
  have n4 := X.out.b2.cell 4
  have n5 := X.out.b2.cell 5
  have n6 := X.out.b2.cell 6
  have n7 := X.out.b2.cell 7
  have n8 := X.out.b2.cell 8
  have n9 := X.out.b2.cell 9
  have n10 := X.out.b2.cell 10
  have n11 := X.out.b2.cell 11
  have n12 := X.out.b2.cell 12
  have n13 := X.out.b2.cell 13
  have n14 := X.out.b2.cell 14
  have n15 := X.out.b2.cell 15
  have n16 := X.out.b2.cell 16
  have n17 := X.out.b2.cell 17
  simp only [List.getElem?_toArray, List.getElem?_cons_zero, List.getElem?_cons_succ] at m0 m1 m2 m3 m4 m5 m6 n0 n1 n2 n3 n4 n5 n6 n7 n8 n9 n10 n11 n12 n13 n14 n15 n16 n17
  have d1 : (s.f0 == 1) = false := by simp [h]
  have d2 : (s.f0 == 2) = false := by simp [h]
  have d3 : (s.f0 == 3) = false := by simp [h]
  have d4 : (s.f0 == 4) = false := by simp [h]
  have d5 : (s.f0 == 5) = false := by simp [h]
  have d6 : (s.f0 == 6) = false := by simp [h]
  have d7 : (s.f0 == 7) = false := by simp [h]
  have d8 : (s.f0 == 8) = false := by simp [h]
  have d9 : (s.f0 == 9) = false := by simp [h]
  have d10 : (s.f0 == 10) = false := by simp [h]
  have d11 : (s.f0 == 11) = false := by simp [h]
  have d12 : (s.f0 == 12) = false := by simp [h]
  have d13 : (s.f0 == 13) = false := by simp [h]
  have d14 : (s.f0 == 14) = true := by simp [h]
  have d15 : (s.f0 == 15) = false := by simp [h]
  clear H h7 h9 h16 h17 l7 l9 l16 l17 h
  go_enter Try.func31, Try.ntmps31
  go_wp2_with (go_at_call 57; with_reducible refine (sc_said (HF.out.below X.out.hb) s.f1).mono ?_; rintro e w5 ⟨rfl, hb⟩; have XX := Aside0.mk (X.out.below hb); clear X; have X := XX; clear XX; have m0 := pw_cell_below hb m0; have m1 := pw_cell_below hb m1; have m2 := pw_cell_below hb m2; have m3 := pw_cell_below hb m3; have m4 := pw_cell_below hb m4; have m5 := pw_cell_below hb m5; have m6 := pw_cell_below hb m6; have n0 := pw_cell_below hb n0; have n1 := pw_cell_below hb n1; have n2 := pw_cell_below hb n2; have n3 := pw_cell_below hb n3; have n4 := pw_cell_below hb n4; have n5 := pw_cell_below hb n5; have n6 := pw_cell_below hb n6; have n7 := pw_cell_below hb n7; have n8 := pw_cell_below hb n8; have n9 := pw_cell_below hb n9; have n10 := pw_cell_below hb n10; have n11 := pw_cell_below hb n11; have n12 := pw_cell_below hb n12; have n13 := pw_cell_below hb n13; have n14 := pw_cell_below hb n14; have n15 := pw_cell_below hb n15; have n16 := pw_cell_below hb n16; have n17 := pw_cell_below hb n17; clear hb)
  go_ret
  exact ⟨rfl, X.out.hb⟩
theorem in_14 (l : List S48) (f : S48) (A0 : Option Addr) (c0 : Nat) (A2 : Option Addr) (c2 : Nat) (A6 : Option Addr) (c6 : Nat) (s : S40) (A7 A9 A15 A16 A17 : Option Addr) (c7 c9 c15 c16 c17 : Nat) (w : World) (H : FA w l f A0 c0 A2 c2 A6 c6) (h7 : k57.C w A7 s.f4.f1.length s.f4.f1) (l7 : s.f4.f1.length ≤ c7) (h9 : k57.C w A9 s.f5.f1.length s.f5.f1) (l9 : s.f5.f1.length ≤ c9) (h16 : k30.C w A16 s.f9.length s.f9) (l16 : s.f9.length ≤ c16) (h17 : (Kd.int .i64).C w A17 s.f10.length s.f10) (l17 : s.f10.length ≤ c17) (b7 : s.f4.f1.length < 4611686018427387904) (b9 : s.f5.f1.length < 4611686018427387904) (h : s.f0 = 14) :
    Calls Try.prog 31 #[.agg #[.slice A0 l.length c0, .string f.f0, .slice A2 f.f1.length c2, .int .i64 f.f2, .int .i64 f.f3, .bool f.f4, .slice A6 f.f5.length c6], .agg #[.int .i64 s.f0, .int .i64 s.f1, .bool s.f2.f0, .int .i64 s.f2.f1, .bool s.f3.f0, .int .i64 s.f3.f1, .int .i64 s.f4.f0, .slice A7 s.f4.f1.length c7, .int .i64 s.f5.f0, .slice A9 s.f5.f1.length c9, .int .i64 s.f6, .string s.f7, .int .i64 s.f8.f0, .string s.f8.f1, .int .i64 s.f8.f2, .slice A15 s.f8.f3.length c15, .slice A16 s.f9.length c16, .slice A17 s.f10.length c17]] w fun e w' => e = .returned (.bool (scB f.f1 s.f1)) ∧ Below w.heap.size w w' := by
  simpa using in_14_0 l f A0 c0 A2 c2 A6 c6 s A7 A9 A15 A16 A17 c7 c9 c15 c16 c17 w H h7 l7 h9 l9 h16 l16 h17 l17 b7 b9 h
set_option maxRecDepth 100000 in
set_option maxHeartbeats 4000000 in
theorem in_15 (l : List S48) (f : S48) (A0 : Option Addr) (c0 : Nat) (A2 : Option Addr) (c2 : Nat) (A6 : Option Addr) (c6 : Nat) (s : S40) (A7 A9 A15 A16 A17 : Option Addr) (c7 c9 c15 c16 c17 : Nat) (w : World) (H : FA w l f A0 c0 A2 c2 A6 c6) (h7 : k57.C w A7 s.f4.f1.length s.f4.f1) (l7 : s.f4.f1.length ≤ c7) (h9 : k57.C w A9 s.f5.f1.length s.f5.f1) (l9 : s.f5.f1.length ≤ c9) (h16 : k30.C w A16 s.f9.length s.f9) (l16 : s.f9.length ≤ c16) (h17 : (Kd.int .i64).C w A17 s.f10.length s.f10) (l17 : s.f10.length ≤ c17) (b7 : s.f4.f1.length < 4611686018427387904) (b9 : s.f5.f1.length < 4611686018427387904) (C : CaOk l s) (h : s.f0 = 15) :
    Calls Try.prog 31 #[.agg #[.slice A0 l.length c0, .string f.f0, .slice A2 f.f1.length c2, .int .i64 f.f2, .int .i64 f.f3, .bool f.f4, .slice A6 f.f5.length c6], .agg #[.int .i64 s.f0, .int .i64 s.f1, .bool s.f2.f0, .int .i64 s.f2.f1, .bool s.f3.f0, .int .i64 s.f3.f1, .int .i64 s.f4.f0, .slice A7 s.f4.f1.length c7, .int .i64 s.f5.f0, .slice A9 s.f5.f1.length c9, .int .i64 s.f6, .string s.f7, .int .i64 s.f8.f0, .string s.f8.f1, .int .i64 s.f8.f2, .slice A15 s.f8.f3.length c15, .slice A16 s.f9.length c16, .slice A17 s.f10.length c17]] w fun e w' => e = .returned (.bool (s.f9.all (opB f.f1) && s.f10.all (scB f.f1))) ∧ Below w.heap.size w w' := by
  have hu101 := Try.underlying101
  have hu40 := Try.underlying40
  have HF := Aside0.mk H
  have H16 := Aside0.mk h16
  have H17 := Aside0.mk h17
  have X := Aside0.mk (FB.new w #[.slice A0 l.length c0, .string f.f0, .slice A2 f.f1.length c2, .int .i64 f.f2, .int .i64 f.f3, .bool f.f4, .slice A6 f.f5.length c6] 101 #[.int .i64 s.f0, .int .i64 s.f1, .bool s.f2.f0, .int .i64 s.f2.f1, .bool s.f3.f0, .int .i64 s.f3.f1, .int .i64 s.f4.f0, .slice A7 s.f4.f1.length c7, .int .i64 s.f5.f0, .slice A9 s.f5.f1.length c9, .int .i64 s.f6, .string s.f7, .int .i64 s.f8.f0, .string s.f8.f1, .int .i64 s.f8.f2, .slice A15 s.f8.f3.length c15, .slice A16 s.f9.length c16, .slice A17 s.f10.length c17] 40)
  have m0 := X.out.b1.cell 0
  have m1 := X.out.b1.cell 1
  have m2 := X.out.b1.cell 2
  have m3 := X.out.b1.cell 3
  have m4 := X.out.b1.cell 4
  have m5 := X.out.b1.cell 5
  have m6 := X.out.b1.cell 6
  have n0 := X.out.b2.cell 0
  have n1 := X.out.b2.cell 1
  have n2 := X.out.b2.cell 2
  have n3 := X.out.b2.cell 3
  have n4 := X.out.b2.cell 4
  have n5 := X.out.b2.cell 5
  have n6 := X.out.b2.cell 6
  have n7 := X.out.b2.cell 7
  have n8 := X.out.b2.cell 8
  have n9 := X.out.b2.cell 9
  have n10 := X.out.b2.cell 10
  have n11 := X.out.b2.cell 11
  have n12 := X.out.b2.cell 12
  have n13 := X.out.b2.cell 13
  have n14 := X.out.b2.cell 14
  have n15 := X.out.b2.cell 15
  have n16 := X.out.b2.cell 16
  have n17 := X.out.b2.cell 17
  simp only [List.getElem?_toArray, List.getElem?_cons_zero, List.getElem?_cons_succ] at m0 m1 m2 m3 m4 m5 m6 n0 n1 n2 n3 n4 n5 n6 n7 n8 n9 n10 n11 n12 n13 n14 n15 n16 n17
  have d1 : (s.f0 == 1) = false := by simp [h]
  have d2 : (s.f0 == 2) = false := by simp [h]
  have d3 : (s.f0 == 3) = false := by simp [h]
  have d4 : (s.f0 == 4) = false := by simp [h]
  have d5 : (s.f0 == 5) = false := by simp [h]
  have d6 : (s.f0 == 6) = false := by simp [h]
  have d7 : (s.f0 == 7) = false := by simp [h]
  have d8 : (s.f0 == 8) = false := by simp [h]
  have d9 : (s.f0 == 9) = false := by simp [h]
  have d10 : (s.f0 == 10) = false := by simp [h]
  have d11 : (s.f0 == 11) = false := by simp [h]
  have d12 : (s.f0 == 12) = false := by simp [h]
  have d13 : (s.f0 == 13) = false := by simp [h]
  have d14 : (s.f0 == 14) = false := by simp [h]
  have d15 : (s.f0 == 15) = true := by simp [h]
  clear H h7 h9 h16 h17 h
  go_enter Try.func31, Try.ntmps31
  go_wp2_with (go_at_call 63; with_reducible refine (call_said l f A0 c0 A2 c2 A6 c6 s A7 A9 A15 A16 A17 c7 c9 c15 c16 c17 _ (HF.out.below X.out.hb) (Kd.C_below H16.out X.out.hb) l16 (Kd.C_below H17.out X.out.hb) l17 C).mono ?_; rintro e w5 ⟨rfl, hb⟩; have XX := Aside0.mk (X.out.below hb); clear X; have X := XX; clear XX; have m0 := pw_cell_below hb m0; have m1 := pw_cell_below hb m1; have m2 := pw_cell_below hb m2; have m3 := pw_cell_below hb m3; have m4 := pw_cell_below hb m4; have m5 := pw_cell_below hb m5; have m6 := pw_cell_below hb m6; have n0 := pw_cell_below hb n0; have n1 := pw_cell_below hb n1; have n2 := pw_cell_below hb n2; have n3 := pw_cell_below hb n3; have n4 := pw_cell_below hb n4; have n5 := pw_cell_below hb n5; have n6 := pw_cell_below hb n6; have n7 := pw_cell_below hb n7; have n8 := pw_cell_below hb n8; have n9 := pw_cell_below hb n9; have n10 := pw_cell_below hb n10; have n11 := pw_cell_below hb n11; have n12 := pw_cell_below hb n12; have n13 := pw_cell_below hb n13; have n14 := pw_cell_below hb n14; have n15 := pw_cell_below hb n15; have n16 := pw_cell_below hb n16; have n17 := pw_cell_below hb n17; clear hb)
  go_ret
  exact ⟨rfl, X.out.hb⟩
end Go.Proofs.Ytpphpcmbpbppoaa.Form
end
