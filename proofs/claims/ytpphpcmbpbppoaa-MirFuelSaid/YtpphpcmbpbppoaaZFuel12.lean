/- Steps toward the law Fuel, merged from several texts (some of them began as the kit's print). No condition. -/
import Derived.Deep.WholeRow
import Derived.Laws.BitsAllLaws
import Derived.Test.YtpphpcmbpbppoaaZFuel11
section
namespace Go.Proofs.Ytpphpcmbpbppoaa.Form
open Go.RowKit Go.Proofs.YtpphpcmbpbppoaaW.PrintWords Go.Proofs.YtpphpcmbpbppoaaW.PrintLast Go.Proofs.YtpphpcmbpbppoaaW.PrintMore
open Go.Proofs.Ytpphpcmbpbppoaa.Calm
open Go.Proofs.Ytpphpcmbpbppoaa.Mach
open Go.Proofs.Ytpphpcmbpbppoaa.PMirFuel (S30 S57 S34 S37 S40 S43 S45 S48 k30 k57 k34 k37 k40 k43 k45 k48 rd_T30 rd_T57 rd_T34 rd_T37 rd_T40 rd_T43 rd_T45 rd_T48 at_T30 at_T57 at_T34 at_T40 at_T45 at_T48)
set_option linter.unusedVariables false
set_option linter.unusedSimpArgs false
structure CaOk (l : List S48) (s : S40) : Prop where
 hll : l.length < 4611686018427387904
 n9 : s.f9.length < 4611686018427387904
 n10 : s.f10.length < 4611686018427387904
 p0 : ¬ findP l s.f7 < 0
 p1 : ¬ (rd_T48 l (findP l s.f7)).f2 < 0
 p2 : ¬ (rd_T48 l (findP l s.f7)).f2 > (rd_T48 l (findP l s.f7)).f1.length
 hlk : (rd_T48 l (findP l s.f7)).f1.length < 4611686018427387904
 p3 : (s.f9.length : Int) = widthP (rd_T48 l (findP l s.f7))
 p4 : (s.f10.length : Int) = (rd_T48 l (findP l s.f7)).f3
def woB (n : Int) : Bool := decide (0 ≤ n) && decide (n ≤ 128)
theorem la_said {w : World} {l : List S48} {f : S48} {A0 A2 A6 : Option Addr} {c0 c2 c6 : Nat} (H : FA w l f A0 c0 A2 c2 A6 c6) (d : Int) :
  Calls Try.prog 62 #[.agg #[.slice A0 l.length c0, .string f.f0, .slice A2 f.f1.length c2, .int .i64 f.f2, .int .i64 f.f3, .bool f.f4, .slice A6 f.f5.length c6], .int .i64 d] w fun e w' => e = .returned (.bool (laB f.f1 d)) ∧ Below w.heap.size w w' :=
 PMirFuel.mir_former_local.calls A0 c0 l f.f0 A2 c2 f.f1 f.f2 f.f3 f.f4 A6 c6 f.f5 d _ w H.r0 H.l0 H.r2 H.l2 H.r6 H.l6 (local_f _ _ _ _ _ _ _ _)
theorem pl_said {w : World} {l : List S48} {f : S48} {A0 A2 A6 : Option Addr} {c0 c2 c6 : Nat} (H : FA w l f A0 c0 A2 c2 A6 c6) (p : S34) (A : Option Addr) (c : Nat) (h : k57.C w A p.f1.length p.f1) (hc : p.f1.length ≤ c) (hn : p.f1.length < 4611686018427387904) :
  Calls Try.prog 60 #[.agg #[.slice A0 l.length c0, .string f.f0, .slice A2 f.f1.length c2, .int .i64 f.f2, .int .i64 f.f3, .bool f.f4, .slice A6 f.f5.length c6], .agg #[.int .i64 p.f0, .slice A p.f1.length c]] w fun e w' => e = .returned (.bool (plB f.f1 p)) ∧ Below w.heap.size w w' :=
 PMirFuel.mir_former_place.calls (p.f1.length + 1) A0 c0 l f.f0 A2 c2 f.f1 f.f2 f.f3 f.f4 A6 c6 f.f5 p.f0 A c p.f1 _ w H.r0 H.l0 H.r2 H.l2 H.r6 H.l6 h hc (place_f _ _ _ _ _ _ _ p hn _ (by omega))
theorem words_f (n : Int) : PMirFuel.mir_words.f n = some (woB n) := by
 unfold PMirFuel.mir_words.f woB
 by_cases h0 : 0 ≤ n
 ·rw [if_pos (show n ≥ 0 from h0)]; simp [h0]
 ·rw [if_neg (show ¬ n ≥ 0 from h0)]; simp [h0]
theorem wo_said (n : Int) (w : World) : Calls Try.prog 61 #[.int .i64 n] w fun e w' => e = .returned (.bool (woB n)) ∧ Below w.heap.size w w' :=
 (PMirFuel.mir_words.calls n _ w (words_f n)).mono fun _ _ h => ⟨h.1, h.2.below⟩
abbrev fvA (l : List S48) (f : S48) (A0 : Option Addr) (c0 : Nat) (A2 : Option Addr) (c2 : Nat) (A6 : Option Addr) (c6 : Nat) : Array Value := #[.slice A0 l.length c0, .string f.f0, .slice A2 f.f1.length c2, .int .i64 f.f2, .int .i64 f.f3, .bool f.f4, .slice A6 f.f5.length c6]
abbrev ivA (s : S40) (A7 A9 A15 A16 A17 : Option Addr) (c7 c9 c15 c16 c17 : Nat) : Array Value := #[.int .i64 s.f0, .int .i64 s.f1, .bool s.f2.f0, .int .i64 s.f2.f1, .bool s.f3.f0, .int .i64 s.f3.f1, .int .i64 s.f4.f0, .slice A7 s.f4.f1.length c7, .int .i64 s.f5.f0, .slice A9 s.f5.f1.length c9, .int .i64 s.f6, .string s.f7, .int .i64 s.f8.f0, .string s.f8.f1, .int .i64 s.f8.f2, .slice A15 s.f8.f3.length c15, .slice A16 s.f9.length c16, .slice A17 s.f10.length c17]
theorem cells_fi {w0 w : World} {g1 g2 : Nat} {l : List S48} {f : S48} {A0 : Option Addr} {c0 : Nat} {A2 : Option Addr} {c2 : Nat} {A6 : Option Addr} {c6 : Nat} {s : S40} {A7 A9 A15 A16 A17 : Option Addr} {c7 c9 c15 c16 c17 : Nat}
  (X : FB w0 w g1 (fvA l f A0 c0 A2 c2 A6 c6) 101 g2 (ivA s A7 A9 A15 A16 A17 c7 c9 c15 c16 c17) 40) :
  w.cell? ⟨g1, 0, none⟩ = some (.slice A0 l.length c0) ∧ w.cell? ⟨g1, 1, none⟩ = some (.string f.f0) ∧ w.cell? ⟨g1, 2, none⟩ = some (.slice A2 f.f1.length c2) ∧ w.cell? ⟨g1, 3, none⟩ = some (.int .i64 f.f2) ∧ w.cell? ⟨g1, 4, none⟩ = some (.int .i64 f.f3) ∧ w.cell? ⟨g1, 5, none⟩ = some (.bool f.f4) ∧ w.cell? ⟨g1, 6, none⟩ = some (.slice A6 f.f5.length c6) ∧ w.cell? ⟨g2, 0, none⟩ = some (.int .i64 s.f0) ∧ w.cell? ⟨g2, 1, none⟩ = some (.int .i64 s.f1) ∧ w.cell? ⟨g2, 2, none⟩ = some (.bool s.f2.f0) ∧ w.cell? ⟨g2, 3, none⟩ = some (.int .i64 s.f2.f1) ∧ w.cell? ⟨g2, 4, none⟩ = some (.bool s.f3.f0) ∧ w.cell? ⟨g2, 5, none⟩ = some (.int .i64 s.f3.f1) ∧ w.cell? ⟨g2, 6, none⟩ = some (.int .i64 s.f4.f0) ∧ w.cell? ⟨g2, 7, none⟩ = some (.slice A7 s.f4.f1.length c7) ∧ w.cell? ⟨g2, 8, none⟩ = some (.int .i64 s.f5.f0) ∧ w.cell? ⟨g2, 9, none⟩ = some (.slice A9 s.f5.f1.length c9) ∧ w.cell? ⟨g2, 10, none⟩ = some (.int .i64 s.f6) ∧ w.cell? ⟨g2, 11, none⟩ = some (.string s.f7) ∧ w.cell? ⟨g2, 12, none⟩ = some (.int .i64 s.f8.f0) ∧ w.cell? ⟨g2, 13, none⟩ = some (.string s.f8.f1) ∧ w.cell? ⟨g2, 14, none⟩ = some (.int .i64 s.f8.f2) ∧ w.cell? ⟨g2, 15, none⟩ = some (.slice A15 s.f8.f3.length c15) ∧ w.cell? ⟨g2, 16, none⟩ = some (.slice A16 s.f9.length c16) ∧ w.cell? ⟨g2, 17, none⟩ = some (.slice A17 s.f10.length c17) :=
 ⟨X.b1.cell 0, X.b1.cell 1, X.b1.cell 2, X.b1.cell 3, X.b1.cell 4, X.b1.cell 5, X.b1.cell 6, X.b2.cell 0, X.b2.cell 1, X.b2.cell 2, X.b2.cell 3, X.b2.cell 4, X.b2.cell 5, X.b2.cell 6, X.b2.cell 7, X.b2.cell 8, X.b2.cell 9, X.b2.cell 10, X.b2.cell 11, X.b2.cell 12, X.b2.cell 13, X.b2.cell 14, X.b2.cell 15, X.b2.cell 16, X.b2.cell 17⟩
set_option maxRecDepth 100000 in
set_option maxHeartbeats 8000000 in
theorem in_1 (l : List S48) (f : S48) (A0 : Option Addr) (c0 : Nat) (A2 : Option Addr) (c2 : Nat) (A6 : Option Addr) (c6 : Nat) (s : S40) (A7 A9 A15 A16 A17 : Option Addr) (c7 c9 c15 c16 c17 : Nat) (w : World) (H : FA w l f A0 c0 A2 c2 A6 c6) (h7 : k57.C w A7 s.f4.f1.length s.f4.f1) (l7 : s.f4.f1.length ≤ c7) (h9 : k57.C w A9 s.f5.f1.length s.f5.f1) (l9 : s.f5.f1.length ≤ c9) (h16 : k30.C w A16 s.f9.length s.f9) (l16 : s.f9.length ≤ c16) (h17 : (Kd.int .i64).C w A17 s.f10.length s.f10) (l17 : s.f10.length ≤ c17) (b7 : s.f4.f1.length < 4611686018427387904) (b9 : s.f5.f1.length < 4611686018427387904) (h : s.f0 = 1) :
  Calls Try.prog 31 #[.agg #[.slice A0 l.length c0, .string f.f0, .slice A2 f.f1.length c2, .int .i64 f.f2, .int .i64 f.f3, .bool f.f4, .slice A6 f.f5.length c6], .agg #[.int .i64 s.f0, .int .i64 s.f1, .bool s.f2.f0, .int .i64 s.f2.f1, .bool s.f3.f0, .int .i64 s.f3.f1, .int .i64 s.f4.f0, .slice A7 s.f4.f1.length c7, .int .i64 s.f5.f0, .slice A9 s.f5.f1.length c9, .int .i64 s.f6, .string s.f7, .int .i64 s.f8.f0, .string s.f8.f1, .int .i64 s.f8.f2, .slice A15 s.f8.f3.length c15, .slice A16 s.f9.length c16, .slice A17 s.f10.length c17]] w fun e w' => e = .returned (.bool ((scB f.f1 s.f1 && opB f.f1 s.f2))) ∧ Below w.heap.size w w' := by
 have hu101 := Try.underlying101
 have hu40 := Try.underlying40
 have HF := Aside0.mk H
 have H7 := Aside0.mk h7
 have H9 := Aside0.mk h9
 have HL := Aside0.mk (And.intro l7 (And.intro l9 l16))
 have X := Aside0.mk (FB.new w (fvA l f A0 c0 A2 c2 A6 c6) 101 (ivA s A7 A9 A15 A16 A17 c7 c9 c15 c16 c17) 40)
 unfold fvA ivA at X
 obtain ⟨m0, m1, m2, m3, m4, m5, m6, n0, n1, n2, n3, n4, n5, n6, n7, n8, n9, n10, n11, n12, n13, n14, n15, n16, n17⟩ := cells_fi X.out
 obtain ⟨d1, d2, d3, d4, d5, d6, d7, d8, d9, d10, d11, d12, d13, d14, d15⟩ : (s.f0 == 1) = true ∧ (s.f0 == 2) = false ∧ (s.f0 == 3) = false ∧ (s.f0 == 4) = false ∧ (s.f0 == 5) = false ∧ (s.f0 == 6) = false ∧ (s.f0 == 7) = false ∧ (s.f0 == 8) = false ∧ (s.f0 == 9) = false ∧ (s.f0 == 10) = false ∧ (s.f0 == 11) = false ∧ (s.f0 == 12) = false ∧ (s.f0 == 13) = false ∧ (s.f0 == 14) = false ∧ (s.f0 == 15) = false := by simp [h]
 clear H h7 h9 h16 h17 l7 l9 l16 l17 h
 go_enter Try.func31, Try.ntmps31
 cases t0 : scB f.f1 s.f1 with
 | false =>
  go_wp2_with (go_at_call 57; with_reducible refine (sc_said (HF.out.below X.out.hb) s.f1).mono ?_; rintro e w5 ⟨rfl, hb⟩; have XX := Aside0.mk (X.out.below hb); clear X hb; have X := XX; clear XX; obtain ⟨m0, m1, m2, m3, m4, m5, m6, n0, n1, n2, n3, n4, n5, n6, n7, n8, n9, n10, n11, n12, n13, n14, n15, n16, n17⟩ := cells_fi X.out)
  go_ret
  exact ⟨rfl, X.out.hb⟩
 | true =>
  go_wp2_with (first | (go_at_call 57; with_reducible refine (sc_said (HF.out.below X.out.hb) s.f1).mono ?_; rintro e w5 ⟨rfl, hb⟩; have XX := Aside0.mk (X.out.below hb); clear X hb; have X := XX; clear XX; obtain ⟨m0, m1, m2, m3, m4, m5, m6, n0, n1, n2, n3, n4, n5, n6, n7, n8, n9, n10, n11, n12, n13, n14, n15, n16, n17⟩ := cells_fi X.out) | (go_at_call 58; with_reducible refine (op_said (HF.out.below X.out.hb) s.f2).mono ?_; rintro e w5 ⟨rfl, hb⟩; have XX := Aside0.mk (X.out.below hb); clear X hb; have X := XX; clear XX; obtain ⟨m0, m1, m2, m3, m4, m5, m6, n0, n1, n2, n3, n4, n5, n6, n7, n8, n9, n10, n11, n12, n13, n14, n15, n16, n17⟩ := cells_fi X.out))
  go_ret
  exact ⟨rfl, X.out.hb⟩
set_option maxRecDepth 100000 in
set_option maxHeartbeats 8000000 in
theorem in_2 (l : List S48) (f : S48) (A0 : Option Addr) (c0 : Nat) (A2 : Option Addr) (c2 : Nat) (A6 : Option Addr) (c6 : Nat) (s : S40) (A7 A9 A15 A16 A17 : Option Addr) (c7 c9 c15 c16 c17 : Nat) (w : World) (H : FA w l f A0 c0 A2 c2 A6 c6) (h7 : k57.C w A7 s.f4.f1.length s.f4.f1) (l7 : s.f4.f1.length ≤ c7) (h9 : k57.C w A9 s.f5.f1.length s.f5.f1) (l9 : s.f5.f1.length ≤ c9) (h16 : k30.C w A16 s.f9.length s.f9) (l16 : s.f9.length ≤ c16) (h17 : (Kd.int .i64).C w A17 s.f10.length s.f10) (l17 : s.f10.length ≤ c17) (b7 : s.f4.f1.length < 4611686018427387904) (b9 : s.f5.f1.length < 4611686018427387904) {r1 : Int} {r2 : Bool} (hdo : PMirFuel.mir_Do.f 3 s.f7 0 0 = some (r1, r2)) (h : s.f0 = 2) :
  Calls Try.prog 31 #[.agg #[.slice A0 l.length c0, .string f.f0, .slice A2 f.f1.length c2, .int .i64 f.f2, .int .i64 f.f3, .bool f.f4, .slice A6 f.f5.length c6], .agg #[.int .i64 s.f0, .int .i64 s.f1, .bool s.f2.f0, .int .i64 s.f2.f1, .bool s.f3.f0, .int .i64 s.f3.f1, .int .i64 s.f4.f0, .slice A7 s.f4.f1.length c7, .int .i64 s.f5.f0, .slice A9 s.f5.f1.length c9, .int .i64 s.f6, .string s.f7, .int .i64 s.f8.f0, .string s.f8.f1, .int .i64 s.f8.f2, .slice A15 s.f8.f3.length c15, .slice A16 s.f9.length c16, .slice A17 s.f10.length c17]] w fun e w' => e = .returned (.bool ((scB f.f1 s.f1 && (opB f.f1 s.f2 && (opB f.f1 s.f3 && r2))))) ∧ Below w.heap.size w w' := by
 have hu101 := Try.underlying101
 have hu40 := Try.underlying40
 have HF := Aside0.mk H
 have H7 := Aside0.mk h7
 have H9 := Aside0.mk h9
 have HL := Aside0.mk (And.intro l7 (And.intro l9 l16))
 have X := Aside0.mk (FB.new w (fvA l f A0 c0 A2 c2 A6 c6) 101 (ivA s A7 A9 A15 A16 A17 c7 c9 c15 c16 c17) 40)
 unfold fvA ivA at X
 obtain ⟨m0, m1, m2, m3, m4, m5, m6, n0, n1, n2, n3, n4, n5, n6, n7, n8, n9, n10, n11, n12, n13, n14, n15, n16, n17⟩ := cells_fi X.out
 obtain ⟨d1, d2, d3, d4, d5, d6, d7, d8, d9, d10, d11, d12, d13, d14, d15⟩ : (s.f0 == 1) = false ∧ (s.f0 == 2) = true ∧ (s.f0 == 3) = false ∧ (s.f0 == 4) = false ∧ (s.f0 == 5) = false ∧ (s.f0 == 6) = false ∧ (s.f0 == 7) = false ∧ (s.f0 == 8) = false ∧ (s.f0 == 9) = false ∧ (s.f0 == 10) = false ∧ (s.f0 == 11) = false ∧ (s.f0 == 12) = false ∧ (s.f0 == 13) = false ∧ (s.f0 == 14) = false ∧ (s.f0 == 15) = false := by simp [h]
 clear H h7 h9 h16 h17 l7 l9 l16 l17 h
 go_enter Try.func31, Try.ntmps31
 cases t0 : scB f.f1 s.f1 with
 | false =>
  go_wp2_with (first | (go_at_call 59; with_reducible refine (PMirFuel.mir_Do.calls 3 s.f7 0 0 r1 r2 _ hdo).mono ?_; rintro e w5 ⟨rfl, hb0⟩; have hb := hb0.below; clear hb0; have XX := Aside0.mk (X.out.below hb); clear X hb; have X := XX; clear XX; obtain ⟨m0, m1, m2, m3, m4, m5, m6, n0, n1, n2, n3, n4, n5, n6, n7, n8, n9, n10, n11, n12, n13, n14, n15, n16, n17⟩ := cells_fi X.out) | (go_at_call 57; with_reducible refine (sc_said (HF.out.below X.out.hb) s.f1).mono ?_; rintro e w5 ⟨rfl, hb⟩; have XX := Aside0.mk (X.out.below hb); clear X hb; have X := XX; clear XX; obtain ⟨m0, m1, m2, m3, m4, m5, m6, n0, n1, n2, n3, n4, n5, n6, n7, n8, n9, n10, n11, n12, n13, n14, n15, n16, n17⟩ := cells_fi X.out))
  go_ret
  exact ⟨rfl, X.out.hb⟩
 | true =>
  cases t1 : opB f.f1 s.f2 with
  | false =>
   go_wp2_with (first | (go_at_call 59; with_reducible refine (PMirFuel.mir_Do.calls 3 s.f7 0 0 r1 r2 _ hdo).mono ?_; rintro e w5 ⟨rfl, hb0⟩; have hb := hb0.below; clear hb0; have XX := Aside0.mk (X.out.below hb); clear X hb; have X := XX; clear XX; obtain ⟨m0, m1, m2, m3, m4, m5, m6, n0, n1, n2, n3, n4, n5, n6, n7, n8, n9, n10, n11, n12, n13, n14, n15, n16, n17⟩ := cells_fi X.out) | (go_at_call 57; with_reducible refine (sc_said (HF.out.below X.out.hb) s.f1).mono ?_; rintro e w5 ⟨rfl, hb⟩; have XX := Aside0.mk (X.out.below hb); clear X hb; have X := XX; clear XX; obtain ⟨m0, m1, m2, m3, m4, m5, m6, n0, n1, n2, n3, n4, n5, n6, n7, n8, n9, n10, n11, n12, n13, n14, n15, n16, n17⟩ := cells_fi X.out) | (go_at_call 58; with_reducible refine (op_said (HF.out.below X.out.hb) s.f2).mono ?_; rintro e w5 ⟨rfl, hb⟩; have XX := Aside0.mk (X.out.below hb); clear X hb; have X := XX; clear XX; obtain ⟨m0, m1, m2, m3, m4, m5, m6, n0, n1, n2, n3, n4, n5, n6, n7, n8, n9, n10, n11, n12, n13, n14, n15, n16, n17⟩ := cells_fi X.out))
   go_ret
   exact ⟨rfl, X.out.hb⟩
  | true =>
   cases t2 : opB f.f1 s.f3 with
   | false =>
    go_wp2_with (first | (go_at_call 59; with_reducible refine (PMirFuel.mir_Do.calls 3 s.f7 0 0 r1 r2 _ hdo).mono ?_; rintro e w5 ⟨rfl, hb0⟩; have hb := hb0.below; clear hb0; have XX := Aside0.mk (X.out.below hb); clear X hb; have X := XX; clear XX; obtain ⟨m0, m1, m2, m3, m4, m5, m6, n0, n1, n2, n3, n4, n5, n6, n7, n8, n9, n10, n11, n12, n13, n14, n15, n16, n17⟩ := cells_fi X.out) | (go_at_call 57; with_reducible refine (sc_said (HF.out.below X.out.hb) s.f1).mono ?_; rintro e w5 ⟨rfl, hb⟩; have XX := Aside0.mk (X.out.below hb); clear X hb; have X := XX; clear XX; obtain ⟨m0, m1, m2, m3, m4, m5, m6, n0, n1, n2, n3, n4, n5, n6, n7, n8, n9, n10, n11, n12, n13, n14, n15, n16, n17⟩ := cells_fi X.out) | (go_at_call 58; with_reducible refine (op_said (HF.out.below X.out.hb) s.f2).mono ?_; rintro e w5 ⟨rfl, hb⟩; have XX := Aside0.mk (X.out.below hb); clear X hb; have X := XX; clear XX; obtain ⟨m0, m1, m2, m3, m4, m5, m6, n0, n1, n2, n3, n4, n5, n6, n7, n8, n9, n10, n11, n12, n13, n14, n15, n16, n17⟩ := cells_fi X.out) | (go_at_call 58; with_reducible refine (op_said (HF.out.below X.out.hb) s.f3).mono ?_; rintro e w5 ⟨rfl, hb⟩; have XX := Aside0.mk (X.out.below hb); clear X hb; have X := XX; clear XX; obtain ⟨m0, m1, m2, m3, m4, m5, m6, n0, n1, n2, n3, n4, n5, n6, n7, n8, n9, n10, n11, n12, n13, n14, n15, n16, n17⟩ := cells_fi X.out))
    go_ret
    exact ⟨rfl, X.out.hb⟩
   | true =>
    go_wp2_with (first | (go_at_call 59; with_reducible refine (PMirFuel.mir_Do.calls 3 s.f7 0 0 r1 r2 _ hdo).mono ?_; rintro e w5 ⟨rfl, hb0⟩; have hb := hb0.below; clear hb0; have XX := Aside0.mk (X.out.below hb); clear X hb; have X := XX; clear XX; obtain ⟨m0, m1, m2, m3, m4, m5, m6, n0, n1, n2, n3, n4, n5, n6, n7, n8, n9, n10, n11, n12, n13, n14, n15, n16, n17⟩ := cells_fi X.out) | (go_at_call 57; with_reducible refine (sc_said (HF.out.below X.out.hb) s.f1).mono ?_; rintro e w5 ⟨rfl, hb⟩; have XX := Aside0.mk (X.out.below hb); clear X hb; have X := XX; clear XX; obtain ⟨m0, m1, m2, m3, m4, m5, m6, n0, n1, n2, n3, n4, n5, n6, n7, n8, n9, n10, n11, n12, n13, n14, n15, n16, n17⟩ := cells_fi X.out) | (go_at_call 58; with_reducible refine (op_said (HF.out.below X.out.hb) s.f2).mono ?_; rintro e w5 ⟨rfl, hb⟩; have XX := Aside0.mk (X.out.below hb); clear X hb; have X := XX; clear XX; obtain ⟨m0, m1, m2, m3, m4, m5, m6, n0, n1, n2, n3, n4, n5, n6, n7, n8, n9, n10, n11, n12, n13, n14, n15, n16, n17⟩ := cells_fi X.out) | (go_at_call 58; with_reducible refine (op_said (HF.out.below X.out.hb) s.f3).mono ?_; rintro e w5 ⟨rfl, hb⟩; have XX := Aside0.mk (X.out.below hb); clear X hb; have X := XX; clear XX; obtain ⟨m0, m1, m2, m3, m4, m5, m6, n0, n1, n2, n3, n4, n5, n6, n7, n8, n9, n10, n11, n12, n13, n14, n15, n16, n17⟩ := cells_fi X.out))
    go_ret
    exact ⟨rfl, X.out.hb⟩
set_option maxRecDepth 100000 in
set_option maxHeartbeats 8000000 in
theorem in_3 (l : List S48) (f : S48) (A0 : Option Addr) (c0 : Nat) (A2 : Option Addr) (c2 : Nat) (A6 : Option Addr) (c6 : Nat) (s : S40) (A7 A9 A15 A16 A17 : Option Addr) (c7 c9 c15 c16 c17 : Nat) (w : World) (H : FA w l f A0 c0 A2 c2 A6 c6) (h7 : k57.C w A7 s.f4.f1.length s.f4.f1) (l7 : s.f4.f1.length ≤ c7) (h9 : k57.C w A9 s.f5.f1.length s.f5.f1) (l9 : s.f5.f1.length ≤ c9) (h16 : k30.C w A16 s.f9.length s.f9) (l16 : s.f9.length ≤ c16) (h17 : (Kd.int .i64).C w A17 s.f10.length s.f10) (l17 : s.f10.length ≤ c17) (b7 : s.f4.f1.length < 4611686018427387904) (b9 : s.f5.f1.length < 4611686018427387904) (h : s.f0 = 3) :
  Calls Try.prog 31 #[.agg #[.slice A0 l.length c0, .string f.f0, .slice A2 f.f1.length c2, .int .i64 f.f2, .int .i64 f.f3, .bool f.f4, .slice A6 f.f5.length c6], .agg #[.int .i64 s.f0, .int .i64 s.f1, .bool s.f2.f0, .int .i64 s.f2.f1, .bool s.f3.f0, .int .i64 s.f3.f1, .int .i64 s.f4.f0, .slice A7 s.f4.f1.length c7, .int .i64 s.f5.f0, .slice A9 s.f5.f1.length c9, .int .i64 s.f6, .string s.f7, .int .i64 s.f8.f0, .string s.f8.f1, .int .i64 s.f8.f2, .slice A15 s.f8.f3.length c15, .slice A16 s.f9.length c16, .slice A17 s.f10.length c17]] w fun e w' => e = .returned (.bool ((scB f.f1 s.f1 && plB f.f1 s.f4))) ∧ Below w.heap.size w w' := by
 have hu101 := Try.underlying101
 have hu40 := Try.underlying40
 have HF := Aside0.mk H
 have H7 := Aside0.mk h7
 have H9 := Aside0.mk h9
 have HL := Aside0.mk (And.intro l7 (And.intro l9 l16))
 have X := Aside0.mk (FB.new w (fvA l f A0 c0 A2 c2 A6 c6) 101 (ivA s A7 A9 A15 A16 A17 c7 c9 c15 c16 c17) 40)
 unfold fvA ivA at X
 obtain ⟨m0, m1, m2, m3, m4, m5, m6, n0, n1, n2, n3, n4, n5, n6, n7, n8, n9, n10, n11, n12, n13, n14, n15, n16, n17⟩ := cells_fi X.out
 obtain ⟨d1, d2, d3, d4, d5, d6, d7, d8, d9, d10, d11, d12, d13, d14, d15⟩ : (s.f0 == 1) = false ∧ (s.f0 == 2) = false ∧ (s.f0 == 3) = true ∧ (s.f0 == 4) = false ∧ (s.f0 == 5) = false ∧ (s.f0 == 6) = false ∧ (s.f0 == 7) = false ∧ (s.f0 == 8) = false ∧ (s.f0 == 9) = false ∧ (s.f0 == 10) = false ∧ (s.f0 == 11) = false ∧ (s.f0 == 12) = false ∧ (s.f0 == 13) = false ∧ (s.f0 == 14) = false ∧ (s.f0 == 15) = false := by simp [h]
 clear H h7 h9 h16 h17 l7 l9 l16 l17 h
 go_enter Try.func31, Try.ntmps31
 cases t0 : scB f.f1 s.f1 with
 | false =>
  go_wp2_with (go_at_call 57; with_reducible refine (sc_said (HF.out.below X.out.hb) s.f1).mono ?_; rintro e w5 ⟨rfl, hb⟩; have XX := Aside0.mk (X.out.below hb); clear X hb; have X := XX; clear XX; obtain ⟨m0, m1, m2, m3, m4, m5, m6, n0, n1, n2, n3, n4, n5, n6, n7, n8, n9, n10, n11, n12, n13, n14, n15, n16, n17⟩ := cells_fi X.out)
  go_ret
  exact ⟨rfl, X.out.hb⟩
 | true =>
  go_wp2_with (first | (go_at_call 57; with_reducible refine (sc_said (HF.out.below X.out.hb) s.f1).mono ?_; rintro e w5 ⟨rfl, hb⟩; have XX := Aside0.mk (X.out.below hb); clear X hb; have X := XX; clear XX; obtain ⟨m0, m1, m2, m3, m4, m5, m6, n0, n1, n2, n3, n4, n5, n6, n7, n8, n9, n10, n11, n12, n13, n14, n15, n16, n17⟩ := cells_fi X.out) | (go_at_call 60; with_reducible refine (pl_said (HF.out.below X.out.hb) s.f4 A7 c7 (Kd.C_below H7.out X.out.hb) HL.out.1 b7).mono ?_; rintro e w5 ⟨rfl, hb⟩; have XX := Aside0.mk (X.out.below hb); clear X hb; have X := XX; clear XX; obtain ⟨m0, m1, m2, m3, m4, m5, m6, n0, n1, n2, n3, n4, n5, n6, n7, n8, n9, n10, n11, n12, n13, n14, n15, n16, n17⟩ := cells_fi X.out))
  go_ret
  exact ⟨rfl, X.out.hb⟩
set_option maxRecDepth 100000 in
set_option maxHeartbeats 8000000 in
theorem in_6 (l : List S48) (f : S48) (A0 : Option Addr) (c0 : Nat) (A2 : Option Addr) (c2 : Nat) (A6 : Option Addr) (c6 : Nat) (s : S40) (A7 A9 A15 A16 A17 : Option Addr) (c7 c9 c15 c16 c17 : Nat) (w : World) (H : FA w l f A0 c0 A2 c2 A6 c6) (h7 : k57.C w A7 s.f4.f1.length s.f4.f1) (l7 : s.f4.f1.length ≤ c7) (h9 : k57.C w A9 s.f5.f1.length s.f5.f1) (l9 : s.f5.f1.length ≤ c9) (h16 : k30.C w A16 s.f9.length s.f9) (l16 : s.f9.length ≤ c16) (h17 : (Kd.int .i64).C w A17 s.f10.length s.f10) (l17 : s.f10.length ≤ c17) (b7 : s.f4.f1.length < 4611686018427387904) (b9 : s.f5.f1.length < 4611686018427387904) (h : s.f0 = 6) :
  Calls Try.prog 31 #[.agg #[.slice A0 l.length c0, .string f.f0, .slice A2 f.f1.length c2, .int .i64 f.f2, .int .i64 f.f3, .bool f.f4, .slice A6 f.f5.length c6], .agg #[.int .i64 s.f0, .int .i64 s.f1, .bool s.f2.f0, .int .i64 s.f2.f1, .bool s.f3.f0, .int .i64 s.f3.f1, .int .i64 s.f4.f0, .slice A7 s.f4.f1.length c7, .int .i64 s.f5.f0, .slice A9 s.f5.f1.length c9, .int .i64 s.f6, .string s.f7, .int .i64 s.f8.f0, .string s.f8.f1, .int .i64 s.f8.f2, .slice A15 s.f8.f3.length c15, .slice A16 s.f9.length c16, .slice A17 s.f10.length c17]] w fun e w' => e = .returned (.bool ((scB f.f1 s.f1 && plB f.f1 s.f4))) ∧ Below w.heap.size w w' := by
 have hu101 := Try.underlying101
 have hu40 := Try.underlying40
 have HF := Aside0.mk H
 have H7 := Aside0.mk h7
 have H9 := Aside0.mk h9
 have HL := Aside0.mk (And.intro l7 (And.intro l9 l16))
 have X := Aside0.mk (FB.new w (fvA l f A0 c0 A2 c2 A6 c6) 101 (ivA s A7 A9 A15 A16 A17 c7 c9 c15 c16 c17) 40)
 unfold fvA ivA at X
 obtain ⟨m0, m1, m2, m3, m4, m5, m6, n0, n1, n2, n3, n4, n5, n6, n7, n8, n9, n10, n11, n12, n13, n14, n15, n16, n17⟩ := cells_fi X.out
 obtain ⟨d1, d2, d3, d4, d5, d6, d7, d8, d9, d10, d11, d12, d13, d14, d15⟩ : (s.f0 == 1) = false ∧ (s.f0 == 2) = false ∧ (s.f0 == 3) = false ∧ (s.f0 == 4) = false ∧ (s.f0 == 5) = false ∧ (s.f0 == 6) = true ∧ (s.f0 == 7) = false ∧ (s.f0 == 8) = false ∧ (s.f0 == 9) = false ∧ (s.f0 == 10) = false ∧ (s.f0 == 11) = false ∧ (s.f0 == 12) = false ∧ (s.f0 == 13) = false ∧ (s.f0 == 14) = false ∧ (s.f0 == 15) = false := by simp [h]
 clear H h7 h9 h16 h17 l7 l9 l16 l17 h
 go_enter Try.func31, Try.ntmps31
 cases t0 : scB f.f1 s.f1 with
 | false =>
  go_wp2_with (go_at_call 57; with_reducible refine (sc_said (HF.out.below X.out.hb) s.f1).mono ?_; rintro e w5 ⟨rfl, hb⟩; have XX := Aside0.mk (X.out.below hb); clear X hb; have X := XX; clear XX; obtain ⟨m0, m1, m2, m3, m4, m5, m6, n0, n1, n2, n3, n4, n5, n6, n7, n8, n9, n10, n11, n12, n13, n14, n15, n16, n17⟩ := cells_fi X.out)
  go_ret
  exact ⟨rfl, X.out.hb⟩
 | true =>
  go_wp2_with (first | (go_at_call 57; with_reducible refine (sc_said (HF.out.below X.out.hb) s.f1).mono ?_; rintro e w5 ⟨rfl, hb⟩; have XX := Aside0.mk (X.out.below hb); clear X hb; have X := XX; clear XX; obtain ⟨m0, m1, m2, m3, m4, m5, m6, n0, n1, n2, n3, n4, n5, n6, n7, n8, n9, n10, n11, n12, n13, n14, n15, n16, n17⟩ := cells_fi X.out) | (go_at_call 60; with_reducible refine (pl_said (HF.out.below X.out.hb) s.f4 A7 c7 (Kd.C_below H7.out X.out.hb) HL.out.1 b7).mono ?_; rintro e w5 ⟨rfl, hb⟩; have XX := Aside0.mk (X.out.below hb); clear X hb; have X := XX; clear XX; obtain ⟨m0, m1, m2, m3, m4, m5, m6, n0, n1, n2, n3, n4, n5, n6, n7, n8, n9, n10, n11, n12, n13, n14, n15, n16, n17⟩ := cells_fi X.out))
  go_ret
  exact ⟨rfl, X.out.hb⟩
set_option maxRecDepth 100000 in
set_option maxHeartbeats 8000000 in
theorem in_4 (l : List S48) (f : S48) (A0 : Option Addr) (c0 : Nat) (A2 : Option Addr) (c2 : Nat) (A6 : Option Addr) (c6 : Nat) (s : S40) (A7 A9 A15 A16 A17 : Option Addr) (c7 c9 c15 c16 c17 : Nat) (w : World) (H : FA w l f A0 c0 A2 c2 A6 c6) (h7 : k57.C w A7 s.f4.f1.length s.f4.f1) (l7 : s.f4.f1.length ≤ c7) (h9 : k57.C w A9 s.f5.f1.length s.f5.f1) (l9 : s.f5.f1.length ≤ c9) (h16 : k30.C w A16 s.f9.length s.f9) (l16 : s.f9.length ≤ c16) (h17 : (Kd.int .i64).C w A17 s.f10.length s.f10) (l17 : s.f10.length ≤ c17) (b7 : s.f4.f1.length < 4611686018427387904) (b9 : s.f5.f1.length < 4611686018427387904) (h : s.f0 = 4) :
  Calls Try.prog 31 #[.agg #[.slice A0 l.length c0, .string f.f0, .slice A2 f.f1.length c2, .int .i64 f.f2, .int .i64 f.f3, .bool f.f4, .slice A6 f.f5.length c6], .agg #[.int .i64 s.f0, .int .i64 s.f1, .bool s.f2.f0, .int .i64 s.f2.f1, .bool s.f3.f0, .int .i64 s.f3.f1, .int .i64 s.f4.f0, .slice A7 s.f4.f1.length c7, .int .i64 s.f5.f0, .slice A9 s.f5.f1.length c9, .int .i64 s.f6, .string s.f7, .int .i64 s.f8.f0, .string s.f8.f1, .int .i64 s.f8.f2, .slice A15 s.f8.f3.length c15, .slice A16 s.f9.length c16, .slice A17 s.f10.length c17]] w fun e w' => e = .returned (.bool ((plB f.f1 s.f4 && opB f.f1 s.f2))) ∧ Below w.heap.size w w' := by
 have hu101 := Try.underlying101
 have hu40 := Try.underlying40
 have HF := Aside0.mk H
 have H7 := Aside0.mk h7
 have H9 := Aside0.mk h9
 have HL := Aside0.mk (And.intro l7 (And.intro l9 l16))
 have X := Aside0.mk (FB.new w (fvA l f A0 c0 A2 c2 A6 c6) 101 (ivA s A7 A9 A15 A16 A17 c7 c9 c15 c16 c17) 40)
 unfold fvA ivA at X
 obtain ⟨m0, m1, m2, m3, m4, m5, m6, n0, n1, n2, n3, n4, n5, n6, n7, n8, n9, n10, n11, n12, n13, n14, n15, n16, n17⟩ := cells_fi X.out
 obtain ⟨d1, d2, d3, d4, d5, d6, d7, d8, d9, d10, d11, d12, d13, d14, d15⟩ : (s.f0 == 1) = false ∧ (s.f0 == 2) = false ∧ (s.f0 == 3) = false ∧ (s.f0 == 4) = true ∧ (s.f0 == 5) = false ∧ (s.f0 == 6) = false ∧ (s.f0 == 7) = false ∧ (s.f0 == 8) = false ∧ (s.f0 == 9) = false ∧ (s.f0 == 10) = false ∧ (s.f0 == 11) = false ∧ (s.f0 == 12) = false ∧ (s.f0 == 13) = false ∧ (s.f0 == 14) = false ∧ (s.f0 == 15) = false := by simp [h]
 clear H h7 h9 h16 h17 l7 l9 l16 l17 h
 go_enter Try.func31, Try.ntmps31
 cases t0 : plB f.f1 s.f4 with
 | false =>
  go_wp2_with (go_at_call 60; with_reducible refine (pl_said (HF.out.below X.out.hb) s.f4 A7 c7 (Kd.C_below H7.out X.out.hb) HL.out.1 b7).mono ?_; rintro e w5 ⟨rfl, hb⟩; have XX := Aside0.mk (X.out.below hb); clear X hb; have X := XX; clear XX; obtain ⟨m0, m1, m2, m3, m4, m5, m6, n0, n1, n2, n3, n4, n5, n6, n7, n8, n9, n10, n11, n12, n13, n14, n15, n16, n17⟩ := cells_fi X.out)
  go_ret
  exact ⟨rfl, X.out.hb⟩
 | true =>
  go_wp2_with (first | (go_at_call 60; with_reducible refine (pl_said (HF.out.below X.out.hb) s.f4 A7 c7 (Kd.C_below H7.out X.out.hb) HL.out.1 b7).mono ?_; rintro e w5 ⟨rfl, hb⟩; have XX := Aside0.mk (X.out.below hb); clear X hb; have X := XX; clear XX; obtain ⟨m0, m1, m2, m3, m4, m5, m6, n0, n1, n2, n3, n4, n5, n6, n7, n8, n9, n10, n11, n12, n13, n14, n15, n16, n17⟩ := cells_fi X.out) | (go_at_call 58; with_reducible refine (op_said (HF.out.below X.out.hb) s.f2).mono ?_; rintro e w5 ⟨rfl, hb⟩; have XX := Aside0.mk (X.out.below hb); clear X hb; have X := XX; clear XX; obtain ⟨m0, m1, m2, m3, m4, m5, m6, n0, n1, n2, n3, n4, n5, n6, n7, n8, n9, n10, n11, n12, n13, n14, n15, n16, n17⟩ := cells_fi X.out))
  go_ret
  exact ⟨rfl, X.out.hb⟩
set_option maxRecDepth 100000 in
set_option maxHeartbeats 8000000 in
theorem in_5 (l : List S48) (f : S48) (A0 : Option Addr) (c0 : Nat) (A2 : Option Addr) (c2 : Nat) (A6 : Option Addr) (c6 : Nat) (s : S40) (A7 A9 A15 A16 A17 : Option Addr) (c7 c9 c15 c16 c17 : Nat) (w : World) (H : FA w l f A0 c0 A2 c2 A6 c6) (h7 : k57.C w A7 s.f4.f1.length s.f4.f1) (l7 : s.f4.f1.length ≤ c7) (h9 : k57.C w A9 s.f5.f1.length s.f5.f1) (l9 : s.f5.f1.length ≤ c9) (h16 : k30.C w A16 s.f9.length s.f9) (l16 : s.f9.length ≤ c16) (h17 : (Kd.int .i64).C w A17 s.f10.length s.f10) (l17 : s.f10.length ≤ c17) (b7 : s.f4.f1.length < 4611686018427387904) (b9 : s.f5.f1.length < 4611686018427387904) (h : s.f0 = 5) :
  Calls Try.prog 31 #[.agg #[.slice A0 l.length c0, .string f.f0, .slice A2 f.f1.length c2, .int .i64 f.f2, .int .i64 f.f3, .bool f.f4, .slice A6 f.f5.length c6], .agg #[.int .i64 s.f0, .int .i64 s.f1, .bool s.f2.f0, .int .i64 s.f2.f1, .bool s.f3.f0, .int .i64 s.f3.f1, .int .i64 s.f4.f0, .slice A7 s.f4.f1.length c7, .int .i64 s.f5.f0, .slice A9 s.f5.f1.length c9, .int .i64 s.f6, .string s.f7, .int .i64 s.f8.f0, .string s.f8.f1, .int .i64 s.f8.f2, .slice A15 s.f8.f3.length c15, .slice A16 s.f9.length c16, .slice A17 s.f10.length c17]] w fun e w' => e = .returned (.bool ((plB f.f1 s.f4 && (plB f.f1 s.f5 && woB s.f6)))) ∧ Below w.heap.size w w' := by
 have hu101 := Try.underlying101
 have hu40 := Try.underlying40
 have HF := Aside0.mk H
 have H7 := Aside0.mk h7
 have H9 := Aside0.mk h9
 have HL := Aside0.mk (And.intro l7 (And.intro l9 l16))
 have X := Aside0.mk (FB.new w (fvA l f A0 c0 A2 c2 A6 c6) 101 (ivA s A7 A9 A15 A16 A17 c7 c9 c15 c16 c17) 40)
 unfold fvA ivA at X
 obtain ⟨m0, m1, m2, m3, m4, m5, m6, n0, n1, n2, n3, n4, n5, n6, n7, n8, n9, n10, n11, n12, n13, n14, n15, n16, n17⟩ := cells_fi X.out
 obtain ⟨d1, d2, d3, d4, d5, d6, d7, d8, d9, d10, d11, d12, d13, d14, d15⟩ : (s.f0 == 1) = false ∧ (s.f0 == 2) = false ∧ (s.f0 == 3) = false ∧ (s.f0 == 4) = false ∧ (s.f0 == 5) = true ∧ (s.f0 == 6) = false ∧ (s.f0 == 7) = false ∧ (s.f0 == 8) = false ∧ (s.f0 == 9) = false ∧ (s.f0 == 10) = false ∧ (s.f0 == 11) = false ∧ (s.f0 == 12) = false ∧ (s.f0 == 13) = false ∧ (s.f0 == 14) = false ∧ (s.f0 == 15) = false := by simp [h]
 clear H h7 h9 h16 h17 l7 l9 l16 l17 h
 go_enter Try.func31, Try.ntmps31
 cases t0 : plB f.f1 s.f4 with
 | false =>
  go_wp2_with (go_at_call 60; with_reducible refine (pl_said (HF.out.below X.out.hb) s.f4 A7 c7 (Kd.C_below H7.out X.out.hb) HL.out.1 b7).mono ?_; rintro e w5 ⟨rfl, hb⟩; have XX := Aside0.mk (X.out.below hb); clear X hb; have X := XX; clear XX; obtain ⟨m0, m1, m2, m3, m4, m5, m6, n0, n1, n2, n3, n4, n5, n6, n7, n8, n9, n10, n11, n12, n13, n14, n15, n16, n17⟩ := cells_fi X.out)
  go_ret
  exact ⟨rfl, X.out.hb⟩
 | true =>
  cases t1 : plB f.f1 s.f5 with
  | false =>
   go_wp2_with (first | (go_at_call 60; with_reducible refine (pl_said (HF.out.below X.out.hb) s.f4 A7 c7 (Kd.C_below H7.out X.out.hb) HL.out.1 b7).mono ?_; rintro e w5 ⟨rfl, hb⟩; have XX := Aside0.mk (X.out.below hb); clear X hb; have X := XX; clear XX; obtain ⟨m0, m1, m2, m3, m4, m5, m6, n0, n1, n2, n3, n4, n5, n6, n7, n8, n9, n10, n11, n12, n13, n14, n15, n16, n17⟩ := cells_fi X.out) | (go_at_call 60; with_reducible refine (pl_said (HF.out.below X.out.hb) s.f5 A9 c9 (Kd.C_below H9.out X.out.hb) HL.out.2.1 b9).mono ?_; rintro e w5 ⟨rfl, hb⟩; have XX := Aside0.mk (X.out.below hb); clear X hb; have X := XX; clear XX; obtain ⟨m0, m1, m2, m3, m4, m5, m6, n0, n1, n2, n3, n4, n5, n6, n7, n8, n9, n10, n11, n12, n13, n14, n15, n16, n17⟩ := cells_fi X.out))
   go_ret
   exact ⟨rfl, X.out.hb⟩
  | true =>
   go_wp2_with (first | (go_at_call 60; with_reducible refine (pl_said (HF.out.below X.out.hb) s.f4 A7 c7 (Kd.C_below H7.out X.out.hb) HL.out.1 b7).mono ?_; rintro e w5 ⟨rfl, hb⟩; have XX := Aside0.mk (X.out.below hb); clear X hb; have X := XX; clear XX; obtain ⟨m0, m1, m2, m3, m4, m5, m6, n0, n1, n2, n3, n4, n5, n6, n7, n8, n9, n10, n11, n12, n13, n14, n15, n16, n17⟩ := cells_fi X.out) | (go_at_call 60; with_reducible refine (pl_said (HF.out.below X.out.hb) s.f5 A9 c9 (Kd.C_below H9.out X.out.hb) HL.out.2.1 b9).mono ?_; rintro e w5 ⟨rfl, hb⟩; have XX := Aside0.mk (X.out.below hb); clear X hb; have X := XX; clear XX; obtain ⟨m0, m1, m2, m3, m4, m5, m6, n0, n1, n2, n3, n4, n5, n6, n7, n8, n9, n10, n11, n12, n13, n14, n15, n16, n17⟩ := cells_fi X.out) | (go_at_call 61; with_reducible refine (wo_said s.f6 _).mono ?_; rintro e w5 ⟨rfl, hb⟩; have XX := Aside0.mk (X.out.below hb); clear X hb; have X := XX; clear XX; obtain ⟨m0, m1, m2, m3, m4, m5, m6, n0, n1, n2, n3, n4, n5, n6, n7, n8, n9, n10, n11, n12, n13, n14, n15, n16, n17⟩ := cells_fi X.out))
   go_ret
   exact ⟨rfl, X.out.hb⟩
set_option maxRecDepth 100000 in
set_option maxHeartbeats 8000000 in
theorem in_7 (l : List S48) (f : S48) (A0 : Option Addr) (c0 : Nat) (A2 : Option Addr) (c2 : Nat) (A6 : Option Addr) (c6 : Nat) (s : S40) (A7 A9 A15 A16 A17 : Option Addr) (c7 c9 c15 c16 c17 : Nat) (w : World) (H : FA w l f A0 c0 A2 c2 A6 c6) (h7 : k57.C w A7 s.f4.f1.length s.f4.f1) (l7 : s.f4.f1.length ≤ c7) (h9 : k57.C w A9 s.f5.f1.length s.f5.f1) (l9 : s.f5.f1.length ≤ c9) (h16 : k30.C w A16 s.f9.length s.f9) (l16 : s.f9.length ≤ c16) (h17 : (Kd.int .i64).C w A17 s.f10.length s.f10) (l17 : s.f10.length ≤ c17) (b7 : s.f4.f1.length < 4611686018427387904) (b9 : s.f5.f1.length < 4611686018427387904) (h : s.f0 = 7) :
  Calls Try.prog 31 #[.agg #[.slice A0 l.length c0, .string f.f0, .slice A2 f.f1.length c2, .int .i64 f.f2, .int .i64 f.f3, .bool f.f4, .slice A6 f.f5.length c6], .agg #[.int .i64 s.f0, .int .i64 s.f1, .bool s.f2.f0, .int .i64 s.f2.f1, .bool s.f3.f0, .int .i64 s.f3.f1, .int .i64 s.f4.f0, .slice A7 s.f4.f1.length c7, .int .i64 s.f5.f0, .slice A9 s.f5.f1.length c9, .int .i64 s.f6, .string s.f7, .int .i64 s.f8.f0, .string s.f8.f1, .int .i64 s.f8.f2, .slice A15 s.f8.f3.length c15, .slice A16 s.f9.length c16, .slice A17 s.f10.length c17]] w fun e w' => e = .returned (.bool ((scB f.f1 s.f1 && woB s.f6))) ∧ Below w.heap.size w w' := by
 have hu101 := Try.underlying101
 have hu40 := Try.underlying40
 have HF := Aside0.mk H
 have H7 := Aside0.mk h7
 have H9 := Aside0.mk h9
 have HL := Aside0.mk (And.intro l7 (And.intro l9 l16))
 have X := Aside0.mk (FB.new w (fvA l f A0 c0 A2 c2 A6 c6) 101 (ivA s A7 A9 A15 A16 A17 c7 c9 c15 c16 c17) 40)
 unfold fvA ivA at X
 obtain ⟨m0, m1, m2, m3, m4, m5, m6, n0, n1, n2, n3, n4, n5, n6, n7, n8, n9, n10, n11, n12, n13, n14, n15, n16, n17⟩ := cells_fi X.out
 obtain ⟨d1, d2, d3, d4, d5, d6, d7, d8, d9, d10, d11, d12, d13, d14, d15⟩ : (s.f0 == 1) = false ∧ (s.f0 == 2) = false ∧ (s.f0 == 3) = false ∧ (s.f0 == 4) = false ∧ (s.f0 == 5) = false ∧ (s.f0 == 6) = false ∧ (s.f0 == 7) = true ∧ (s.f0 == 8) = false ∧ (s.f0 == 9) = false ∧ (s.f0 == 10) = false ∧ (s.f0 == 11) = false ∧ (s.f0 == 12) = false ∧ (s.f0 == 13) = false ∧ (s.f0 == 14) = false ∧ (s.f0 == 15) = false := by simp [h]
 clear H h7 h9 h16 h17 l7 l9 l16 l17 h
 go_enter Try.func31, Try.ntmps31
 cases t0 : scB f.f1 s.f1 with
 | false =>
  go_wp2_with (go_at_call 57; with_reducible refine (sc_said (HF.out.below X.out.hb) s.f1).mono ?_; rintro e w5 ⟨rfl, hb⟩; have XX := Aside0.mk (X.out.below hb); clear X hb; have X := XX; clear XX; obtain ⟨m0, m1, m2, m3, m4, m5, m6, n0, n1, n2, n3, n4, n5, n6, n7, n8, n9, n10, n11, n12, n13, n14, n15, n16, n17⟩ := cells_fi X.out)
  go_ret
  exact ⟨rfl, X.out.hb⟩
 | true =>
  go_wp2_with (first | (go_at_call 57; with_reducible refine (sc_said (HF.out.below X.out.hb) s.f1).mono ?_; rintro e w5 ⟨rfl, hb⟩; have XX := Aside0.mk (X.out.below hb); clear X hb; have X := XX; clear XX; obtain ⟨m0, m1, m2, m3, m4, m5, m6, n0, n1, n2, n3, n4, n5, n6, n7, n8, n9, n10, n11, n12, n13, n14, n15, n16, n17⟩ := cells_fi X.out) | (go_at_call 61; with_reducible refine (wo_said s.f6 _).mono ?_; rintro e w5 ⟨rfl, hb⟩; have XX := Aside0.mk (X.out.below hb); clear X hb; have X := XX; clear XX; obtain ⟨m0, m1, m2, m3, m4, m5, m6, n0, n1, n2, n3, n4, n5, n6, n7, n8, n9, n10, n11, n12, n13, n14, n15, n16, n17⟩ := cells_fi X.out))
  go_ret
  exact ⟨rfl, X.out.hb⟩
set_option maxRecDepth 100000 in
set_option maxHeartbeats 8000000 in
theorem in_8 (l : List S48) (f : S48) (A0 : Option Addr) (c0 : Nat) (A2 : Option Addr) (c2 : Nat) (A6 : Option Addr) (c6 : Nat) (s : S40) (A7 A9 A15 A16 A17 : Option Addr) (c7 c9 c15 c16 c17 : Nat) (w : World) (H : FA w l f A0 c0 A2 c2 A6 c6) (h7 : k57.C w A7 s.f4.f1.length s.f4.f1) (l7 : s.f4.f1.length ≤ c7) (h9 : k57.C w A9 s.f5.f1.length s.f5.f1) (l9 : s.f5.f1.length ≤ c9) (h16 : k30.C w A16 s.f9.length s.f9) (l16 : s.f9.length ≤ c16) (h17 : (Kd.int .i64).C w A17 s.f10.length s.f10) (l17 : s.f10.length ≤ c17) (b7 : s.f4.f1.length < 4611686018427387904) (b9 : s.f5.f1.length < 4611686018427387904) (h : s.f0 = 8) :
  Calls Try.prog 31 #[.agg #[.slice A0 l.length c0, .string f.f0, .slice A2 f.f1.length c2, .int .i64 f.f2, .int .i64 f.f3, .bool f.f4, .slice A6 f.f5.length c6], .agg #[.int .i64 s.f0, .int .i64 s.f1, .bool s.f2.f0, .int .i64 s.f2.f1, .bool s.f3.f0, .int .i64 s.f3.f1, .int .i64 s.f4.f0, .slice A7 s.f4.f1.length c7, .int .i64 s.f5.f0, .slice A9 s.f5.f1.length c9, .int .i64 s.f6, .string s.f7, .int .i64 s.f8.f0, .string s.f8.f1, .int .i64 s.f8.f2, .slice A15 s.f8.f3.length c15, .slice A16 s.f9.length c16, .slice A17 s.f10.length c17]] w fun e w' => e = .returned (.bool (opB f.f1 s.f2)) ∧ Below w.heap.size w w' := by
 have hu101 := Try.underlying101
 have hu40 := Try.underlying40
 have HF := Aside0.mk H
 have H7 := Aside0.mk h7
 have H9 := Aside0.mk h9
 have HL := Aside0.mk (And.intro l7 (And.intro l9 l16))
 have X := Aside0.mk (FB.new w (fvA l f A0 c0 A2 c2 A6 c6) 101 (ivA s A7 A9 A15 A16 A17 c7 c9 c15 c16 c17) 40)
 unfold fvA ivA at X
 obtain ⟨m0, m1, m2, m3, m4, m5, m6, n0, n1, n2, n3, n4, n5, n6, n7, n8, n9, n10, n11, n12, n13, n14, n15, n16, n17⟩ := cells_fi X.out
 obtain ⟨d1, d2, d3, d4, d5, d6, d7, d8, d9, d10, d11, d12, d13, d14, d15⟩ : (s.f0 == 1) = false ∧ (s.f0 == 2) = false ∧ (s.f0 == 3) = false ∧ (s.f0 == 4) = false ∧ (s.f0 == 5) = false ∧ (s.f0 == 6) = false ∧ (s.f0 == 7) = false ∧ (s.f0 == 8) = true ∧ (s.f0 == 9) = false ∧ (s.f0 == 10) = false ∧ (s.f0 == 11) = false ∧ (s.f0 == 12) = false ∧ (s.f0 == 13) = false ∧ (s.f0 == 14) = false ∧ (s.f0 == 15) = false := by simp [h]
 clear H h7 h9 h16 h17 l7 l9 l16 l17 h
 go_enter Try.func31, Try.ntmps31
 go_wp2_with (go_at_call 58; with_reducible refine (op_said (HF.out.below X.out.hb) s.f2).mono ?_; rintro e w5 ⟨rfl, hb⟩; have XX := Aside0.mk (X.out.below hb); clear X hb; have X := XX; clear XX; obtain ⟨m0, m1, m2, m3, m4, m5, m6, n0, n1, n2, n3, n4, n5, n6, n7, n8, n9, n10, n11, n12, n13, n14, n15, n16, n17⟩ := cells_fi X.out)
 go_ret
 exact ⟨rfl, X.out.hb⟩
set_option maxRecDepth 100000 in
set_option maxHeartbeats 8000000 in
theorem in_13 (l : List S48) (f : S48) (A0 : Option Addr) (c0 : Nat) (A2 : Option Addr) (c2 : Nat) (A6 : Option Addr) (c6 : Nat) (s : S40) (A7 A9 A15 A16 A17 : Option Addr) (c7 c9 c15 c16 c17 : Nat) (w : World) (H : FA w l f A0 c0 A2 c2 A6 c6) (h7 : k57.C w A7 s.f4.f1.length s.f4.f1) (l7 : s.f4.f1.length ≤ c7) (h9 : k57.C w A9 s.f5.f1.length s.f5.f1) (l9 : s.f5.f1.length ≤ c9) (h16 : k30.C w A16 s.f9.length s.f9) (l16 : s.f9.length ≤ c16) (h17 : (Kd.int .i64).C w A17 s.f10.length s.f10) (l17 : s.f10.length ≤ c17) (b7 : s.f4.f1.length < 4611686018427387904) (b9 : s.f5.f1.length < 4611686018427387904) (h : s.f0 = 13) :
  Calls Try.prog 31 #[.agg #[.slice A0 l.length c0, .string f.f0, .slice A2 f.f1.length c2, .int .i64 f.f2, .int .i64 f.f3, .bool f.f4, .slice A6 f.f5.length c6], .agg #[.int .i64 s.f0, .int .i64 s.f1, .bool s.f2.f0, .int .i64 s.f2.f1, .bool s.f3.f0, .int .i64 s.f3.f1, .int .i64 s.f4.f0, .slice A7 s.f4.f1.length c7, .int .i64 s.f5.f0, .slice A9 s.f5.f1.length c9, .int .i64 s.f6, .string s.f7, .int .i64 s.f8.f0, .string s.f8.f1, .int .i64 s.f8.f2, .slice A15 s.f8.f3.length c15, .slice A16 s.f9.length c16, .slice A17 s.f10.length c17]] w fun e w' => e = .returned (.bool (opB f.f1 s.f2)) ∧ Below w.heap.size w w' := by
 have hu101 := Try.underlying101
 have hu40 := Try.underlying40
 have HF := Aside0.mk H
 have H7 := Aside0.mk h7
 have H9 := Aside0.mk h9
 have HL := Aside0.mk (And.intro l7 (And.intro l9 l16))
 have X := Aside0.mk (FB.new w (fvA l f A0 c0 A2 c2 A6 c6) 101 (ivA s A7 A9 A15 A16 A17 c7 c9 c15 c16 c17) 40)
 unfold fvA ivA at X
 obtain ⟨m0, m1, m2, m3, m4, m5, m6, n0, n1, n2, n3, n4, n5, n6, n7, n8, n9, n10, n11, n12, n13, n14, n15, n16, n17⟩ := cells_fi X.out
 obtain ⟨d1, d2, d3, d4, d5, d6, d7, d8, d9, d10, d11, d12, d13, d14, d15⟩ : (s.f0 == 1) = false ∧ (s.f0 == 2) = false ∧ (s.f0 == 3) = false ∧ (s.f0 == 4) = false ∧ (s.f0 == 5) = false ∧ (s.f0 == 6) = false ∧ (s.f0 == 7) = false ∧ (s.f0 == 8) = false ∧ (s.f0 == 9) = false ∧ (s.f0 == 10) = false ∧ (s.f0 == 11) = false ∧ (s.f0 == 12) = false ∧ (s.f0 == 13) = true ∧ (s.f0 == 14) = false ∧ (s.f0 == 15) = false := by simp [h]
 clear H h7 h9 h16 h17 l7 l9 l16 l17 h
 go_enter Try.func31, Try.ntmps31
 go_wp2_with (go_at_call 58; with_reducible refine (op_said (HF.out.below X.out.hb) s.f2).mono ?_; rintro e w5 ⟨rfl, hb⟩; have XX := Aside0.mk (X.out.below hb); clear X hb; have X := XX; clear XX; obtain ⟨m0, m1, m2, m3, m4, m5, m6, n0, n1, n2, n3, n4, n5, n6, n7, n8, n9, n10, n11, n12, n13, n14, n15, n16, n17⟩ := cells_fi X.out)
 go_ret
 exact ⟨rfl, X.out.hb⟩
set_option maxRecDepth 100000 in
set_option maxHeartbeats 8000000 in
theorem in_9 (l : List S48) (f : S48) (A0 : Option Addr) (c0 : Nat) (A2 : Option Addr) (c2 : Nat) (A6 : Option Addr) (c6 : Nat) (s : S40) (A7 A9 A15 A16 A17 : Option Addr) (c7 c9 c15 c16 c17 : Nat) (w : World) (H : FA w l f A0 c0 A2 c2 A6 c6) (h7 : k57.C w A7 s.f4.f1.length s.f4.f1) (l7 : s.f4.f1.length ≤ c7) (h9 : k57.C w A9 s.f5.f1.length s.f5.f1) (l9 : s.f5.f1.length ≤ c9) (h16 : k30.C w A16 s.f9.length s.f9) (l16 : s.f9.length ≤ c16) (h17 : (Kd.int .i64).C w A17 s.f10.length s.f10) (l17 : s.f10.length ≤ c17) (b7 : s.f4.f1.length < 4611686018427387904) (b9 : s.f5.f1.length < 4611686018427387904) (h : s.f0 = 9) :
  Calls Try.prog 31 #[.agg #[.slice A0 l.length c0, .string f.f0, .slice A2 f.f1.length c2, .int .i64 f.f2, .int .i64 f.f3, .bool f.f4, .slice A6 f.f5.length c6], .agg #[.int .i64 s.f0, .int .i64 s.f1, .bool s.f2.f0, .int .i64 s.f2.f1, .bool s.f3.f0, .int .i64 s.f3.f1, .int .i64 s.f4.f0, .slice A7 s.f4.f1.length c7, .int .i64 s.f5.f0, .slice A9 s.f5.f1.length c9, .int .i64 s.f6, .string s.f7, .int .i64 s.f8.f0, .string s.f8.f1, .int .i64 s.f8.f2, .slice A15 s.f8.f3.length c15, .slice A16 s.f9.length c16, .slice A17 s.f10.length c17]] w fun e w' => e = .returned (.bool (plB f.f1 s.f4)) ∧ Below w.heap.size w w' := by
 have hu101 := Try.underlying101
 have hu40 := Try.underlying40
 have HF := Aside0.mk H
 have H7 := Aside0.mk h7
 have H9 := Aside0.mk h9
 have HL := Aside0.mk (And.intro l7 (And.intro l9 l16))
 have X := Aside0.mk (FB.new w (fvA l f A0 c0 A2 c2 A6 c6) 101 (ivA s A7 A9 A15 A16 A17 c7 c9 c15 c16 c17) 40)
 unfold fvA ivA at X
 obtain ⟨m0, m1, m2, m3, m4, m5, m6, n0, n1, n2, n3, n4, n5, n6, n7, n8, n9, n10, n11, n12, n13, n14, n15, n16, n17⟩ := cells_fi X.out
 obtain ⟨d1, d2, d3, d4, d5, d6, d7, d8, d9, d10, d11, d12, d13, d14, d15⟩ : (s.f0 == 1) = false ∧ (s.f0 == 2) = false ∧ (s.f0 == 3) = false ∧ (s.f0 == 4) = false ∧ (s.f0 == 5) = false ∧ (s.f0 == 6) = false ∧ (s.f0 == 7) = false ∧ (s.f0 == 8) = false ∧ (s.f0 == 9) = true ∧ (s.f0 == 10) = false ∧ (s.f0 == 11) = false ∧ (s.f0 == 12) = false ∧ (s.f0 == 13) = false ∧ (s.f0 == 14) = false ∧ (s.f0 == 15) = false := by simp [h]
 clear H h7 h9 h16 h17 l7 l9 l16 l17 h
 go_enter Try.func31, Try.ntmps31
 go_wp2_with (go_at_call 60; with_reducible refine (pl_said (HF.out.below X.out.hb) s.f4 A7 c7 (Kd.C_below H7.out X.out.hb) HL.out.1 b7).mono ?_; rintro e w5 ⟨rfl, hb⟩; have XX := Aside0.mk (X.out.below hb); clear X hb; have X := XX; clear XX; obtain ⟨m0, m1, m2, m3, m4, m5, m6, n0, n1, n2, n3, n4, n5, n6, n7, n8, n9, n10, n11, n12, n13, n14, n15, n16, n17⟩ := cells_fi X.out)
 go_ret
 exact ⟨rfl, X.out.hb⟩
set_option maxRecDepth 100000 in
set_option maxHeartbeats 8000000 in
theorem in_10 (l : List S48) (f : S48) (A0 : Option Addr) (c0 : Nat) (A2 : Option Addr) (c2 : Nat) (A6 : Option Addr) (c6 : Nat) (s : S40) (A7 A9 A15 A16 A17 : Option Addr) (c7 c9 c15 c16 c17 : Nat) (w : World) (H : FA w l f A0 c0 A2 c2 A6 c6) (h7 : k57.C w A7 s.f4.f1.length s.f4.f1) (l7 : s.f4.f1.length ≤ c7) (h9 : k57.C w A9 s.f5.f1.length s.f5.f1) (l9 : s.f5.f1.length ≤ c9) (h16 : k30.C w A16 s.f9.length s.f9) (l16 : s.f9.length ≤ c16) (h17 : (Kd.int .i64).C w A17 s.f10.length s.f10) (l17 : s.f10.length ≤ c17) (b7 : s.f4.f1.length < 4611686018427387904) (b9 : s.f5.f1.length < 4611686018427387904) (h : s.f0 = 10) :
  Calls Try.prog 31 #[.agg #[.slice A0 l.length c0, .string f.f0, .slice A2 f.f1.length c2, .int .i64 f.f2, .int .i64 f.f3, .bool f.f4, .slice A6 f.f5.length c6], .agg #[.int .i64 s.f0, .int .i64 s.f1, .bool s.f2.f0, .int .i64 s.f2.f1, .bool s.f3.f0, .int .i64 s.f3.f1, .int .i64 s.f4.f0, .slice A7 s.f4.f1.length c7, .int .i64 s.f5.f0, .slice A9 s.f5.f1.length c9, .int .i64 s.f6, .string s.f7, .int .i64 s.f8.f0, .string s.f8.f1, .int .i64 s.f8.f2, .slice A15 s.f8.f3.length c15, .slice A16 s.f9.length c16, .slice A17 s.f10.length c17]] w fun e w' => e = .returned (.bool (laB f.f1 s.f1)) ∧ Below w.heap.size w w' := by
 have hu101 := Try.underlying101
 have hu40 := Try.underlying40
 have HF := Aside0.mk H
 have H7 := Aside0.mk h7
 have H9 := Aside0.mk h9
 have HL := Aside0.mk (And.intro l7 (And.intro l9 l16))
 have X := Aside0.mk (FB.new w (fvA l f A0 c0 A2 c2 A6 c6) 101 (ivA s A7 A9 A15 A16 A17 c7 c9 c15 c16 c17) 40)
 unfold fvA ivA at X
 obtain ⟨m0, m1, m2, m3, m4, m5, m6, n0, n1, n2, n3, n4, n5, n6, n7, n8, n9, n10, n11, n12, n13, n14, n15, n16, n17⟩ := cells_fi X.out
 obtain ⟨d1, d2, d3, d4, d5, d6, d7, d8, d9, d10, d11, d12, d13, d14, d15⟩ : (s.f0 == 1) = false ∧ (s.f0 == 2) = false ∧ (s.f0 == 3) = false ∧ (s.f0 == 4) = false ∧ (s.f0 == 5) = false ∧ (s.f0 == 6) = false ∧ (s.f0 == 7) = false ∧ (s.f0 == 8) = false ∧ (s.f0 == 9) = false ∧ (s.f0 == 10) = true ∧ (s.f0 == 11) = false ∧ (s.f0 == 12) = false ∧ (s.f0 == 13) = false ∧ (s.f0 == 14) = false ∧ (s.f0 == 15) = false := by simp [h]
 clear H h7 h9 h16 h17 l7 l9 l16 l17 h
 go_enter Try.func31, Try.ntmps31
 go_wp2_with (go_at_call 62; with_reducible refine (la_said (HF.out.below X.out.hb) s.f1).mono ?_; rintro e w5 ⟨rfl, hb⟩; have XX := Aside0.mk (X.out.below hb); clear X hb; have X := XX; clear XX; obtain ⟨m0, m1, m2, m3, m4, m5, m6, n0, n1, n2, n3, n4, n5, n6, n7, n8, n9, n10, n11, n12, n13, n14, n15, n16, n17⟩ := cells_fi X.out)
 go_ret
 exact ⟨rfl, X.out.hb⟩
set_option maxRecDepth 100000 in
set_option maxHeartbeats 8000000 in
theorem in_11 (l : List S48) (f : S48) (A0 : Option Addr) (c0 : Nat) (A2 : Option Addr) (c2 : Nat) (A6 : Option Addr) (c6 : Nat) (s : S40) (A7 A9 A15 A16 A17 : Option Addr) (c7 c9 c15 c16 c17 : Nat) (w : World) (H : FA w l f A0 c0 A2 c2 A6 c6) (h7 : k57.C w A7 s.f4.f1.length s.f4.f1) (l7 : s.f4.f1.length ≤ c7) (h9 : k57.C w A9 s.f5.f1.length s.f5.f1) (l9 : s.f5.f1.length ≤ c9) (h16 : k30.C w A16 s.f9.length s.f9) (l16 : s.f9.length ≤ c16) (h17 : (Kd.int .i64).C w A17 s.f10.length s.f10) (l17 : s.f10.length ≤ c17) (b7 : s.f4.f1.length < 4611686018427387904) (b9 : s.f5.f1.length < 4611686018427387904) (h : s.f0 = 11) :
  Calls Try.prog 31 #[.agg #[.slice A0 l.length c0, .string f.f0, .slice A2 f.f1.length c2, .int .i64 f.f2, .int .i64 f.f3, .bool f.f4, .slice A6 f.f5.length c6], .agg #[.int .i64 s.f0, .int .i64 s.f1, .bool s.f2.f0, .int .i64 s.f2.f1, .bool s.f3.f0, .int .i64 s.f3.f1, .int .i64 s.f4.f0, .slice A7 s.f4.f1.length c7, .int .i64 s.f5.f0, .slice A9 s.f5.f1.length c9, .int .i64 s.f6, .string s.f7, .int .i64 s.f8.f0, .string s.f8.f1, .int .i64 s.f8.f2, .slice A15 s.f8.f3.length c15, .slice A16 s.f9.length c16, .slice A17 s.f10.length c17]] w fun e w' => e = .returned (.bool (laB f.f1 s.f1)) ∧ Below w.heap.size w w' := by
 have hu101 := Try.underlying101
 have hu40 := Try.underlying40
 have HF := Aside0.mk H
 have H7 := Aside0.mk h7
 have H9 := Aside0.mk h9
 have HL := Aside0.mk (And.intro l7 (And.intro l9 l16))
 have X := Aside0.mk (FB.new w (fvA l f A0 c0 A2 c2 A6 c6) 101 (ivA s A7 A9 A15 A16 A17 c7 c9 c15 c16 c17) 40)
 unfold fvA ivA at X
 obtain ⟨m0, m1, m2, m3, m4, m5, m6, n0, n1, n2, n3, n4, n5, n6, n7, n8, n9, n10, n11, n12, n13, n14, n15, n16, n17⟩ := cells_fi X.out
 obtain ⟨d1, d2, d3, d4, d5, d6, d7, d8, d9, d10, d11, d12, d13, d14, d15⟩ : (s.f0 == 1) = false ∧ (s.f0 == 2) = false ∧ (s.f0 == 3) = false ∧ (s.f0 == 4) = false ∧ (s.f0 == 5) = false ∧ (s.f0 == 6) = false ∧ (s.f0 == 7) = false ∧ (s.f0 == 8) = false ∧ (s.f0 == 9) = false ∧ (s.f0 == 10) = false ∧ (s.f0 == 11) = true ∧ (s.f0 == 12) = false ∧ (s.f0 == 13) = false ∧ (s.f0 == 14) = false ∧ (s.f0 == 15) = false := by simp [h]
 clear H h7 h9 h16 h17 l7 l9 l16 l17 h
 go_enter Try.func31, Try.ntmps31
 go_wp2_with (go_at_call 62; with_reducible refine (la_said (HF.out.below X.out.hb) s.f1).mono ?_; rintro e w5 ⟨rfl, hb⟩; have XX := Aside0.mk (X.out.below hb); clear X hb; have X := XX; clear XX; obtain ⟨m0, m1, m2, m3, m4, m5, m6, n0, n1, n2, n3, n4, n5, n6, n7, n8, n9, n10, n11, n12, n13, n14, n15, n16, n17⟩ := cells_fi X.out)
 go_ret
 exact ⟨rfl, X.out.hb⟩
set_option maxRecDepth 100000 in
set_option maxHeartbeats 8000000 in
theorem in_12 (l : List S48) (f : S48) (A0 : Option Addr) (c0 : Nat) (A2 : Option Addr) (c2 : Nat) (A6 : Option Addr) (c6 : Nat) (s : S40) (A7 A9 A15 A16 A17 : Option Addr) (c7 c9 c15 c16 c17 : Nat) (w : World) (H : FA w l f A0 c0 A2 c2 A6 c6) (h7 : k57.C w A7 s.f4.f1.length s.f4.f1) (l7 : s.f4.f1.length ≤ c7) (h9 : k57.C w A9 s.f5.f1.length s.f5.f1) (l9 : s.f5.f1.length ≤ c9) (h16 : k30.C w A16 s.f9.length s.f9) (l16 : s.f9.length ≤ c16) (h17 : (Kd.int .i64).C w A17 s.f10.length s.f10) (l17 : s.f10.length ≤ c17) (b7 : s.f4.f1.length < 4611686018427387904) (b9 : s.f5.f1.length < 4611686018427387904) (h : s.f0 = 12) :
  Calls Try.prog 31 #[.agg #[.slice A0 l.length c0, .string f.f0, .slice A2 f.f1.length c2, .int .i64 f.f2, .int .i64 f.f3, .bool f.f4, .slice A6 f.f5.length c6], .agg #[.int .i64 s.f0, .int .i64 s.f1, .bool s.f2.f0, .int .i64 s.f2.f1, .bool s.f3.f0, .int .i64 s.f3.f1, .int .i64 s.f4.f0, .slice A7 s.f4.f1.length c7, .int .i64 s.f5.f0, .slice A9 s.f5.f1.length c9, .int .i64 s.f6, .string s.f7, .int .i64 s.f8.f0, .string s.f8.f1, .int .i64 s.f8.f2, .slice A15 s.f8.f3.length c15, .slice A16 s.f9.length c16, .slice A17 s.f10.length c17]] w fun e w' => e = .returned (.bool (laB f.f1 s.f1)) ∧ Below w.heap.size w w' := by
 have hu101 := Try.underlying101
 have hu40 := Try.underlying40
 have HF := Aside0.mk H
 have H7 := Aside0.mk h7
 have H9 := Aside0.mk h9
 have HL := Aside0.mk (And.intro l7 (And.intro l9 l16))
 have X := Aside0.mk (FB.new w (fvA l f A0 c0 A2 c2 A6 c6) 101 (ivA s A7 A9 A15 A16 A17 c7 c9 c15 c16 c17) 40)
 unfold fvA ivA at X
 obtain ⟨m0, m1, m2, m3, m4, m5, m6, n0, n1, n2, n3, n4, n5, n6, n7, n8, n9, n10, n11, n12, n13, n14, n15, n16, n17⟩ := cells_fi X.out
 obtain ⟨d1, d2, d3, d4, d5, d6, d7, d8, d9, d10, d11, d12, d13, d14, d15⟩ : (s.f0 == 1) = false ∧ (s.f0 == 2) = false ∧ (s.f0 == 3) = false ∧ (s.f0 == 4) = false ∧ (s.f0 == 5) = false ∧ (s.f0 == 6) = false ∧ (s.f0 == 7) = false ∧ (s.f0 == 8) = false ∧ (s.f0 == 9) = false ∧ (s.f0 == 10) = false ∧ (s.f0 == 11) = false ∧ (s.f0 == 12) = true ∧ (s.f0 == 13) = false ∧ (s.f0 == 14) = false ∧ (s.f0 == 15) = false := by simp [h]
 clear H h7 h9 h16 h17 l7 l9 l16 l17 h
 go_enter Try.func31, Try.ntmps31
 go_wp2_with (go_at_call 62; with_reducible refine (la_said (HF.out.below X.out.hb) s.f1).mono ?_; rintro e w5 ⟨rfl, hb⟩; have XX := Aside0.mk (X.out.below hb); clear X hb; have X := XX; clear XX; obtain ⟨m0, m1, m2, m3, m4, m5, m6, n0, n1, n2, n3, n4, n5, n6, n7, n8, n9, n10, n11, n12, n13, n14, n15, n16, n17⟩ := cells_fi X.out)
 go_ret
 exact ⟨rfl, X.out.hb⟩
set_option maxRecDepth 100000 in
set_option maxHeartbeats 8000000 in
theorem in_14 (l : List S48) (f : S48) (A0 : Option Addr) (c0 : Nat) (A2 : Option Addr) (c2 : Nat) (A6 : Option Addr) (c6 : Nat) (s : S40) (A7 A9 A15 A16 A17 : Option Addr) (c7 c9 c15 c16 c17 : Nat) (w : World) (H : FA w l f A0 c0 A2 c2 A6 c6) (h7 : k57.C w A7 s.f4.f1.length s.f4.f1) (l7 : s.f4.f1.length ≤ c7) (h9 : k57.C w A9 s.f5.f1.length s.f5.f1) (l9 : s.f5.f1.length ≤ c9) (h16 : k30.C w A16 s.f9.length s.f9) (l16 : s.f9.length ≤ c16) (h17 : (Kd.int .i64).C w A17 s.f10.length s.f10) (l17 : s.f10.length ≤ c17) (b7 : s.f4.f1.length < 4611686018427387904) (b9 : s.f5.f1.length < 4611686018427387904) (h : s.f0 = 14) :
  Calls Try.prog 31 #[.agg #[.slice A0 l.length c0, .string f.f0, .slice A2 f.f1.length c2, .int .i64 f.f2, .int .i64 f.f3, .bool f.f4, .slice A6 f.f5.length c6], .agg #[.int .i64 s.f0, .int .i64 s.f1, .bool s.f2.f0, .int .i64 s.f2.f1, .bool s.f3.f0, .int .i64 s.f3.f1, .int .i64 s.f4.f0, .slice A7 s.f4.f1.length c7, .int .i64 s.f5.f0, .slice A9 s.f5.f1.length c9, .int .i64 s.f6, .string s.f7, .int .i64 s.f8.f0, .string s.f8.f1, .int .i64 s.f8.f2, .slice A15 s.f8.f3.length c15, .slice A16 s.f9.length c16, .slice A17 s.f10.length c17]] w fun e w' => e = .returned (.bool (scB f.f1 s.f1)) ∧ Below w.heap.size w w' := by
 have hu101 := Try.underlying101
 have hu40 := Try.underlying40
 have HF := Aside0.mk H
 have H7 := Aside0.mk h7
 have H9 := Aside0.mk h9
 have HL := Aside0.mk (And.intro l7 (And.intro l9 l16))
 have X := Aside0.mk (FB.new w (fvA l f A0 c0 A2 c2 A6 c6) 101 (ivA s A7 A9 A15 A16 A17 c7 c9 c15 c16 c17) 40)
 unfold fvA ivA at X
 obtain ⟨m0, m1, m2, m3, m4, m5, m6, n0, n1, n2, n3, n4, n5, n6, n7, n8, n9, n10, n11, n12, n13, n14, n15, n16, n17⟩ := cells_fi X.out
 obtain ⟨d1, d2, d3, d4, d5, d6, d7, d8, d9, d10, d11, d12, d13, d14, d15⟩ : (s.f0 == 1) = false ∧ (s.f0 == 2) = false ∧ (s.f0 == 3) = false ∧ (s.f0 == 4) = false ∧ (s.f0 == 5) = false ∧ (s.f0 == 6) = false ∧ (s.f0 == 7) = false ∧ (s.f0 == 8) = false ∧ (s.f0 == 9) = false ∧ (s.f0 == 10) = false ∧ (s.f0 == 11) = false ∧ (s.f0 == 12) = false ∧ (s.f0 == 13) = false ∧ (s.f0 == 14) = true ∧ (s.f0 == 15) = false := by simp [h]
 clear H h7 h9 h16 h17 l7 l9 l16 l17 h
 go_enter Try.func31, Try.ntmps31
 go_wp2_with (go_at_call 57; with_reducible refine (sc_said (HF.out.below X.out.hb) s.f1).mono ?_; rintro e w5 ⟨rfl, hb⟩; have XX := Aside0.mk (X.out.below hb); clear X hb; have X := XX; clear XX; obtain ⟨m0, m1, m2, m3, m4, m5, m6, n0, n1, n2, n3, n4, n5, n6, n7, n8, n9, n10, n11, n12, n13, n14, n15, n16, n17⟩ := cells_fi X.out)
 go_ret
 exact ⟨rfl, X.out.hb⟩
inductive InT (l : List S48) (loc : List Int) (s : S40) : Prop where
 | set (h : s.f0 = 1) (t : (scB loc s.f1 && opB loc s.f2) = true)
 | bin (h : s.f0 = 2) (r : Int) (d : PMirFuel.mir_Do.f 3 s.f7 0 0 = some (r, true)) (t : (scB loc s.f1 && (opB loc s.f2 && (opB loc s.f3 && true))) = true)
 | load (h : s.f0 = 3) (t : (scB loc s.f1 && plB loc s.f4) = true)
 | store (h : s.f0 = 4) (t : (plB loc s.f4 && opB loc s.f2) = true)
 | copy (h : s.f0 = 5) (t : (plB loc s.f4 && (plB loc s.f5 && woB s.f6)) = true)
 | addr (h : s.f0 = 6) (t : (scB loc s.f1 && plB loc s.f4) = true)
 | alloc (h : s.f0 = 7) (t : (scB loc s.f1 && woB s.f6) = true)
 | free (h : s.f0 = 8) (t : opB loc s.f2 = true)
 | drop (h : s.f0 = 9) (t : plB loc s.f4 = true) (y : tyOk s.f8)
 | give (h : s.f0 = 10) (t : laB loc s.f1 = true)
 | take (h : s.f0 = 11) (t : laB loc s.f1 = true)
 | clear (h : s.f0 = 12) (t : laB loc s.f1 = true) (y : tyOk s.f8)
 | print (h : s.f0 = 13) (t : opB loc s.f2 = true)
 | read (h : s.f0 = 14) (t : scB loc s.f1 = true)
 | call (h : s.f0 = 15) (C : CaOk l s) (t : (s.f9.all (opB loc) && s.f10.all (scB loc)) = true)
structure FnT (l : List S48) (k : Int) (f : S48) : Prop where
 hf : findP l f.f0 = k
 fr : frB f = true
 n1 : f.f1.length < 4611686018427387904
 n5 : f.f5.length < 4611686018427387904
 nl : ∀ b : Int, 0 ≤ b → b < f.f5.length → (rd_T45 f.f5 b).f0.length < 4611686018427387904
 nt : ∀ b : Int, 0 ≤ b → b < f.f5.length → (rd_T45 f.f5 b).f1.f4.length < 4611686018427387904
 np : ∀ b : Int, 0 ≤ b → b < f.f5.length → ∀ i : Int, 0 ≤ i → i < (rd_T45 f.f5 b).f0.length → (rd_T40 (rd_T45 f.f5 b).f0 i).f4.f1.length < 4611686018427387904 ∧ (rd_T40 (rd_T45 f.f5 b).f0 i).f5.f1.length < 4611686018427387904
 ins : ∀ b : Int, 0 ≤ b → b < f.f5.length → ∀ i : Int, 0 ≤ i → i < (rd_T45 f.f5 b).f0.length → InT l f.f1 (rd_T40 (rd_T45 f.f5 b).f0 i)
 term : ∀ b : Int, 0 ≤ b → b < f.f5.length → teB f (rd_T45 f.f5 b).f1 = true
def ChkT (l : List S48) : Prop := l.length < 4611686018427387904 ∧ ∀ k : Int, 0 ≤ k → k < l.length → FnT l k (rd_T48 l k)
def zs40 : Array Value := #[.int .i64 0, .int .i64 0, .bool false, .int .i64 0, .bool false, .int .i64 0, .int .i64 0, .slice none 0 0, .int .i64 0, .slice none 0 0, .int .i64 0, .string ⟨#[]⟩, .int .i64 0, .string ⟨#[]⟩, .int .i64 0, .slice none 0 0, .slice none 0 0, .slice none 0 0]
theorem i40 : (Try.prog.info? 40).map (·.size) = some 18 := by kernel_rfl
theorem store40 (W : World) (c : Array Value) (hs : c.size = 18) (h1 : c.all (·.oneCell') = true) (a : Act) (o : Oper) (x y : Operand) (h : o.op = .store 40 x y) (hx : a.eval x = .pointer (some ⟨W.heap.size, 0, none⟩)) (hy : a.eval y = .agg c) :
  (execOp a.eval o).run Try.prog (W.alloc (.cells zs40 40)) = .ok .skip (W.alloc (.cells c 40)) := by
 have hst := run_storeAt_new (P := Try.prog) W 40 zs40 c (by rw [hs]; exact i40) (by rw [hs]; rfl) h1
 unfold execOp
 simp only [h, hx, hy, Sem.run_bind, hst, Result.andThen_ok, Sem.run_pure]
theorem load40 (W : World) (g : Nat) (c : Array Value) (hg : Has W g c 40) (hs : c.size = 18) (a : Act) (o : Oper) (x : Operand) (h : o.op = .load 40 x) (hx : a.eval x = .pointer (some ⟨g, 0, none⟩)) :
  (execOp a.eval o).run Try.prog W = .ok (.value (.agg c)) W := by
 have hld := run_loadVar_row (P := Try.prog) W g 40 40 c (0, 0) _ hg Try.underlying40 (by first | rfl | simp) (by rw [hs]; exact i40)
 unfold execOp
 simp only [h, hx, Instr.loadAt, Instr.sureAddr, Sem.run_bind, Sem.run_pure, Result.andThen_ok, hld]
end Go.Proofs.Ytpphpcmbpbppoaa.Form
end
section
namespace Go.Proofs.Ytpphpcmbpbppoaa.Calm
open Go
set_option linter.unusedVariables false
section
variable {P : Program}
def panicR (Q : Exit → Act → World → Prop) (Pn : List PanicEntry → World → Prop) (D : List Deferred) (x8 x9 : Value) : Exit → Act → World → Prop
 | .panic c, a, w => Pn c w ∧ a.defers = D ∧ a.tmps[8]? = some x8 ∧ a.tmps[9]? = some x9
 | e, a, w => Q e a w
def dstB (l : List Oper) : Bool := l.all fun o => match o.dst with | none => true | some d => decide (10 ≤ d)
theorem mixD_held {ops : Array Oper} {Q : Exit → Act → World → Prop} {S : World → Prop} (hs : Region.noSelect ops = true) (hQ : ∀ (k : Nat) (o : Oper) c (a : Act) v w, ops[k]? = some o → Q (.panic c) (a.put o.dst v) w → Q (.panic c) a w) :
  ∀ (ms : List Mark) (ls : Array Bool) (a : Act) (w : World), S w → mixB ops ms ls = true → mix P ops Q S ms a w → wpAnyH P .any ops Q S ms.length ls a w
 | [], ls, a, w, _, hB, h => ⟨by simpa [mixB] using hB, h⟩
 | .h k :: r, ls, a, w, hS, hB, h => by
  simp only [mixB, Bool.and_eq_true] at hB
  obtain ⟨o, ho, v, hy, h⟩ := h
  exact wpAnyH_take ho hs hB.1.2 hB.1.1 (fun c a' w' hq => hQ k o c a' v w' ho hq) hy hS (mixD_held hs hQ r _ _ w hS hB.2 h)
 | .c k :: r, ls, a, w, hS, hB, h => by
  simp only [mixB, Bool.and_eq_true, decide_eq_true_eq] at hB
  obtain ⟨o, ho, hg, h⟩ := h
  refine ⟨fun h1 => (by rw [hB.1] at h1; cases h1), fun i hi => ?_⟩
  rw [hB.1] at hi
  have hik : i = k := by simpa using hi
  subst hik
  unfold wpOp
  simp only [ho, hg, if_true]
  exact .inl (Oper.wp_mono (fun a' w' h' => ⟨h'.1, mixD_held hs hQ r _ a' w' h'.1 hB.2 h'.2⟩) h)
theorem region_mixD {id : Nat} {Q : Exit → Act → World → Prop} {a : Act} {w : World} {l : List Oper} (Pn : List PanicEntry → World → Prop) (D : List Deferred) (x8 x9 : Value) (ms : List Mark) (S : World → Prop) (hm : P.follows .mixedOrders = true)
  (hB : (Region.noSelect l.toArray && decide (ms.length = l.length) && dstB l && mixB l.toArray ms (Array.replicate l.length false)) = true)
  (hS : S w.drew) (h : mix P l.toArray (panicR Q Pn D x8 x9) S ms a w.drew)
  (hP : ∀ c (a : Act) w, Pn c w → a.defers = D → a.tmps[8]? = some x8 → a.tmps[9]? = some x9 → Q (.panic c) a w) : (Code.region id l.toArray true).wp P Q a w := by
 simp only [Bool.and_eq_true, decide_eq_true_eq] at hB
 obtain ⟨⟨⟨hno, hlen⟩, hdst⟩, hmx⟩ := hB
 refine Code.wp_mono (Q := panicR Q Pn D x8 x9) (fun e a w h => ?_) ?_
 ·cases e with
  | panic c => exact hP c a w h.1 h.2.1 h.2.2.1 h.2.2.2
  | _ => exact h
 ·refine wp_region_held_drew (S := S) hm hS fun hS' => ?_
  have := mixD_held (Q := panicR Q Pn D x8 x9) (S := S) (P := P) hno (fun k o c a v w ho hq => ?_) ms (Array.replicate l.length false) a w.drew hS' hmx h
  ·rw [hlen] at this
   simpa using this
  ·have hmem : o ∈ l := by
    have : l[k]? = some o := by simpa using ho
    exact List.mem_of_getElem? this
   have hd := List.all_eq_true.1 hdst o hmem
   cases hdo : o.dst with
   | none => rw [hdo] at hq; exact hq
   | some d =>
    rw [hdo] at hq hd
    have hd : 10 ≤ d := by simpa using hd
    obtain ⟨h1, h2, h3, h4⟩ := hq
    refine ⟨h1, h2, ?_, ?_⟩
    ·rw [← h3]; show a.tmps[8]? = (a.tmps.setIfInBounds d v)[8]?; rw [Array.getElem?_setIfInBounds_ne (fun e => absurd (e ▸ hd) (by decide))]
    ·rw [← h4]; show a.tmps[9]? = (a.tmps.setIfInBounds d v)[9]?; rw [Array.getElem?_setIfInBounds_ne (fun e => absurd (e ▸ hd) (by decide))]
end
end Go.Proofs.Ytpphpcmbpbppoaa.Calm
end
section
namespace Go.Proofs.Ytpphpcmbpbppoaa.Mach
open Go.Proofs.Ytpphpcmbpbppoaa.Form (ChkT)
open Go.RowKit Go.Proofs.YtpphpcmbpbppoaaW.PrintWords Go.Proofs.YtpphpcmbpbppoaaW.PrintLast Go.Proofs.YtpphpcmbpbppoaaW.PrintMore
open Go.Proofs.Ytpphpcmbpbppoaa.Calm
open Go.Proofs.Ytpphpcmbpbppoaa.PMirFuel (S30 S57 S34 S37 S40 S43 S45 S48 k30 k57 k34 k37 k40 k43 k45 k48 rd_T30 rd_T57 rd_T34 rd_T37 rd_T40 rd_T43 rd_T45 rd_T48 at_T30 at_T57 at_T34 at_T40 at_T45 at_T48)
set_option linter.unusedVariables false
set_option linter.unusedSimpArgs false
structure RunMade (w0 w' : World) (MC : Array Value) (h : Nat) (u : Nat → Nat) (c m p : Nat) : Prop where
 B : Below w0.heap.size w0 w'
 H : HeapIs w' h u (fun _ _ => false)
 lh : w0.heap.size ≤ h
 lu : ∀ k, k < 4 → w0.heap.size ≤ u k
 C : Has w' c (madeCells #[.int .i64 0] 2816) 3
 lc : w0.heap.size ≤ c
 M : Has w' m MC 93
 lm : w0.heap.size ≤ m
 P : Has w' p #[.pointer (some ⟨m, 0, none⟩)] 88
 lp : w0.heap.size ≤ p
theorem RunFacts.mk {w0 W : World} {MC : Array Value} {h : Nat} {u : Nat → Nat} {c m p : Nat} (B : Below w0.heap.size w0 W) (H : HeapIs W h u (fun _ _ => false)) (lh : w0.heap.size ≤ h) (lu : ∀ k, k < 4 → w0.heap.size ≤ u k) (C : Has W c (madeCells #[.int .i64 0] 2816) 3) (lc : w0.heap.size ≤ c)
  (M : Has W m MC 93) (lm : w0.heap.size ≤ m) (P : Has W p #[.pointer none] 88) (lp : w0.heap.size ≤ p) : RunMade w0 (W.setCell ⟨p, 0, none⟩ (.pointer (some ⟨m, 0, none⟩))) MC h u c m p :=
 ⟨B.setCell lp _, H.other (H.head.ne P (by decide)) (fun k hk => (H.row k hk).ne P (by decide)) _, lh, lu, C.other (C.ne P (by decide)) _, lc, M.other (M.ne P (by decide)) _, lm, P.set_ 0 _, lp⟩
def mainT : ByteArray := ⟨#[109, 97, 105, 110]⟩
theorem make_ints (n : Nat) (h : n ≤ 17592186044416) : ∀ W : World, (Instr.makeSlice 23 (.int .i64 (n : Int)) (.int .i64 (n : Int))).run Try.prog W = .ok (.slice (some ⟨W.heap.size, 0, none⟩) n n) (W.alloc (.cells (madeCells #[.int .i64 0] n) 3)) :=
 print_make_of (P := Try.prog) 23 3 (.int .i64 0) 8 Try.underlying23 info3 rfl (by omega) n (by omega)
theorem made_cells : madeCells #[Value.int .i64 0] 2816 = cellsA (fun _ => 0) := by
 apply Array.ext
 ·simp [size_madeCells, cellsA, rowF]
 ·intro i h1 h2
  simp [madeCells, cellsA, rowF, Nat.mod_one]
def st0 (fuel : Int) (inp : List Int) : St := ⟨fuel, 0, 0, 0, inp, [], [], fun _ _ => false, fun _ => 0⟩
abbrev runS (m h c : Nat) (u : Nat → Nat) : Nat → Prop := fun b => b = m ∨ b = h ∨ (∃ k, k < 4 ∧ b = u k) ∨ b = c
theorem call0_any {G : Glob} {S : Nat → Prop} {L : Lay} {st : St} {w : World} (I : In0 G S L st w) {q : Addr} {f : S48} {A1 A5 : Option Addr} {c1 c5 : Nat} (M : MA G.w0 q f A1 c1 A5 c5) (hl : f.f1.length < 100000) (hN : st.stack.length + need f.f1 < 1099511627776)
  (h0 : ∀ k, k ∈ f.f1 → 0 ≤ k) {av : Value} {vs : List Int} (V : ArgsAt S w av vs) (hvn : vs.length ≤ need f.f1) (hc : st.calls = 0) (hd : st.depth = 0) {X : Runs} (B : EntersOk G q f st vs X) :
  Calls Try.prog 29 #[.pointer (some ⟨G.m, 0, none⟩), .pointer (some q), av] w (CPost0 G S (callP X st [] f vs) w) := by
 cases hq : f.f4 with
 | true => exact call0_quiet I M hl hN h0 V hvn hq (by omega) (by omega) (by omega) B
 | false => exact call0_loud I M hl hN h0 V hvn hq (by omega) (by omega) (by omega) (by omega) B
theorem CPost0.cases {G : Glob} {S : Nat → Prop} {r : ResC} {w w' : World} {e : Ending} (h : CPost0 G S r w e w') :
  (∃ st' held out v S' L', r = .ok st' held out ∧ e = .returned v ∧ Kept S w w' ∧ (∀ b, S' b → S b ∨ w.heap.size ≤ b) ∧ In0 G S' L' st' w') ∨
  ∃ k c st' ch, r = .halt k c st' ∧ e = .panicked ch ∧ Kept S w w' ∧ HaltCh ch k c ∧ ∃ S' L' x', (∀ b, S' b → S b ∨ w.heap.size ≤ b) ∧ Rep S' G.m L' x' st' w' := by
 cases r with
 | ok st held out => obtain ⟨K, v, he, S', L', hs, I⟩ := h; exact .inl ⟨st, held, out, v, S', L', rfl, he, K, hs, I⟩
 | halt k c st => obtain ⟨K, ⟨ch, he, hc⟩, R⟩ := h; exact .inr ⟨k, c, st, ch, rfl, he, K, hc, R⟩
end Go.Proofs.Ytpphpcmbpbppoaa.Mach
end
section
namespace Go.Proofs.Ytpphpcmbpbppoaa.Form
open Go.Proofs.Ytpphpcmbpbppoaa.Mach
open Go.RowKit Go.Proofs.YtpphpcmbpbppoaaW.PrintWords Go.Proofs.YtpphpcmbpbppoaaW.PrintLast Go.Proofs.YtpphpcmbpbppoaaW.PrintMore
open Go.Proofs.Ytpphpcmbpbppoaa.Calm
open Go.Proofs.Ytpphpcmbpbppoaa.PMirFuel (S30 S57 S34 S37 S40 S43 S45 S48 k30 k57 k34 k37 k40 k43 k45 k48 rd_T30 rd_T57 rd_T34 rd_T37 rd_T40 rd_T43 rd_T45 rd_T48 at_T30 at_T57 at_T34 at_T40 at_T45 at_T48)
set_option linter.unusedVariables false
set_option linter.unusedSimpArgs false
theorem shift_nonneg (b : Int) : 0 ≤ Go.bits .and .u64 (IntKind.u64.wrap b) 31 := by
 have h0 : 0 ≤ IntKind.u64.wrap b ∧ IntKind.u64.wrap b < 18446744073709551616 := by
  simp [IntKind.wrap, IntKind.bits, IntKind.signed]; omega
 rw [Go.u64_and _ _ h0.1 h0.2 (by omega) (by omega)]
 omega
theorem divide_total (t : ByteArray) (a b : Int) (h : 0 < t.size) : ∃ r, PMirFuel.mir_divide.f 2 t a b = some r := by
 have hs : 0 < (t.size : Int) := by omega
 have j : ∀ x, ∃ r, PMirFuel.mir_divide.j0 2 t a b x = some r := by
  intro x
  unfold PMirFuel.mir_divide.j0 PMirFuel.mir_quotient.f
  repeat' split
  all_goals simp_all
  all_goals (repeat' split)
  all_goals simp_all
 unfold PMirFuel.mir_divide.f
 split
 ·exact j _
 ·exact j _
theorem size_of_list {t : ByteArray} {x : UInt8} {xs : List UInt8} (h : t.toList = x :: xs) : 0 < t.size := by
 rcases Nat.eq_zero_or_pos t.size with h0 | h0
 ·have : t = ByteArray.empty := by
   cases t with | mk d => 
   have : d = #[] := Array.eq_empty_of_size_eq_zero h0
   subst this; rfl
  subst this
  simp at h
 ·exact h0
theorem do_total (t : ByteArray) (a b : Int) : ∃ r, PMirFuel.mir_Do.f 3 t a b = some r := by
 have s0 := shift_nonneg (wrap32 b)
 have j : ∀ (A B : Int) (x : Bool), (x = true → 0 < t.size) → ∃ r, PMirFuel.mir_Do.j0 3 t A B (Go.bits .and .u64 (IntKind.u64.wrap (wrap32 b)) 31) t x = some r := by
  intro A B x hx
  show ∃ r, PMirFuel.mir_Do.j0 (2 + 1) t A B (Go.bits .and .u64 (IntKind.u64.wrap (wrap32 b)) 31) t x = some r
  simp only [PMirFuel.mir_Do.j0, PMirFuel.mir_flag.f]
  by_cases h : x = true
  ·rw [if_pos h]
   obtain ⟨r, hr⟩ := divide_total t (wrap64 A) (wrap64 B) (hx h)
   rw [hr]
   exact ⟨_, rfl⟩
  ·rw [if_neg h]
   generalize Go.bits .and .u64 (IntKind.u64.wrap (wrap32 b)) 31 = s at *
   repeat' (first | exact ⟨_, rfl⟩ | split)
   all_goals simp_all
   all_goals (repeat' split)
   all_goals simp_all
 unfold PMirFuel.mir_Do.f
 repeat' (first | exact ⟨_, rfl⟩ | split)
 all_goals (refine j _ _ _ ?_; intro hx; simp only [beq_iff_eq] at hx; exact size_of_list hx)
theorem sumW_need (xs : List Int) : ∀ n : Int, 0 ≤ n → n + 512 * xs.length < 4611686018427387904 → (∀ k, k ∈ xs → 0 ≤ k ∧ k ≤ 512) → sumW xs n = n + need xs := by
 induction xs with
 | nil => intro n _ _ _; simp [sumW, need]
 | cons x r ih =>
  intro n h0 h1 hx
  have h2 := hx x (by simp)
  simp only [List.length_cons] at h1
  unfold sumW need
  rw [show wrap64 (n + x) = n + x by unfold wrap64; omega, ih (n + x) (by omega) (by omega) (fun k hk => hx k (by simp [hk]))]
  omega
theorem need_take (xs : List Int) : ∀ n : Nat, need (xs.take n) ≤ need xs := by
 induction xs with
 | nil => intro n; simp
 | cons x r ih =>
  intro n
  cases n with
  | zero => simp [need]
  | succ n => have := ih n; simp only [List.take_succ_cons, need]; omega
theorem need_le (xs : List Int) (h : ∀ k, k ∈ xs → 0 ≤ k ∧ k ≤ 512) : need xs ≤ 512 * xs.length := by
 induction xs with
 | nil => simp [need]
 | cons x r ih =>
  have h1 := h x (by simp)
  have h2 := ih (fun k hk => h k (by simp [hk]))
  simp only [need, List.length_cons]
  omega
structure FrT (f : S48) : Prop where
 lo : ∀ k, k ∈ f.f1 → 0 ≤ k ∧ k ≤ 512
 bl : 0 < f.f5.length
 p0 : 0 ≤ f.f2
 p1 : f.f2 ≤ f.f1.length
 a0 : 0 ≤ f.f3
 a1 : f.f3 ≤ 8
 w : widthP f ≤ 8
theorem FrT.of {f : S48} (h : frB f = true) : FrT f := by
 unfold frB at h
 simp only [Bool.and_eq_true, List.all_eq_true, decide_eq_true_eq] at h
 obtain ⟨h1, h2, h3, h4, h5, h6, h7⟩ := h
 exact ⟨h1, h2, h3, h4, h5, h6, h7⟩
theorem FrT.width {f : S48} (h : FrT f) (hl : f.f1.length < 100000) : widthP f = need (f.f1.take f.f2.toNat) := by
 unfold widthP
 have h2 : (f.f1.take f.f2.toNat).length ≤ f.f1.length := by simp; omega
 rw [sumW_need _ 0 (by omega) (by omega) (fun k hk => h.lo k (List.mem_of_mem_take hk))]
 omega
theorem lo_of {loc : List Int} {d : Int} (h : laB loc d = true) : LoF loc.length d := by
 simp only [laB, Bool.and_eq_true, decide_eq_true_eq] at h
 exact h
theorem sc_of {loc : List Int} {d : Int} (h : scB loc d = true) : LoF loc.length d := by
 simp only [scB, Bool.and_eq_true, decide_eq_true_eq] at h
 exact ⟨h.1, h.2.1⟩
theorem op_of {loc : List Int} {o : S30} (h : opB loc o = true) : OpF loc.length o := by
 intro h0
 simp only [opB, h0, Bool.false_or] at h
 exact sc_of h
theorem pl_of {loc : List Int} {p : S34} (h : plB loc p = true) : PlF loc.length p := by
 simp only [plB, Bool.and_eq_true, List.all_eq_true] at h
 have h2 := lo_of h.2
 refine ⟨h2.1, h2.2, fun i hi h3 => ?_⟩
 have e : rd_T57 p.f1 (i : Int) = p.f1[i] := by simp [rd_T57, List.getD_eq_getElem?_getD, hi]
 rw [e] at h3 ⊢
 have h4 := h.1 p.f1[i] (List.getElem_mem hi)
 unfold stB at h4
 rw [if_neg (by omega), if_pos h3, Bool.and_eq_true] at h4
 exact sc_of h4.1
theorem wo_of {n : Int} (h : woB n = true) : 0 ≤ n ∧ n ≤ 128 := by
 simp [woB] at h
 omega
theorem FormI.of {l : List S48} {loc : List Int} {s : S40} (hF : ∀ k : Int, 0 ≤ k → k < l.length → FrT (rd_T48 l k) ∧ (rd_T48 l k).f1.length < 100000) (h : InT l loc s) : FormI l loc.length s := by
 cases h with
 | set h t => simp only [Bool.and_eq_true] at t; exact .set h (sc_of t.1) (op_of t.2)
 | bin h r d t => simp only [Bool.and_eq_true] at t; exact .bin h (sc_of t.1) (op_of t.2.1) (op_of t.2.2.1) (fun a b => do_total s.f7 a b)
 | load h t => simp only [Bool.and_eq_true] at t; exact .load h (sc_of t.1) (pl_of t.2)
 | store h t => simp only [Bool.and_eq_true] at t; exact .store h (pl_of t.1) (op_of t.2)
 | copy h t => simp only [Bool.and_eq_true] at t; exact .copy h (pl_of t.1) (pl_of t.2.1) (wo_of t.2.2).1 (wo_of t.2.2).2
 | addr h t => simp only [Bool.and_eq_true] at t; exact .addr h (sc_of t.1) (pl_of t.2)
 | alloc h t => simp only [Bool.and_eq_true] at t; exact .alloc h (sc_of t.1) (wo_of t.2).1 (wo_of t.2).2
 | free h t => exact .free h (op_of t)
 | drop h t y => exact .drop h (pl_of t) y
 | clear h t y => exact .clear h (lo_of t) y
 | give h t => exact .give h (lo_of t)
 | take h t => exact .take h (lo_of t)
 | print h t => exact .print h (op_of t)
 | read h t => exact .read h (sc_of t)
 | call h C t =>
  simp only [Bool.and_eq_true, List.all_eq_true] at t
  have hk : 0 ≤ findP l s.f7 := by have := C.p0; omega
  have hkb : findP l s.f7 < l.length := by rcases findP_bounds l s.f7 with h | h <;> omega
  obtain ⟨hf, hl⟩ := hF _ hk hkb
  have hw := hf.width hl
  have w8 := hf.w
  have a1 := hf.a1
  have hn := need_take (rd_T48 l (findP l s.f7)).f1 (rd_T48 l (findP l s.f7)).f2.toNat
  have p3 := C.p3
  have p4 := C.p4
  refine .call h hk (by omega) (by omega) (fun i hi => ?_) (fun i h0 h1 => ?_) (by omega) p4
  ·have e : rd_T30 s.f9 (i : Int) = s.f9[i] := by simp [rd_T30, List.getD_eq_getElem?_getD, hi]
   rw [e]
   exact op_of (t.1 _ (List.getElem_mem hi))
  ·have hi : i.toNat < s.f10.length := by omega
   have e : rd s.f10 i = s.f10[i.toNat] := by simp [rd, List.getD_eq_getElem?_getD, hi]
   rw [e]
   exact sc_of (t.2 _ (List.getElem_mem hi))
theorem FormT.of {f : S48} {t : S43} (hf : FrT f) (h : teB f t = true) : FormT f t := by
 unfold teB goB at h
 by_cases h1 : t.f0 = 1
 ·rw [if_pos h1] at h
  simp only [Bool.and_eq_true, decide_eq_true_eq] at h
  exact .goto h1 h
 rw [if_neg h1] at h
 by_cases h2 : t.f0 = 2
 ·rw [if_pos h2] at h
  simp only [Bool.and_eq_true, decide_eq_true_eq] at h
  exact .cond h2 (op_of h.1) h.2.1 h.2.2
 rw [if_neg h2] at h
 by_cases h3 : t.f0 = 3
 ·rw [if_pos h3] at h
  simp only [Bool.and_eq_true, decide_eq_true_eq, List.all_eq_true] at h
  have := hf.a1
  refine .ret h3 (fun i hi => ?_) (by omega) h.2
  have e : rd_T30 t.f4 (i : Int) = t.f4[i] := by simp [rd_T30, List.getD_eq_getElem?_getD, hi]
  rw [e]
  exact op_of (h.1 _ (List.getElem_mem hi))
 rw [if_neg h3] at h
 exact .panic (by simpa using h)
theorem forms_of {l : List S48} (C : ChkT l) (hl : ∀ k : Int, 0 ≤ k → k < l.length → (rd_T48 l k).f1.length < 100000) : Forms l := by
 have hF : ∀ k : Int, 0 ≤ k → k < l.length → FrT (rd_T48 l k) ∧ (rd_T48 l k).f1.length < 100000 := fun k h0 h1 => ⟨FrT.of (C.2 k h0 h1).fr, hl k h0 h1⟩
 intro k h0 h1
 have F := C.2 k h0 h1
 obtain ⟨R, l1⟩ := hF k h0 h1
 have hn := need_le (rd_T48 l k).f1 R.lo
 refine ⟨R.bl, l1, by omega, fun j hj => (R.lo j hj).1, fun b => ?_, fun b b0 b1 i hi => FormI.of hF (F.ins b b0 b1 i (by omega) (by omega)), fun b b0 b1 => FormT.of R (F.term b b0 b1)⟩
 by_cases hb : b.toNat < (rd_T48 l k).f5.length
 ·have e : rd_T45 (rd_T48 l k).f5 b = rd_T45 (rd_T48 l k).f5 (b.toNat : Int) := by unfold rd_T45; rw [Int.toNat_natCast]
  rw [e]
  exact F.nl (b.toNat : Int) (by omega) (by omega)
 ·have e : rd_T45 (rd_T48 l k).f5 b = PMirFuel.z45 := by simp [rd_T45, List.getD_eq_getElem?_getD, List.getElem?_eq_none (show (rd_T48 l k).f5.length ≤ b.toNat by omega)]
  rw [e]
  decide
structure FnL (l : List S48) (k : Int) (f : S48) : Prop where
 hf : findP l f.f0 = k
 fr : frB f = true
 n1 : f.f1.length < 4611686018427387904
 n5 : f.f5.length < 4611686018427387904
 bl : ∀ B, B ∈ f.f5 → B.f0.length < 4611686018427387904 ∧ B.f1.f4.length < 4611686018427387904 ∧ teB f B.f1 = true
 ins : ∀ B, B ∈ f.f5 → ∀ s, s ∈ B.f0 → InT l f.f1 s ∧ s.f4.f1.length < 4611686018427387904 ∧ s.f5.f1.length < 4611686018427387904
theorem FnL.t {l : List S48} {k : Int} {f : S48} (F : FnL l k f) : FnT l k f := by
 have hB : ∀ b : Int, 0 ≤ b → b < f.f5.length → rd_T45 f.f5 b ∈ f.f5 := fun b b0 b1 => by
  have hi : b.toNat < f.f5.length := by omega
  have e : rd_T45 f.f5 b = f.f5[b.toNat] := by simp [rd_T45, List.getD_eq_getElem?_getD, hi]
  rw [e]; exact List.getElem_mem hi
 have hI : ∀ (xs : List S40) (i : Int), 0 ≤ i → i < xs.length → rd_T40 xs i ∈ xs := fun xs i i0 i1 => by
  have hi : i.toNat < xs.length := by omega
  have e : rd_T40 xs i = xs[i.toNat] := by simp [rd_T40, List.getD_eq_getElem?_getD, hi]
  rw [e]; exact List.getElem_mem hi
 exact ⟨F.hf, F.fr, F.n1, F.n5, fun b b0 b1 => (F.bl _ (hB b b0 b1)).1, fun b b0 b1 => (F.bl _ (hB b b0 b1)).2.1, fun b b0 b1 i i0 i1 => (F.ins _ (hB b b0 b1) _ (hI _ i i0 i1)).2, fun b b0 b1 i i0 i1 => (F.ins _ (hB b b0 b1) _ (hI _ i i0 i1)).1, fun b b0 b1 => (F.bl _ (hB b b0 b1)).2.2⟩
end Go.Proofs.Ytpphpcmbpbppoaa.Form
end
