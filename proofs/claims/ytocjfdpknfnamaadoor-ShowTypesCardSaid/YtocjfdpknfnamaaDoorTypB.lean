/- The walk of show.Type, by the library's contracts. -/
import Derived.Test.YtocjfdpknfnamaaDoorTypA
import Derived.WalkSpells
namespace Go.Proofs.YtocjfdpknfnamaaDoor.Typ
open Go.RowKit Go.Proofs.YtocjfdpknfnamaaDoor.PShowTypes Go.Proofs.YtocjfdpknfnamaaDoorW.PrintWords Go.Proofs.YtocjfdpknfnamaaDoorW.PrintLast Go.Proofs.YtocjfdpknfnamaaDoorW.PrintMore
set_option linter.unusedVariables false

abbrev Tab (w : World) : Prop := Lib.TabBelow Tryd.prog w.heap.size w "internal/strconv.uint64pow10" .u64 Lib.pow10Tab
structure TypSaid (d : Nat) (x : S24) : Prop where
  go : ∀ (A : Option Addr) (c : Nat) (w : World), Tab w → k24.C w A x.f3.length x.f3 → x.f3.length ≤ c →
    Calls Tryd.prog 7 #[.agg #[.int .i64 x.f0, .string x.f1, .int .i64 x.f2, .slice A x.f3.length c]] w fun e w' => e = .returned (.string (text d x)) ∧ Below w.heap.size w w'
theorem bcell {W w1 : World} (hb : Below W.heap.size W w1) : (∀ b o, b < W.heap.size → w1.cell? ⟨b, o, none⟩ = W.cell? ⟨b, o, none⟩) ∧ (∀ b o, b < W.heap.size → w1.frozen? ⟨b, o, none⟩ = W.frozen? ⟨b, o, none⟩) :=
  ⟨fun b o h => hb.cell (p := ⟨b, o, none⟩) h, fun b o h => hb.frozen (p := ⟨b, o, none⟩) h⟩
theorem Tab.below {w w' : World} (h : Tab w) (hb : Below w.heap.size w w') : Tab w' := Lib.tabBelow_of_tabIs (h w' hb)
theorem word1 (n : ByteArray) (m : Int) (A : Option Addr) (l c : Nat) (w : World) :
    Calls Tryd.prog 7 #[.agg #[.int .i64 1, .string n, .int .i64 m, .slice A l c]] w fun e w' => e = .returned (.string (word 1)) ∧ Below w.heap.size w w' := by
  go_enter Tryd.func7, Tryd.ntmps7
  go_wp2
  go_ret
  exact ⟨rfl, below_alloc (below_alloc (Below.refl _ _) _) _⟩
theorem word2 (n : ByteArray) (m : Int) (A : Option Addr) (l c : Nat) (w : World) :
    Calls Tryd.prog 7 #[.agg #[.int .i64 2, .string n, .int .i64 m, .slice A l c]] w fun e w' => e = .returned (.string (word 2)) ∧ Below w.heap.size w w' := by
  go_enter Tryd.func7, Tryd.ntmps7
  go_wp2
  go_ret
  exact ⟨rfl, below_alloc (below_alloc (Below.refl _ _) _) _⟩
theorem word3 (n : ByteArray) (m : Int) (A : Option Addr) (l c : Nat) (w : World) :
    Calls Tryd.prog 7 #[.agg #[.int .i64 3, .string n, .int .i64 m, .slice A l c]] w fun e w' => e = .returned (.string (word 3)) ∧ Below w.heap.size w w' := by
  go_enter Tryd.func7, Tryd.ntmps7
  go_wp2
  go_ret
  exact ⟨rfl, below_alloc (below_alloc (Below.refl _ _) _) _⟩
theorem word4 (n : ByteArray) (m : Int) (A : Option Addr) (l c : Nat) (w : World) :
    Calls Tryd.prog 7 #[.agg #[.int .i64 4, .string n, .int .i64 m, .slice A l c]] w fun e w' => e = .returned (.string (word 4)) ∧ Below w.heap.size w w' := by
  go_enter Tryd.func7, Tryd.ntmps7
  go_wp2
  go_ret
  exact ⟨rfl, below_alloc (below_alloc (Below.refl _ _) _) _⟩
theorem word5 (n : ByteArray) (m : Int) (A : Option Addr) (l c : Nat) (w : World) :
    Calls Tryd.prog 7 #[.agg #[.int .i64 5, .string n, .int .i64 m, .slice A l c]] w fun e w' => e = .returned (.string (word 5)) ∧ Below w.heap.size w w' := by
  go_enter Tryd.func7, Tryd.ntmps7
  go_wp2
  go_ret
  exact ⟨rfl, below_alloc (below_alloc (Below.refl _ _) _) _⟩
theorem word6 (n : ByteArray) (m : Int) (A : Option Addr) (l c : Nat) (w : World) :
    Calls Tryd.prog 7 #[.agg #[.int .i64 6, .string n, .int .i64 m, .slice A l c]] w fun e w' => e = .returned (.string (word 6)) ∧ Below w.heap.size w w' := by
  go_enter Tryd.func7, Tryd.ntmps7
  go_wp2
  go_ret
  exact ⟨rfl, below_alloc (below_alloc (Below.refl _ _) _) _⟩
theorem word7 (n : ByteArray) (m : Int) (A : Option Addr) (l c : Nat) (w : World) :
    Calls Tryd.prog 7 #[.agg #[.int .i64 7, .string n, .int .i64 m, .slice A l c]] w fun e w' => e = .returned (.string (word 7)) ∧ Below w.heap.size w w' := by
  go_enter Tryd.func7, Tryd.ntmps7
  go_wp2
  go_ret
  exact ⟨rfl, below_alloc (below_alloc (Below.refl _ _) _) _⟩
theorem word8 (n : ByteArray) (m : Int) (A : Option Addr) (l c : Nat) (w : World) :
    Calls Tryd.prog 7 #[.agg #[.int .i64 8, .string n, .int .i64 m, .slice A l c]] w fun e w' => e = .returned (.string (word 8)) ∧ Below w.heap.size w w' := by
  go_enter Tryd.func7, Tryd.ntmps7
  go_wp2
  go_ret
  exact ⟨rfl, below_alloc (below_alloc (Below.refl _ _) _) _⟩
theorem named (n : ByteArray) (m : Int) (A : Option Addr) (l c : Nat) (w : World) :
    Calls Tryd.prog 7 #[.agg #[.int .i64 9, .string n, .int .i64 m, .slice A l c]] w fun e w' => e = .returned (.string n) ∧ Below w.heap.size w w' := by
  go_enter Tryd.func7, Tryd.ntmps7
  go_wp2
  go_ret
  exact ⟨rfl, below_alloc (below_alloc (Below.refl _ _) _) _⟩
theorem bare (k : Int) (n : ByteArray) (m : Int) (A : Option Addr) (c : Nat) (w : World) (h18 : ¬ (1 ≤ k ∧ k ≤ 8)) (h9 : ¬ k = 9) :
    Calls Tryd.prog 7 #[.agg #[.int .i64 k, .string n, .int .i64 m, .slice A 0 c]] w fun e w' => e = .returned (.string ⟨#[63]⟩) ∧ Below w.heap.size w w' := by
  by_cases h1 : k ≥ 1
  · have h8 : ¬ k ≤ 8 := by omega
    go_enter Tryd.func7, Tryd.ntmps7
    go_wp2
    go_ret
    exact ⟨rfl, below_alloc (below_alloc (Below.refl _ _) _) _⟩
  · go_enter Tryd.func7, Tryd.ntmps7
    go_wp2
    go_ret
    exact ⟨rfl, below_alloc (below_alloc (Below.refl _ _) _) _⟩
theorem boxed (n : ByteArray) (m : Int) (l c : Nat) (w : World) (d : Nat) (y : S24) (ad : Addr) (A3 : Option Addr) (c3 : Nat) (hl : 0 < l) (h0 : -9223372036854775808 ≤ m) (h1 : m ≤ 9223372036854775807)
    (hx0 : w.cell? ad = some (.int .i64 y.f0)) (hx1 : w.cell? ⟨ad.block, ad.off + 1, none⟩ = some (.string y.f1)) (hx2 : w.cell? ⟨ad.block, ad.off + 2, none⟩ = some (.int .i64 y.f2)) (hx3 : w.cell? ⟨ad.block, ad.off + 3, none⟩ = some (.slice A3 y.f3.length c3))
    (hl3 : y.f3.length ≤ c3) (hi3 : k24.C w A3 y.f3.length y.f3) (hT : Tab w) (HY : TypSaid d y) (hs : (text d y).size + 26 ≤ 281474976710656) :
    Calls Tryd.prog 7 #[.agg #[.int .i64 11, .string n, .int .i64 m, .slice (some ad) l c]] w fun e w' => e = .returned (.string (⟨#[66, 111, 120, 60]⟩ ++ text d y ++ ⟨#[62]⟩)) ∧ Below w.heap.size w w' := by
  have hu24 := Tryd.underlying24
  have hb2 : ad.block < w.heap.size := World.block_lt_of_cell? w _ hx0
  have HT := Aside0.mk hT
  have L1 := Aside0.mk hl3
  have L2 := Aside0.mk hi3
  have HS := Aside0.mk hs
  clear hT hl3 hi3 hs
  obtain ⟨t, ht⟩ : ∃ t, text d y = t := ⟨_, rfl⟩
  have HE := Aside0.mk ht
  clear ht
  go_enter Tryd.func7, Tryd.ntmps7
  go_wp2_with (first | (go_at_call 7; go_must (refine (HY.go _ _ _ ?side0 ?side1 L1.out).mono ?_); (case side0 => exact Tab.below HT.out (below_alloc (below_alloc (Below.refl _ _) _) _)); (case side1 => exact Kd.C_below L2.out (below_alloc (below_alloc (Below.refl _ _) _) _)); rintro e w2 ⟨rfl, hb⟩; have HB := Aside0.mk (below_step (below_alloc (below_alloc (Below.refl w.heap.size w) _) _) hb); have hcc := (bcell hb).1; clear hb) | (go_at_call 16; (refine (cat3 _ _ _ _ ?side0).mono ?_); (case side0 => have h := HS.out; simp only [show (⟨#[66, 111, 120, 60]⟩ : ByteArray).size = 4 from rfl, show (⟨#[62]⟩ : ByteArray).size = 1 from rfl]; omega); rintro e w3 ⟨rfl, hb⟩))
  go_ret
  exact ⟨rfl, below_step HB.out hb⟩
theorem arrayed (n : ByteArray) (m : Int) (l c : Nat) (w : World) (d : Nat) (y : S24) (ad : Addr) (A3 : Option Addr) (c3 : Nat) (hl : 0 < l) (h0 : -9223372036854775808 ≤ m) (h1 : m ≤ 9223372036854775807)
    (hx0 : w.cell? ad = some (.int .i64 y.f0)) (hx1 : w.cell? ⟨ad.block, ad.off + 1, none⟩ = some (.string y.f1)) (hx2 : w.cell? ⟨ad.block, ad.off + 2, none⟩ = some (.int .i64 y.f2)) (hx3 : w.cell? ⟨ad.block, ad.off + 3, none⟩ = some (.slice A3 y.f3.length c3))
    (hl3 : y.f3.length ≤ c3) (hi3 : k24.C w A3 y.f3.length y.f3) (hT : Tab w) (HY : TypSaid d y) (hs : (text d y).size + 26 ≤ 281474976710656) :
    Calls Tryd.prog 7 #[.agg #[.int .i64 10, .string n, .int .i64 m, .slice (some ad) l c]] w fun e w' => e = .returned (.string (⟨#[91]⟩ ++ text d y ++ ⟨#[59, 32]⟩ ++ itoa m ++ ⟨#[93]⟩)) ∧ Below w.heap.size w w' := by
  have hu24 := Tryd.underlying24
  have hb2 : ad.block < w.heap.size := World.block_lt_of_cell? w _ hx0
  have HT := Aside0.mk hT
  have L1 := Aside0.mk hl3
  have L2 := Aside0.mk hi3
  have HS := Aside0.mk hs
  clear hT hl3 hi3 hs
  obtain ⟨t, ht⟩ : ∃ t, text d y = t := ⟨_, rfl⟩
  have HE := Aside0.mk ht
  clear ht
  go_enter Tryd.func7, Tryd.ntmps7
  go_wp2_with (first | (go_at_call 7; go_must (refine (HY.go _ _ _ ?side0 ?side1 L1.out).mono ?_); (case side0 => exact Tab.below HT.out (below_alloc (below_alloc (Below.refl _ _) _) _)); (case side1 => exact Kd.C_below L2.out (below_alloc (below_alloc (Below.refl _ _) _) _)); rintro e w2 ⟨rfl, hb⟩; have HB := Aside0.mk (below_step (below_alloc (below_alloc (Below.refl w.heap.size w) _) _) hb); have hcc := (bcell hb).1; clear hb) | (go_at_call 17; (refine (itoa_call m h0 h1 _ ?side0).mono ?_); (case side0 => exact Tab.below HT.out HB.out); rintro e w3 ⟨rfl, hb⟩; have HB3 := Aside0.mk (below_step HB.out hb); clear hb) | (go_at_call 16; (refine (cat5 _ _ _ _ _ _ ?side0).mono ?_); (case side0 => have h := HS.out; have h2 := itoa_size m h0 h1; simp only [show (⟨#[91]⟩ : ByteArray).size = 1 from rfl, show (⟨#[59, 32]⟩ : ByteArray).size = 2 from rfl, show (⟨#[93]⟩ : ByteArray).size = 1 from rfl]; omega); rintro e w4 ⟨rfl, hb⟩))
  go_ret
  exact ⟨rfl, below_step HB3.out hb⟩
theorem reffed (n : ByteArray) (m : Int) (l c : Nat) (w : World) (d : Nat) (y : S24) (ad : Addr) (A3 : Option Addr) (c3 : Nat) (hl : 0 < l) (h0 : -9223372036854775808 ≤ m) (h1 : m ≤ 9223372036854775807)
    (hx0 : w.cell? ad = some (.int .i64 y.f0)) (hx1 : w.cell? ⟨ad.block, ad.off + 1, none⟩ = some (.string y.f1)) (hx2 : w.cell? ⟨ad.block, ad.off + 2, none⟩ = some (.int .i64 y.f2)) (hx3 : w.cell? ⟨ad.block, ad.off + 3, none⟩ = some (.slice A3 y.f3.length c3))
    (hl3 : y.f3.length ≤ c3) (hi3 : k24.C w A3 y.f3.length y.f3) (hT : Tab w) (HY : TypSaid d y) (hs : (text d y).size + 26 ≤ 281474976710656) :
    Calls Tryd.prog 7 #[.agg #[.int .i64 12, .string n, .int .i64 m, .slice (some ad) l c]] w fun e w' => e = .returned (.string (⟨#[38]⟩ ++ text d y)) ∧ Below w.heap.size w w' := by
  have hu24 := Tryd.underlying24
  have hb2 : ad.block < w.heap.size := World.block_lt_of_cell? w _ hx0
  have HT := Aside0.mk hT
  have L1 := Aside0.mk hl3
  have L2 := Aside0.mk hi3
  have HS := Aside0.mk hs
  clear hT hl3 hi3 hs
  obtain ⟨t, ht⟩ : ∃ t, text d y = t := ⟨_, rfl⟩
  have HE := Aside0.mk ht
  clear ht
  have hz : 1 + (text d y).size ≤ 9223372036854775807 := by have := HS.out; omega
  go_enter Tryd.func7, Tryd.ntmps7
  go_wp2_with (first | (go_at_call 7; go_must (refine (HY.go _ _ _ ?side0 ?side1 L1.out).mono ?_); (case side0 => exact Tab.below HT.out (below_alloc (below_alloc (Below.refl _ _) _) _)); (case side1 => exact Kd.C_below L2.out (below_alloc (below_alloc (Below.refl _ _) _) _)); rintro e w2 ⟨rfl, hb⟩; have HB := Aside0.mk (below_step (below_alloc (below_alloc (Below.refl w.heap.size w) _) _) hb); have hcc := (bcell hb).1; clear hb))
  go_ret
  exact ⟨rfl, HB.out⟩
theorem muted (n : ByteArray) (m : Int) (l c : Nat) (w : World) (d : Nat) (y : S24) (ad : Addr) (A3 : Option Addr) (c3 : Nat) (hl : 0 < l) (h0 : -9223372036854775808 ≤ m) (h1 : m ≤ 9223372036854775807)
    (hx0 : w.cell? ad = some (.int .i64 y.f0)) (hx1 : w.cell? ⟨ad.block, ad.off + 1, none⟩ = some (.string y.f1)) (hx2 : w.cell? ⟨ad.block, ad.off + 2, none⟩ = some (.int .i64 y.f2)) (hx3 : w.cell? ⟨ad.block, ad.off + 3, none⟩ = some (.slice A3 y.f3.length c3))
    (hl3 : y.f3.length ≤ c3) (hi3 : k24.C w A3 y.f3.length y.f3) (hT : Tab w) (HY : TypSaid d y) (hs : (text d y).size + 26 ≤ 281474976710656) :
    Calls Tryd.prog 7 #[.agg #[.int .i64 13, .string n, .int .i64 m, .slice (some ad) l c]] w fun e w' => e = .returned (.string (⟨#[38, 109, 117, 116, 32]⟩ ++ text d y)) ∧ Below w.heap.size w w' := by
  have hu24 := Tryd.underlying24
  have hb2 : ad.block < w.heap.size := World.block_lt_of_cell? w _ hx0
  have HT := Aside0.mk hT
  have L1 := Aside0.mk hl3
  have L2 := Aside0.mk hi3
  have HS := Aside0.mk hs
  clear hT hl3 hi3 hs
  obtain ⟨t, ht⟩ : ∃ t, text d y = t := ⟨_, rfl⟩
  have HE := Aside0.mk ht
  clear ht
  have hz : 5 + (text d y).size ≤ 9223372036854775807 := by have := HS.out; omega
  go_enter Tryd.func7, Tryd.ntmps7
  go_wp2_with (first | (go_at_call 7; go_must (refine (HY.go _ _ _ ?side0 ?side1 L1.out).mono ?_); (case side0 => exact Tab.below HT.out (below_alloc (below_alloc (Below.refl _ _) _) _)); (case side1 => exact Kd.C_below L2.out (below_alloc (below_alloc (Below.refl _ _) _) _)); rintro e w2 ⟨rfl, hb⟩; have HB := Aside0.mk (below_step (below_alloc (below_alloc (Below.refl w.heap.size w) _) _) hb); have hcc := (bcell hb).1; clear hb))
  go_ret
  exact ⟨rfl, HB.out⟩
theorem other1 (k : Int) (n : ByteArray) (m : Int) (l c : Nat) (w : World) (d : Nat) (y : S24) (ad : Addr) (A3 : Option Addr) (c3 : Nat) (hl : 0 < l) (h0 : -9223372036854775808 ≤ m) (h1 : m ≤ 9223372036854775807) (hk : k > 13)
    (hx0 : w.cell? ad = some (.int .i64 y.f0)) (hx1 : w.cell? ⟨ad.block, ad.off + 1, none⟩ = some (.string y.f1)) (hx2 : w.cell? ⟨ad.block, ad.off + 2, none⟩ = some (.int .i64 y.f2)) (hx3 : w.cell? ⟨ad.block, ad.off + 3, none⟩ = some (.slice A3 y.f3.length c3))
    (hl3 : y.f3.length ≤ c3) (hi3 : k24.C w A3 y.f3.length y.f3) (hT : Tab w) (HY : TypSaid d y) (hs : (text d y).size + 26 ≤ 281474976710656) :
    Calls Tryd.prog 7 #[.agg #[.int .i64 k, .string n, .int .i64 m, .slice (some ad) l c]] w fun e w' => e = .returned (.string (⟨#[63]⟩)) ∧ Below w.heap.size w w' := by
  have hu24 := Tryd.underlying24
  have hb2 : ad.block < w.heap.size := World.block_lt_of_cell? w _ hx0
  have HT := Aside0.mk hT
  have L1 := Aside0.mk hl3
  have L2 := Aside0.mk hi3
  have HS := Aside0.mk hs
  clear hT hl3 hi3 hs
  obtain ⟨t, ht⟩ : ∃ t, text d y = t := ⟨_, rfl⟩
  have HE := Aside0.mk ht
  clear ht
  have hk1 : ¬ k ≤ 8 := by omega
  go_enter Tryd.func7, Tryd.ntmps7
  go_wp2_with (first | (go_at_call 7; go_must (refine (HY.go _ _ _ ?side0 ?side1 L1.out).mono ?_); (case side0 => exact Tab.below HT.out (below_alloc (below_alloc (Below.refl _ _) _) _)); (case side1 => exact Kd.C_below L2.out (below_alloc (below_alloc (Below.refl _ _) _) _)); rintro e w2 ⟨rfl, hb⟩; have HB := Aside0.mk (below_step (below_alloc (below_alloc (Below.refl w.heap.size w) _) _) hb); have hcc := (bcell hb).1; clear hb))
  go_ret
  exact ⟨rfl, HB.out⟩
theorem other0 (k : Int) (n : ByteArray) (m : Int) (l c : Nat) (w : World) (d : Nat) (y : S24) (ad : Addr) (A3 : Option Addr) (c3 : Nat) (hl : 0 < l) (h0 : -9223372036854775808 ≤ m) (h1 : m ≤ 9223372036854775807) (hk : k < 1)
    (hx0 : w.cell? ad = some (.int .i64 y.f0)) (hx1 : w.cell? ⟨ad.block, ad.off + 1, none⟩ = some (.string y.f1)) (hx2 : w.cell? ⟨ad.block, ad.off + 2, none⟩ = some (.int .i64 y.f2)) (hx3 : w.cell? ⟨ad.block, ad.off + 3, none⟩ = some (.slice A3 y.f3.length c3))
    (hl3 : y.f3.length ≤ c3) (hi3 : k24.C w A3 y.f3.length y.f3) (hT : Tab w) (HY : TypSaid d y) (hs : (text d y).size + 26 ≤ 281474976710656) :
    Calls Tryd.prog 7 #[.agg #[.int .i64 k, .string n, .int .i64 m, .slice (some ad) l c]] w fun e w' => e = .returned (.string (⟨#[63]⟩)) ∧ Below w.heap.size w w' := by
  have hu24 := Tryd.underlying24
  have hb2 : ad.block < w.heap.size := World.block_lt_of_cell? w _ hx0
  have HT := Aside0.mk hT
  have L1 := Aside0.mk hl3
  have L2 := Aside0.mk hi3
  have HS := Aside0.mk hs
  clear hT hl3 hi3 hs
  obtain ⟨t, ht⟩ : ∃ t, text d y = t := ⟨_, rfl⟩
  have HE := Aside0.mk ht
  clear ht
  have hk1 : ¬ k ≥ 1 := by omega
  go_enter Tryd.func7, Tryd.ntmps7
  go_wp2_with (first | (go_at_call 7; go_must (refine (HY.go _ _ _ ?side0 ?side1 L1.out).mono ?_); (case side0 => exact Tab.below HT.out (below_alloc (below_alloc (Below.refl _ _) _) _)); (case side1 => exact Kd.C_below L2.out (below_alloc (below_alloc (Below.refl _ _) _) _)); rintro e w2 ⟨rfl, hb⟩; have HB := Aside0.mk (below_step (below_alloc (below_alloc (Below.refl w.heap.size w) _) _) hb); have hcc := (bcell hb).1; clear hb))
  go_ret
  exact ⟨rfl, HB.out⟩
end Go.Proofs.YtocjfdpknfnamaaDoor.Typ
