/- Steps toward the laws of the parser (LawBinds), merged from several texts (some of them began as the kit's print). No condition. -/
import Derived.Deep.DeepCutAuto
import Derived.Test.YtngpgdmafmkddaaDoorZLawBinds0
section
namespace Go.Proofs.YtngpgdmafmkddaaDoor.Tre
open Go.Proofs.YtngpgdmafmkddaaDoor.Lex Go.Proofs.YtngpgdmafmkddaaDoor.Calm Go.Proofs.YtngpgdmafmkddaaDoor.Par Go.RowKit Go.Proofs.YtngpgdmafmkddaaDoorW.PrintWords Go.Proofs.YtngpgdmafmkddaaDoorW.PrintLast Go.Proofs.YtngpgdmafmkddaaDoorW.PrintMore
open Go.Proofs.YtngpgdmafmkddaaDoor.PParseBlanks (S35 S25 S27 k35 k25 k27 rd_T35 rd_T25 rd_T27 at_T35 at_T25 at_T27)
set_option linter.unusedVariables false
set_option linter.unusedSimpArgs false
open Go.Proofs.YtngpgdmafmkddaaDoor.PParseBlanks (ferrulelaw03_bare.f ferruleref03_Same.f)
def sgL (i : Nat) : List UInt8 := ([[124, 124], [38, 38], [61, 61], [60], [124], [94], [38], [60, 60], [43], [45], [42], [37]] : List (List UInt8)).getD i []
def lvN (i : Nat) : Int := ([1, 2, 3, 3, 4, 5, 6, 7, 8, 8, 9, 9] : List Int).getD i 0
def bindL (i k : Nat) : List UInt8 := [120, 32] ++ sgL i ++ [32, 121, 32] ++ sgL k ++ [32, 122]
def wantL (i k : Nat) : List UInt8 := if lvN i ≥ lvN k then [40, 120, 32] ++ sgL i ++ [32, 121, 41, 32] ++ sgL k ++ [32, 122] else [120, 32] ++ sgL i ++ [32, 40, 121, 32] ++ sgL k ++ [32, 122, 41]
abbrev T10 := Int × Int × Int × ByteArray × (List (S27)) × (List (S25)) × Int × ByteArray × Int × (List (S25))
def bareT (x : S27) : Option T10 := ferrulelaw03_bare.f 50 x.f0 x.f1 x.f2 x.f3 x.f4 x.f5 x.f6.f0 x.f6.f1 x.f6.f2 x.f6.f3
def sameT (p q : T10) : Option Bool := ferruleref03_Same.f 50 p.1 p.2.1 p.2.2.1 p.2.2.2.1 p.2.2.2.2.1 p.2.2.2.2.2.1 p.2.2.2.2.2.2.1 p.2.2.2.2.2.2.2.1 p.2.2.2.2.2.2.2.2.1 p.2.2.2.2.2.2.2.2.2 q.1 q.2.1 q.2.2.1 q.2.2.2.1 q.2.2.2.2.1 q.2.2.2.2.2.1 q.2.2.2.2.2.2.1 q.2.2.2.2.2.2.2.1 q.2.2.2.2.2.2.2.2.1 q.2.2.2.2.2.2.2.2.2
def bindsTwo (x y : S27) : Bool := match bareT x with
 | none => false
 | some p => match bareT y with
  | none => false
  | some q => match sameT p q with
   | none => false
   | some b => b
def bindsOk (i k : Nat) : Bool := match treeX ⟨(bindL i k).toArray⟩ 100 with
 | none => false
 | some (x, a, e) =>
  if lvN i = 3 ∧ lvN k = 3 then decide (e = 30) && decide (a = 5 + (sgL i).length)
  else decide (e = 0) && decide (x.f4.length = 2) && match treeX ⟨(wantL i k).toArray⟩ 100 with
   | none => false
   | some (y, b, f) => decide (f = 0) && bindsTwo x y
theorem binds_0 : ((List.range 12).all fun k => bindsOk 0 k) = true := by kernel_rfl
theorem binds_1 : ((List.range 12).all fun k => bindsOk 1 k) = true := by kernel_rfl
theorem binds_2 : ((List.range 12).all fun k => bindsOk 2 k) = true := by kernel_rfl
theorem binds_3 : ((List.range 12).all fun k => bindsOk 3 k) = true := by kernel_rfl
theorem binds_4 : ((List.range 12).all fun k => bindsOk 4 k) = true := by kernel_rfl
theorem binds_5 : ((List.range 12).all fun k => bindsOk 5 k) = true := by kernel_rfl
theorem binds_6 : ((List.range 12).all fun k => bindsOk 6 k) = true := by kernel_rfl
theorem binds_7 : ((List.range 12).all fun k => bindsOk 7 k) = true := by kernel_rfl
theorem binds_8 : ((List.range 12).all fun k => bindsOk 8 k) = true := by kernel_rfl
theorem binds_9 : ((List.range 12).all fun k => bindsOk 9 k) = true := by kernel_rfl
theorem binds_10 : ((List.range 12).all fun k => bindsOk 10 k) = true := by kernel_rfl
theorem binds_11 : ((List.range 12).all fun k => bindsOk 11 k) = true := by kernel_rfl
theorem binds_ok (i k : Nat) (hi : i < 12) (hk : k < 12) : bindsOk i k = true := by
 have P : ∀ (b : Nat), ((List.range 12).all fun k => bindsOk b k) = true → bindsOk b k = true := fun b hb => List.all_eq_true.1 hb k (List.mem_range.2 hk)
 rcases (by omega : i = 0 ∨ i = 1 ∨ i = 2 ∨ i = 3 ∨ i = 4 ∨ i = 5 ∨ i = 6 ∨ i = 7 ∨ i = 8 ∨ i = 9 ∨ i = 10 ∨ i = 11) with rfl | rfl | rfl | rfl | rfl | rfl | rfl | rfl | rfl | rfl | rfl | rfl
 ·exact P 0 binds_0
 ·exact P 1 binds_1
 ·exact P 2 binds_2
 ·exact P 3 binds_3
 ·exact P 4 binds_4
 ·exact P 5 binds_5
 ·exact P 6 binds_6
 ·exact P 7 binds_7
 ·exact P 8 binds_8
 ·exact P 9 binds_9
 ·exact P 10 binds_10
 ·exact P 11 binds_11
end Go.Proofs.YtngpgdmafmkddaaDoor.Tre
end
section
namespace Go.Proofs.YtngpgdmafmkddaaDoor.Tre
open Go.Proofs.YtngpgdmafmkddaaDoor.Lex Go.Proofs.YtngpgdmafmkddaaDoor.Calm Go.Proofs.YtngpgdmafmkddaaDoor.Par Go.RowKit Go.Proofs.YtngpgdmafmkddaaDoorW.PrintWords Go.Proofs.YtngpgdmafmkddaaDoorW.PrintLast Go.Proofs.YtngpgdmafmkddaaDoorW.PrintMore
open Go.Proofs.YtngpgdmafmkddaaDoor.PParseBlanks (S35 S25 S27 k35 k25 k27 rd_T35 rd_T25 rd_T27 at_T35 at_T25 at_T27)
set_option linter.unusedVariables false
set_option linter.unusedSimpArgs false
open Go.Proofs.YtngpgdmafmkddaaDoor.PParseBlanks (ferrulelaw03_bare.f ferruleref03_Same.f)
abbrev sgB (i : Nat) : ByteArray := ⟨(sgL i).toArray⟩
theorem row_at (i : Nat) (hi : i < 12) : (#[.string ⟨#[124, 124]⟩, .string ⟨#[38, 38]⟩, .string ⟨#[61, 61]⟩, .string ⟨#[60]⟩, .string ⟨#[124]⟩, .string ⟨#[94]⟩, .string ⟨#[38]⟩, .string ⟨#[60, 60]⟩, .string ⟨#[43]⟩, .string ⟨#[45]⟩, .string ⟨#[42]⟩, .string ⟨#[37]⟩] : Array Value)[i]? = some (.string (sgB i)) := by
 rcases (by omega : i = 0 ∨ i = 1 ∨ i = 2 ∨ i = 3 ∨ i = 4 ∨ i = 5 ∨ i = 6 ∨ i = 7 ∨ i = 8 ∨ i = 9 ∨ i = 10 ∨ i = 11) with rfl | rfl | rfl | rfl | rfl | rfl | rfl | rfl | rfl | rfl | rfl | rfl <;> rfl
theorem lrow_at (i : Nat) (hi : i < 12) : (#[.int .i64 1, .int .i64 2, .int .i64 3, .int .i64 3, .int .i64 4, .int .i64 5, .int .i64 6, .int .i64 7, .int .i64 8, .int .i64 8, .int .i64 9, .int .i64 9] : Array Value)[i]? = some (.int .i64 (lvN i)) := by
 rcases (by omega : i = 0 ∨ i = 1 ∨ i = 2 ∨ i = 3 ∨ i = 4 ∨ i = 5 ∨ i = 6 ∨ i = 7 ∨ i = 8 ∨ i = 9 ∨ i = 10 ∨ i = 11) with rfl | rfl | rfl | rfl | rfl | rfl | rfl | rfl | rfl | rfl | rfl | rfl <;> rfl
theorem sg_len (i : Nat) : (sgL i).length ≤ 2 := by
 by_cases hi : i < 12
 ·rcases (by omega : i = 0 ∨ i = 1 ∨ i = 2 ∨ i = 3 ∨ i = 4 ∨ i = 5 ∨ i = 6 ∨ i = 7 ∨ i = 8 ∨ i = 9 ∨ i = 10 ∨ i = 11) with rfl | rfl | rfl | rfl | rfl | rfl | rfl | rfl | rfl | rfl | rfl | rfl <;> decide
 ·have : sgL i = [] := by
   unfold sgL
   rw [List.getD_eq_getElem?_getD, List.getElem?_eq_none (by simpa using hi)]
   rfl
  rw [this]
  decide
theorem mod_nat (a : Int) : ∃ i : Nat, (wrap64 (a.tmod 12 + 12)).tmod 12 = (i : Int) ∧ i < 12 := by
 obtain ⟨q, h, h0, h1⟩ := mod_way a 12 (by omega) (by omega)
 exact ⟨q.toNat, by rw [h]; omega, by omega⟩
theorem bind_str (i k : Nat) : (⟨#[120, 32]⟩ : ByteArray) ++ sgB i ++ ⟨#[32, 121, 32]⟩ ++ sgB k ++ ⟨#[32, 122]⟩ = ⟨(bindL i k).toArray⟩ := by
 rw [show (⟨#[120, 32]⟩ : ByteArray) = ⟨[120, 32].toArray⟩ from rfl, show (⟨#[32, 121, 32]⟩ : ByteArray) = ⟨[32, 121, 32].toArray⟩ from rfl, show (⟨#[32, 122]⟩ : ByteArray) = ⟨[32, 122].toArray⟩ from rfl, mk_append, mk_append, mk_append, mk_append]
 rfl
theorem lo_str (i k : Nat) : (⟨#[120, 32]⟩ : ByteArray) ++ sgB i ++ ⟨#[32, 40, 121, 32]⟩ ++ sgB k ++ ⟨#[32, 122, 41]⟩ = ⟨([120, 32] ++ sgL i ++ [32, 40, 121, 32] ++ sgL k ++ [32, 122, 41]).toArray⟩ := by
 rw [show (⟨#[120, 32]⟩ : ByteArray) = ⟨[120, 32].toArray⟩ from rfl, show (⟨#[32, 40, 121, 32]⟩ : ByteArray) = ⟨[32, 40, 121, 32].toArray⟩ from rfl, show (⟨#[32, 122, 41]⟩ : ByteArray) = ⟨[32, 122, 41].toArray⟩ from rfl, mk_append, mk_append, mk_append, mk_append]
theorem hi_str (i k : Nat) : (⟨#[40, 120, 32]⟩ : ByteArray) ++ sgB i ++ ⟨#[32, 121, 41, 32]⟩ ++ sgB k ++ ⟨#[32, 122]⟩ = ⟨([40, 120, 32] ++ sgL i ++ [32, 121, 41, 32] ++ sgL k ++ [32, 122]).toArray⟩ := by
 rw [show (⟨#[40, 120, 32]⟩ : ByteArray) = ⟨[40, 120, 32].toArray⟩ from rfl, show (⟨#[32, 121, 41, 32]⟩ : ByteArray) = ⟨[32, 121, 41, 32].toArray⟩ from rfl, show (⟨#[32, 122]⟩ : ByteArray) = ⟨[32, 122].toArray⟩ from rfl, mk_append, mk_append, mk_append, mk_append]
def BV (w : World) (v : Value) (p : T10) : Prop := ∃ A4 c4 A5 c5 A9 c9, v = .agg #[.int .i64 p.1, .int .i64 p.2.1, .int .i64 p.2.2.1, .string p.2.2.2.1, .slice A4 p.2.2.2.2.1.length c4, .slice A5 p.2.2.2.2.2.1.length c5, .int .i64 p.2.2.2.2.2.2.1, .string p.2.2.2.2.2.2.2.1, .int .i64 p.2.2.2.2.2.2.2.2.1, .slice A9 p.2.2.2.2.2.2.2.2.2.length c9] ∧ p.2.2.2.2.1.length ≤ c4 ∧ p.2.2.2.2.2.1.length ≤ c5 ∧ p.2.2.2.2.2.2.2.2.2.length ≤ c9 ∧ Kd.C k27 w A4 p.2.2.2.2.1.length p.2.2.2.2.1 ∧ Kd.C k25 w A5 p.2.2.2.2.2.1.length p.2.2.2.2.2.1 ∧ Kd.C k25 w A9 p.2.2.2.2.2.2.2.2.2.length p.2.2.2.2.2.2.2.2.2
theorem BV.below {w w' : World} {v : Value} {p : T10} (h : BV w v p) (hb : Below w.heap.size w w') : BV w' v p := by
 obtain ⟨A4, c4, A5, c5, A9, c9, e, l4, l5, l9, h4, h5, h9⟩ := h
 exact ⟨A4, c4, A5, c5, A9, c9, e, l4, l5, l9, Kd.C_below h4 hb, Kd.C_below h5 hb, Kd.C_below h9 hb⟩
theorem bare_said {x : S27} {p : T10} {B : Nat} {v : Value} (h : bareT x = some p) (w : World) (hv : VE B w v x) : Calls Tryd.prog 11 #[v] w fun en w' => ∃ u, en = .returned u ∧ BV w' u p ∧ Below w.heap.size w w' := by
 obtain ⟨v4, v5, v9, rfl, r4, r5, r9⟩ := hv
 obtain ⟨A4, c4, rfl⟩ := Kd.R_slice r4
 obtain ⟨A5, c5, rfl⟩ := Kd.R_slice r5
 obtain ⟨A9, c9, rfl⟩ := Kd.R_slice r9
 refine (Go.Proofs.YtngpgdmafmkddaaDoor.PParseBlanks.ferrulelaw03_bare.calls 50 x.f0 x.f1 x.f2 x.f3 Any A4 c4 x.f4 Any A5 c5 x.f5 x.f6.f0 x.f6.f1 x.f6.f2 Any A9 c9 x.f6.f3 p.1 p.2.1 p.2.2.1 p.2.2.2.1 p.2.2.2.2.1 p.2.2.2.2.2.1 p.2.2.2.2.2.2.1 p.2.2.2.2.2.2.2.1 p.2.2.2.2.2.2.2.2.1 p.2.2.2.2.2.2.2.2.2 w (Kd.R_V r4) (Kd.R_V r5) (Kd.R_V r9) h).mono ?_
 rintro en w' ⟨u4, u5, u9, rfl, n4, n5, n9, hb⟩
 obtain ⟨B4, d4, rfl⟩ := Kd.V_slice (Kd.N_V (base' := 0) n4)
 obtain ⟨B5, d5, rfl⟩ := Kd.V_slice n5
 obtain ⟨B9, d9, rfl⟩ := Kd.V_slice n9
 have q4 := Kd.V_reads' (Kd.N_V (base' := 0) n4)
 have q5 := Kd.V_reads' n5
 have q9 := Kd.V_reads' n9
 exact ⟨_, rfl, ⟨B4, d4, B5, d5, B9, d9, rfl, q4.2.1, q5.2.1, q9.2.1, q4.2.2, q5.2.2, q9.2.2⟩, hb⟩
theorem same_said {p q : T10} {b : Bool} {u v : Value} (h : sameT p q = some b) (w : World) (hu : BV w u p) (hv : BV w v q) : Calls Tryd.prog 10 #[u, v] w fun en w' => en = .returned (.bool b) ∧ Below w.heap.size w w' := by
 obtain ⟨A4, c4, A5, c5, A9, c9, rfl, l4, l5, l9, h4, h5, h9⟩ := hu
 obtain ⟨B4, d4, B5, d5, B9, d9, rfl, m4, m5, m9, k4, k5, k9⟩ := hv
 exact Go.Proofs.YtngpgdmafmkddaaDoor.PParseBlanks.ferruleref03_Same.calls 50 _ _ _ _ A4 c4 _ A5 c5 _ _ _ _ A9 c9 _ _ _ _ _ B4 d4 _ B5 d5 _ _ _ _ B9 d9 _ b w h4 l4 h5 l5 h9 l9 k4 m4 k5 m5 k9 m9 h
theorem tree_known {s : ByteArray} {n : Nat} {x : S27} {a e : Int} (hx : treeX s n = some (x, a, e)) (w : World) (HT : Tab w) : Calls Tryd.prog 8 #[.string s] w fun en w' => ∃ a4 ac4 a5 ac5 a9 ac9, en = .returned (.tuple #[.agg #[.int .i64 x.f0, .int .i64 x.f1, .int .i64 x.f2, .string x.f3, .slice a4 x.f4.length ac4, .slice a5 x.f5.length ac5, .int .i64 x.f6.f0, .string x.f6.f1, .int .i64 x.f6.f2, .slice a9 x.f6.f3.length ac9], .int .i64 a, .int .i64 e]) ∧ Below w.heap.size w w' ∧ VE w.heap.size w' (.agg #[.int .i64 x.f0, .int .i64 x.f1, .int .i64 x.f2, .string x.f3, .slice a4 x.f4.length ac4, .slice a5 x.f5.length ac5, .int .i64 x.f6.f0, .string x.f6.f1, .int .i64 x.f6.f2, .slice a9 x.f6.f3.length ac9]) x := by
 refine (tree_said s n w HT (by rw [hx]; intro h; cases h)).mono ?_
 rintro en w' ⟨hb, v, x', a', e', hx', rfl, hv⟩
 rw [hx] at hx'
 injection hx' with hx'
 simp only [Prod.mk.injEq] at hx'
 obtain ⟨rfl, rfl, rfl⟩ := hx'
 obtain ⟨a4, ac4, a5, ac5, a9, ac9, rfl⟩ := hv.form
 exact ⟨a4, ac4, a5, ac5, a9, ac9, rfl, hb, hv⟩
set_option maxRecDepth 100000 in
set_option maxHeartbeats 4000000 in
theorem binds_walk (a0 a1 : Int) (w : World) (HT : Tab w) : Calls Tryd.prog 4 #[.int .i64 a0, .int .i64 a1] w fun e w' => e = .returned (.bool true) ∧ Below w.heap.size w w' := by
 obtain ⟨i, hi, hi12⟩ := mod_nat a0
 obtain ⟨k, hk, hk12⟩ := mod_nat a1
 have BO := Aside0.mk (binds_ok i k hi12 hk12)
 obtain ⟨x, a, e, hx⟩ : ∃ x a e, treeX ⟨(bindL i k).toArray⟩ 100 = some (x, a, e) := by
  have h := BO.out
  unfold bindsOk at h
  cases hx : treeX ⟨(bindL i k).toArray⟩ 100 with
  | none => rw [hx] at h; cases h
  | some r => exact ⟨r.1, r.2.1, r.2.2, rfl⟩
 have HX := Aside0.mk hx
 clear hx
 have hsi := sg_len i
 have hsk := sg_len k
 have HB := Aside0.mk (below_alloc (below_alloc (Below.refl w.heap.size w) (Obj.cells #[.string ⟨#[124, 124]⟩, .string ⟨#[38, 38]⟩, .string ⟨#[61, 61]⟩, .string ⟨#[60]⟩, .string ⟨#[124]⟩, .string ⟨#[94]⟩, .string ⟨#[38]⟩, .string ⟨#[60, 60]⟩, .string ⟨#[43]⟩, .string ⟨#[45]⟩, .string ⟨#[42]⟩, .string ⟨#[37]⟩] 9)) (Obj.cells #[.int .i64 1, .int .i64 2, .int .i64 3, .int .i64 3, .int .i64 4, .int .i64 5, .int .i64 6, .int .i64 7, .int .i64 8, .int .i64 8, .int .i64 9, .int .i64 9] 3))
 have HS := Aside0.mk ((Has.new w #[.string ⟨#[124, 124]⟩, .string ⟨#[38, 38]⟩, .string ⟨#[61, 61]⟩, .string ⟨#[60]⟩, .string ⟨#[124]⟩, .string ⟨#[94]⟩, .string ⟨#[38]⟩, .string ⟨#[60, 60]⟩, .string ⟨#[43]⟩, .string ⟨#[45]⟩, .string ⟨#[42]⟩, .string ⟨#[37]⟩] 9).alloc (Obj.cells #[.int .i64 1, .int .i64 2, .int .i64 3, .int .i64 3, .int .i64 4, .int .i64 5, .int .i64 6, .int .i64 7, .int .i64 8, .int .i64 8, .int .i64 9, .int .i64 9] 3))
 have HL : Aside0 (Has ((w.alloc (Obj.cells #[.string ⟨#[124, 124]⟩, .string ⟨#[38, 38]⟩, .string ⟨#[61, 61]⟩, .string ⟨#[60]⟩, .string ⟨#[124]⟩, .string ⟨#[94]⟩, .string ⟨#[38]⟩, .string ⟨#[60, 60]⟩, .string ⟨#[43]⟩, .string ⟨#[45]⟩, .string ⟨#[42]⟩, .string ⟨#[37]⟩] 9)).alloc (Obj.cells #[.int .i64 1, .int .i64 2, .int .i64 3, .int .i64 3, .int .i64 4, .int .i64 5, .int .i64 6, .int .i64 7, .int .i64 8, .int .i64 8, .int .i64 9, .int .i64 9] 3)) (w.heap.size + 1) #[.int .i64 1, .int .i64 2, .int .i64 3, .int .i64 3, .int .i64 4, .int .i64 5, .int .i64 6, .int .i64 7, .int .i64 8, .int .i64 8, .int .i64 9, .int .i64 9] 3) := ⟨by
  have h := Has.new (w.alloc (Obj.cells #[.string ⟨#[124, 124]⟩, .string ⟨#[38, 38]⟩, .string ⟨#[61, 61]⟩, .string ⟨#[60]⟩, .string ⟨#[124]⟩, .string ⟨#[94]⟩, .string ⟨#[38]⟩, .string ⟨#[60, 60]⟩, .string ⟨#[43]⟩, .string ⟨#[45]⟩, .string ⟨#[42]⟩, .string ⟨#[37]⟩] 9)) #[.int .i64 1, .int .i64 2, .int .i64 3, .int .i64 3, .int .i64 4, .int .i64 5, .int .i64 6, .int .i64 7, .int .i64 8, .int .i64 8, .int .i64 9, .int .i64 9] 3
  have hs : (w.alloc (Obj.cells #[.string ⟨#[124, 124]⟩, .string ⟨#[38, 38]⟩, .string ⟨#[61, 61]⟩, .string ⟨#[60]⟩, .string ⟨#[124]⟩, .string ⟨#[94]⟩, .string ⟨#[38]⟩, .string ⟨#[60, 60]⟩, .string ⟨#[43]⟩, .string ⟨#[45]⟩, .string ⟨#[42]⟩, .string ⟨#[37]⟩] 9)).heap.size = w.heap.size + 1 := by simp
  rwa [hs] at h⟩
 have HTT := Aside0.mk HT
 clear HT
 go_enter Tryd.func4, Tryd.ntmps4
 go_upto_region 4 with fail
 obtain ⟨W1, hW1⟩ : ∃ W, ((w.alloc (Obj.cells #[.string ⟨#[124, 124]⟩, .string ⟨#[38, 38]⟩, .string ⟨#[61, 61]⟩, .string ⟨#[60]⟩, .string ⟨#[124]⟩, .string ⟨#[94]⟩, .string ⟨#[38]⟩, .string ⟨#[60, 60]⟩, .string ⟨#[43]⟩, .string ⟨#[45]⟩, .string ⟨#[42]⟩, .string ⟨#[37]⟩] 9)).alloc (Obj.cells #[.int .i64 1, .int .i64 2, .int .i64 3, .int .i64 3, .int .i64 4, .int .i64 5, .int .i64 6, .int .i64 7, .int .i64 8, .int .i64 8, .int .i64 9, .int .i64 9] 3)) = W := ⟨_, rfl⟩
 rw [hW1] at HB HS HL
 rw [hW1]
 clear hW1
 go_cut [9, 10, 11] (fun v9 v10 v11 wc => ∃ (bx : Nat) (a4 a5 a9 : Option Addr) (ac4 ac5 ac9 : Nat), v9 = .pointer (some ⟨bx, 0, none⟩) ∧ v10 = .int .i64 a ∧ v11 = .int .i64 e ∧ Aside0 (Below w.heap.size w wc) ∧ Aside0 (Has wc w.heap.size #[.string ⟨#[124, 124]⟩, .string ⟨#[38, 38]⟩, .string ⟨#[61, 61]⟩, .string ⟨#[60]⟩, .string ⟨#[124]⟩, .string ⟨#[94]⟩, .string ⟨#[38]⟩, .string ⟨#[60, 60]⟩, .string ⟨#[43]⟩, .string ⟨#[45]⟩, .string ⟨#[42]⟩, .string ⟨#[37]⟩] 9) ∧ Aside0 (Has wc (w.heap.size + 1) #[.int .i64 1, .int .i64 2, .int .i64 3, .int .i64 3, .int .i64 4, .int .i64 5, .int .i64 6, .int .i64 7, .int .i64 8, .int .i64 8, .int .i64 9, .int .i64 9] 3) ∧ Aside0 (Has wc bx #[.int .i64 x.f0, .int .i64 x.f1, .int .i64 x.f2, .string x.f3, .slice a4 x.f4.length ac4, .slice a5 x.f5.length ac5, .int .i64 x.f6.f0, .string x.f6.f1, .int .i64 x.f6.f2, .slice a9 x.f6.f3.length ac9] 27) ∧ Aside0 (VE 0 wc (.agg #[.int .i64 x.f0, .int .i64 x.f1, .int .i64 x.f2, .string x.f3, .slice a4 x.f4.length ac4, .slice a5 x.f5.length ac5, .int .i64 x.f6.f0, .string x.f6.f1, .int .i64 x.f6.f2, .slice a9 x.f6.f3.length ac9]) x))
 case first =>
  have hD := below_drew (Below.refl W1.heap.size W1)
  replace HS := Aside0.mk (HS.out.belowS hD)
  replace HL := Aside0.mk (HL.out.belowS hD)
  replace HB := Aside0.mk (below_then HB.out HB.out.size hD)
  clear hD
  obtain ⟨W, hW⟩ : ∃ W, W1.drew = W := ⟨_, rfl⟩
  rw [hW] at HS HL HB
  refine region_treeQ (by kernel_rfl) (fun w' => Has w' w.heap.size #[.string ⟨#[124, 124]⟩, .string ⟨#[38, 38]⟩, .string ⟨#[61, 61]⟩, .string ⟨#[60]⟩, .string ⟨#[124]⟩, .string ⟨#[94]⟩, .string ⟨#[38]⟩, .string ⟨#[60, 60]⟩, .string ⟨#[43]⟩, .string ⟨#[45]⟩, .string ⟨#[42]⟩, .string ⟨#[37]⟩] 9) (hW ▸ HS.out) fun hS => ?_
  rw [hW] at hS ⊢
  clear hW
  generalize hQQ : Exit.then _ _ = QQ
  have hsure : Sure QQ := by
   rw [← hQQ]
   intro c a a' w1 hd h
   simp +zetaDelta only [Exit.then, Exit.inBlock, bodyPost] at h ⊢
   first | (simp at h; done) | simpa [hd] using h
  have hii : (i : Int) < 12 := by omega
  have hkk : (k : Int) < 12 := by omega
  refine treeQ_h hsure hS (i := 0) (by kernel_rfl) (by rfl) (by rfl) (by kernel_rfl) (by rfl) ?_
  apply Exists.intro
  apply And.intro
  ·rintro w' k1
   apply VR.mk
   go_simp
   with_reducible rfl
  simp only [List.setIfInBounds_toArray, List.set_cons_zero, List.set_cons_succ]
  refine treeQ_h hsure hS (i := 1) (by kernel_rfl) (by rfl) (by rfl) (by kernel_rfl) (by rfl) ?_
  apply Exists.intro
  apply And.intro
  ·rintro w' k1
   apply VR.mk
   go_simp
   with_reducible rfl
  simp only [List.setIfInBounds_toArray, List.set_cons_zero, List.set_cons_succ]
  refine treeQ_h hsure hS (i := 2) (by kernel_rfl) (by rfl) (by rfl) (by kernel_rfl) (by rfl) ?_
  apply Exists.intro
  apply And.intro
  ·rintro w' k1
   apply VR.mk
   go_simp
   with_reducible rfl
  simp only [List.setIfInBounds_toArray, List.set_cons_zero, List.set_cons_succ]
  refine treeQ_h hsure hS (i := 3) (by kernel_rfl) (by rfl) (by rfl) (by kernel_rfl) (by rfl) ?_
  apply Exists.intro
  apply And.intro
  ·rintro w' k1
   have hc := (Has.cell k1 i).trans (row_at i hi12)
   apply VR.mk
   go_simp
   with_reducible rfl
  simp only [List.setIfInBounds_toArray, List.set_cons_zero, List.set_cons_succ]
  refine treeQ_h hsure hS (i := 4) (by kernel_rfl) (by rfl) (by rfl) (by kernel_rfl) (by rfl) ?_
  apply Exists.intro
  apply And.intro
  ·rintro w' k1
   apply VR.mk
   go_simp
   refine (if_neg (by simp; omega)).trans ?_
   with_reducible rfl
  simp only [List.setIfInBounds_toArray, List.set_cons_zero, List.set_cons_succ]
  refine treeQ_h hsure hS (i := 5) (by kernel_rfl) (by rfl) (by rfl) (by kernel_rfl) (by rfl) ?_
  apply Exists.intro
  apply And.intro
  ·rintro w' k1
   apply VR.mk
   go_simp
   refine (if_neg (by simp; omega)).trans ?_
   with_reducible rfl
  simp only [List.setIfInBounds_toArray, List.set_cons_zero, List.set_cons_succ]
  refine treeQ_h hsure hS (i := 6) (by kernel_rfl) (by rfl) (by rfl) (by kernel_rfl) (by rfl) ?_
  apply Exists.intro
  apply And.intro
  ·rintro w' k1
   apply VR.mk
   go_simp
   with_reducible rfl
  simp only [List.setIfInBounds_toArray, List.set_cons_zero, List.set_cons_succ]
  refine treeQ_h hsure hS (i := 7) (by kernel_rfl) (by rfl) (by rfl) (by kernel_rfl) (by rfl) ?_
  apply Exists.intro
  apply And.intro
  ·rintro w' k1
   apply VR.mk
   go_simp
   with_reducible rfl
  simp only [List.setIfInBounds_toArray, List.set_cons_zero, List.set_cons_succ]
  refine treeQ_h hsure hS (i := 8) (by kernel_rfl) (by rfl) (by rfl) (by kernel_rfl) (by rfl) ?_
  apply Exists.intro
  apply And.intro
  ·rintro w' k1
   apply VR.mk
   go_simp
   with_reducible rfl
  simp only [List.setIfInBounds_toArray, List.set_cons_zero, List.set_cons_succ]
  refine treeQ_h hsure hS (i := 9) (by kernel_rfl) (by rfl) (by rfl) (by kernel_rfl) (by rfl) ?_
  apply Exists.intro
  apply And.intro
  ·rintro w' k1
   have hc := (Has.cell k1 k).trans (row_at k hk12)
   apply VR.mk
   go_simp
   with_reducible rfl
  simp only [List.setIfInBounds_toArray, List.set_cons_zero, List.set_cons_succ]
  refine treeQ_h hsure hS (i := 10) (by kernel_rfl) (by rfl) (by rfl) (by kernel_rfl) (by rfl) ?_
  apply Exists.intro
  apply And.intro
  ·rintro w' k1
   apply VR.mk
   go_simp
   refine (if_neg (by simp; omega)).trans ?_
   with_reducible rfl
  simp only [List.setIfInBounds_toArray, List.set_cons_zero, List.set_cons_succ]
  refine treeQ_h hsure hS (i := 11) (by kernel_rfl) (by rfl) (by rfl) (by kernel_rfl) (by rfl) ?_
  apply Exists.intro
  apply And.intro
  ·rintro w' k1
   apply VR.mk
   go_simp
   refine (if_neg (by simp; omega)).trans ?_
   with_reducible rfl
  simp only [List.setIfInBounds_toArray, List.set_cons_zero, List.set_cons_succ]
  rw [bind_str i k]
  have hwl := HL.out.lt
  refine tree_2Q (i := 12) (k := 17) (by kernel_rfl) ?_ ?_
  ·skip
   refine step_callQ (by rfl) (by rfl) (by rfl) (ER_go (by go_simp; first | with_reducible exact ⟨rfl, rfl⟩ | with_reducible rfl)) ?_
   refine (tree_known HX.out W (HTT.out.below HB.out)).mono ?_
   rintro en w2 ⟨a4, ac4, a5, ac5, a9, ac9, rfl, hbw2, hv⟩
   replace HS := Aside0.mk (HS.out.belowS hbw2)
   replace HL := Aside0.mk (HL.out.belowS hbw2)
   replace HB := Aside0.mk (below_then HB.out HB.out.size hbw2)
   refine .inl ⟨_, rfl, HS.out, ?_⟩
   simp only [List.setIfInBounds_toArray, List.set_cons_zero, List.set_cons_succ]
   refine treeQ_h hsure HS.out (i := 13) (by kernel_rfl) (by rfl) (by rfl) (by kernel_rfl) (by rfl) ?_
   apply Exists.intro
   apply And.intro
   ·rintro w' k1
    apply VR.mk
    go_simp
    with_reducible rfl
   simp only [List.setIfInBounds_toArray, List.set_cons_zero, List.set_cons_succ]
   refine treeQ_h hsure HS.out (i := 14) (by kernel_rfl) (by rfl) (by rfl) (by kernel_rfl) (by rfl) ?_
   apply Exists.intro
   apply And.intro
   ·rintro w' k1
    apply VR.mk
    go_simp
    with_reducible rfl
   simp only [List.setIfInBounds_toArray, List.set_cons_zero, List.set_cons_succ]
   refine treeQ_h hsure HS.out (i := 15) (by kernel_rfl) (by rfl) (by rfl) (by kernel_rfl) (by rfl) ?_
   apply Exists.intro
   apply And.intro
   ·rintro w' k1
    apply VR.mk
    go_simp
    with_reducible rfl
   simp only [List.setIfInBounds_toArray, List.set_cons_zero, List.set_cons_succ]
   refine treeQ_h hsure HS.out (i := 16) (by kernel_rfl) (by rfl) (by rfl) (by kernel_rfl) (by rfl) ?_
   apply Exists.intro
   apply And.intro
   ·rintro w' k1
    apply VR.mk
    go_simp
    with_reducible rfl
   simp only [List.setIfInBounds_toArray, List.set_cons_zero, List.set_cons_succ]
   have ba := below_alloc (Below.refl w2.heap.size w2) (Obj.cells #[.int .i64 0, .int .i64 0, .int .i64 0, .string ⟨#[]⟩, .slice none 0 0, .slice none 0 0, .int .i64 0, .string ⟨#[]⟩, .int .i64 0, .slice none 0 0] 27)
   refine tree_1Q (i := 17) (by kernel_rfl) ?_
   refine step_valueQ (v := .pointer (some ⟨w2.heap.size, 0, none⟩)) (w' := w2.alloc (Obj.cells #[.int .i64 0, .int .i64 0, .int .i64 0, .string ⟨#[]⟩, .slice none 0 0, .slice none 0 0, .int .i64 0, .string ⟨#[]⟩, .int .i64 0, .slice none 0 0] 27)) (by rfl) (by rfl) (by rfl) ⟨by go_simp⟩ (HS.out.belowS ba) ?_
   simp only [List.setIfInBounds_toArray, List.set_cons_zero, List.set_cons_succ]
   have HZ := Aside0.mk (Has.new w2 #[.int .i64 0, .int .i64 0, .int .i64 0, .string ⟨#[]⟩, .slice none 0 0, .slice none 0 0, .int .i64 0, .string ⟨#[]⟩, .int .i64 0, .slice none 0 0] 27)
   have hw2 := hbw2.size
   have hv2 := Aside0.mk (hv.below ba)
   replace HS := Aside0.mk (HS.out.belowS ba)
   replace HL := Aside0.mk (HL.out.belowS ba)
   replace HB := Aside0.mk (below_then HB.out HB.out.size ba)
   refine tree_1Q (i := 18) (by kernel_rfl) ?_
   refine step_storeQ (w' := World.setRow (w2.alloc (Obj.cells #[.int .i64 0, .int .i64 0, .int .i64 0, .string ⟨#[]⟩, .slice none 0 0, .slice none 0 0, .int .i64 0, .string ⟨#[]⟩, .int .i64 0, .slice none 0 0] 27)) w2.heap.size #[.int .i64 x.f0, .int .i64 x.f1, .int .i64 x.f2, .string x.f3, .slice a4 x.f4.length ac4, .slice a5 x.f5.length ac5, .int .i64 x.f6.f0, .string x.f6.f1, .int .i64 x.f6.f2, .slice a9 x.f6.f3.length ac9]) (by rfl) (by rfl) (by rfl) ⟨store27 _ _ _ _ HZ.out rfl rfl (by first | kernel_rfl | (simp [Value.oneCell'])) _ _ _ _ rfl rfl rfl⟩ ?_ ?_
   ·exact has_row_other HS.out (by omega)
   have HS2 := Aside0.mk (has_row_other HS.out (g := w2.heap.size) (cs' := #[.int .i64 x.f0, .int .i64 x.f1, .int .i64 x.f2, .string x.f3, .slice a4 x.f4.length ac4, .slice a5 x.f5.length ac5, .int .i64 x.f6.f0, .string x.f6.f1, .int .i64 x.f6.f2, .slice a9 x.f6.f3.length ac9]) (by omega))
   have HL2 := Aside0.mk (has_row_other HL.out (g := w2.heap.size) (cs' := #[.int .i64 x.f0, .int .i64 x.f1, .int .i64 x.f2, .string x.f3, .slice a4 x.f4.length ac4, .slice a5 x.f5.length ac5, .int .i64 x.f6.f0, .string x.f6.f1, .int .i64 x.f6.f2, .slice a9 x.f6.f3.length ac9]) (by omega))
   have HZ2 := Aside0.mk (has_row HZ.out #[.int .i64 x.f0, .int .i64 x.f1, .int .i64 x.f2, .string x.f3, .slice a4 x.f4.length ac4, .slice a5 x.f5.length ac5, .int .i64 x.f6.f0, .string x.f6.f1, .int .i64 x.f6.f2, .slice a9 x.f6.f3.length ac9])
   have HB2 := Aside0.mk (below_rowX HB.out (g := w2.heap.size) (by omega) #[.int .i64 x.f0, .int .i64 x.f1, .int .i64 x.f2, .string x.f3, .slice a4 x.f4.length ac4, .slice a5 x.f5.length ac5, .int .i64 x.f6.f0, .string x.f6.f1, .int .i64 x.f6.f2, .slice a9 x.f6.f3.length ac9])
   refine treeQ_h hsure HS2.out (i := 19) (by kernel_rfl) (by rfl) (by rfl) (by kernel_rfl) (by rfl) ?_
   apply Exists.intro
   apply And.intro
   ·rintro w' k1
    apply VR.mk
    go_simp
    with_reducible rfl
   simp only [List.setIfInBounds_toArray, List.set_cons_zero, List.set_cons_succ]
   refine treeQ_h hsure HS2.out (i := 20) (by kernel_rfl) (by rfl) (by rfl) (by kernel_rfl) (by rfl) ?_
   apply Exists.intro
   apply And.intro
   ·rintro w' k1
    apply VR.mk
    go_simp
    with_reducible rfl
   simp only [List.setIfInBounds_toArray, List.set_cons_zero, List.set_cons_succ]
   refine tree_endQ (by kernel_rfl) ?_
   rw [← hQQ]
   go_wp2
   go_meet
   case rel => exact ⟨w2.heap.size, a4, a5, a9, ac4, ac5, ac9, rfl, rfl, rfl, HB2, HS2, HL2, HZ2, ⟨((hv.bound.below ba).rowO (g := w2.heap.size) (fun kk h1 h2 => by have := h1.2.2; omega) #[.int .i64 x.f0, .int .i64 x.f1, .int .i64 x.f2, .string x.f3, .slice a4 x.f4.length ac4, .slice a5 x.f5.length ac5, .int .i64 x.f6.f0, .string x.f6.f1, .int .i64 x.f6.f2, .slice a9 x.f6.f3.length ac9]).mono (fun _ _ => trivial) |>.lower (Nat.zero_le _)⟩⟩
  ·skip
   have ba := below_alloc (Below.refl W.heap.size W) (Obj.cells #[.int .i64 0, .int .i64 0, .int .i64 0, .string ⟨#[]⟩, .slice none 0 0, .slice none 0 0, .int .i64 0, .string ⟨#[]⟩, .int .i64 0, .slice none 0 0] 27)
   refine step_valueQ (v := .pointer (some ⟨W.heap.size, 0, none⟩)) (w' := W.alloc (Obj.cells #[.int .i64 0, .int .i64 0, .int .i64 0, .string ⟨#[]⟩, .slice none 0 0, .slice none 0 0, .int .i64 0, .string ⟨#[]⟩, .int .i64 0, .slice none 0 0] 27)) (by rfl) (by rfl) (by rfl) ⟨by go_simp⟩ (HS.out.belowS ba) ?_
   simp only [List.setIfInBounds_toArray, List.set_cons_zero, List.set_cons_succ]
   have HZ := Aside0.mk (Has.new W #[.int .i64 0, .int .i64 0, .int .i64 0, .string ⟨#[]⟩, .slice none 0 0, .slice none 0 0, .int .i64 0, .string ⟨#[]⟩, .int .i64 0, .slice none 0 0] 27)
   replace HS := Aside0.mk (HS.out.belowS ba)
   replace HL := Aside0.mk (HL.out.belowS ba)
   replace HB := Aside0.mk (below_then HB.out HB.out.size ba)
   refine tree_1Q (i := 12) (by kernel_rfl) ?_
   refine step_callQ (by rfl) (by rfl) (by rfl) (ER_go (by go_simp; first | with_reducible exact ⟨rfl, rfl⟩ | with_reducible rfl)) ?_
   refine (tree_known HX.out (W.alloc (Obj.cells #[.int .i64 0, .int .i64 0, .int .i64 0, .string ⟨#[]⟩, .slice none 0 0, .slice none 0 0, .int .i64 0, .string ⟨#[]⟩, .int .i64 0, .slice none 0 0] 27)) (HTT.out.below HB.out)).mono ?_
   rintro en w2 ⟨a4, ac4, a5, ac5, a9, ac9, rfl, hbw2, hv⟩
   replace HS := Aside0.mk (HS.out.belowS hbw2)
   replace HL := Aside0.mk (HL.out.belowS hbw2)
   replace HZ := Aside0.mk (HZ.out.belowS hbw2)
   replace HB := Aside0.mk (below_then HB.out HB.out.size hbw2)
   refine .inl ⟨_, rfl, HS.out, ?_⟩
   simp only [List.setIfInBounds_toArray, List.set_cons_zero, List.set_cons_succ]
   refine treeQ_h hsure HS.out (i := 13) (by kernel_rfl) (by rfl) (by rfl) (by kernel_rfl) (by rfl) ?_
   apply Exists.intro
   apply And.intro
   ·rintro w' k1
    apply VR.mk
    go_simp
    with_reducible rfl
   simp only [List.setIfInBounds_toArray, List.set_cons_zero, List.set_cons_succ]
   refine treeQ_h hsure HS.out (i := 14) (by kernel_rfl) (by rfl) (by rfl) (by kernel_rfl) (by rfl) ?_
   apply Exists.intro
   apply And.intro
   ·rintro w' k1
    apply VR.mk
    go_simp
    with_reducible rfl
   simp only [List.setIfInBounds_toArray, List.set_cons_zero, List.set_cons_succ]
   refine treeQ_h hsure HS.out (i := 15) (by kernel_rfl) (by rfl) (by rfl) (by kernel_rfl) (by rfl) ?_
   apply Exists.intro
   apply And.intro
   ·rintro w' k1
    apply VR.mk
    go_simp
    with_reducible rfl
   simp only [List.setIfInBounds_toArray, List.set_cons_zero, List.set_cons_succ]
   refine treeQ_h hsure HS.out (i := 16) (by kernel_rfl) (by rfl) (by rfl) (by kernel_rfl) (by rfl) ?_
   apply Exists.intro
   apply And.intro
   ·rintro w' k1
    apply VR.mk
    go_simp
    with_reducible rfl
   simp only [List.setIfInBounds_toArray, List.set_cons_zero, List.set_cons_succ]
   refine tree_1Q (i := 18) (by kernel_rfl) ?_
   refine step_storeQ (w' := World.setRow w2 W.heap.size #[.int .i64 x.f0, .int .i64 x.f1, .int .i64 x.f2, .string x.f3, .slice a4 x.f4.length ac4, .slice a5 x.f5.length ac5, .int .i64 x.f6.f0, .string x.f6.f1, .int .i64 x.f6.f2, .slice a9 x.f6.f3.length ac9]) (by rfl) (by rfl) (by rfl) ⟨store27 _ _ _ _ HZ.out rfl rfl (by first | kernel_rfl | (simp [Value.oneCell'])) _ _ _ _ rfl rfl rfl⟩ ?_ ?_
   ·exact has_row_other HS.out (by omega)
   have HS2 := Aside0.mk (has_row_other HS.out (g := W.heap.size) (cs' := #[.int .i64 x.f0, .int .i64 x.f1, .int .i64 x.f2, .string x.f3, .slice a4 x.f4.length ac4, .slice a5 x.f5.length ac5, .int .i64 x.f6.f0, .string x.f6.f1, .int .i64 x.f6.f2, .slice a9 x.f6.f3.length ac9]) (by omega))
   have HL2 := Aside0.mk (has_row_other HL.out (g := W.heap.size) (cs' := #[.int .i64 x.f0, .int .i64 x.f1, .int .i64 x.f2, .string x.f3, .slice a4 x.f4.length ac4, .slice a5 x.f5.length ac5, .int .i64 x.f6.f0, .string x.f6.f1, .int .i64 x.f6.f2, .slice a9 x.f6.f3.length ac9]) (by omega))
   have HZ2 := Aside0.mk (has_row HZ.out #[.int .i64 x.f0, .int .i64 x.f1, .int .i64 x.f2, .string x.f3, .slice a4 x.f4.length ac4, .slice a5 x.f5.length ac5, .int .i64 x.f6.f0, .string x.f6.f1, .int .i64 x.f6.f2, .slice a9 x.f6.f3.length ac9])
   have HB2 := Aside0.mk (below_rowX HB.out (g := W.heap.size) (by omega) #[.int .i64 x.f0, .int .i64 x.f1, .int .i64 x.f2, .string x.f3, .slice a4 x.f4.length ac4, .slice a5 x.f5.length ac5, .int .i64 x.f6.f0, .string x.f6.f1, .int .i64 x.f6.f2, .slice a9 x.f6.f3.length ac9])
   refine treeQ_h hsure HS2.out (i := 19) (by kernel_rfl) (by rfl) (by rfl) (by kernel_rfl) (by rfl) ?_
   apply Exists.intro
   apply And.intro
   ·rintro w' k1
    apply VR.mk
    go_simp
    with_reducible rfl
   simp only [List.setIfInBounds_toArray, List.set_cons_zero, List.set_cons_succ]
   refine treeQ_h hsure HS2.out (i := 20) (by kernel_rfl) (by rfl) (by rfl) (by kernel_rfl) (by rfl) ?_
   apply Exists.intro
   apply And.intro
   ·rintro w' k1
    apply VR.mk
    go_simp
    with_reducible rfl
   simp only [List.setIfInBounds_toArray, List.set_cons_zero, List.set_cons_succ]
   refine tree_endQ (by kernel_rfl) ?_
   rw [← hQQ]
   go_wp2
   go_meet
   case rel => exact ⟨W.heap.size, a4, a5, a9, ac4, ac5, ac9, rfl, rfl, rfl, HB2, HS2, HL2, HZ2, ⟨(hv.row (g := W.heap.size) (by simp) #[.int .i64 x.f0, .int .i64 x.f1, .int .i64 x.f2, .string x.f3, .slice a4 x.f4.length ac4, .slice a5 x.f5.length ac5, .int .i64 x.f6.f0, .string x.f6.f1, .int .i64 x.f6.f2, .slice a9 x.f6.f3.length ac9]).lower (Nat.zero_le _)⟩⟩
 case rest =>
  clear HB HS HL
  obtain ⟨bx, a4, a5, a9, ac4, ac5, ac9, rfl, rfl, rfl, HB, HS, HL, HZ, HV⟩ := hcut
  obtain ⟨w5, hw5⟩ : ∃ W, W = wc := ⟨_, rfl⟩
  subst hw5
  have hwl := HL.out.lt
  have hii : (i : Int) < 12 := by omega
  have hkk : (k : Int) < 12 := by omega
  have cli := (HL.out.cell i).trans (lrow_at i hi12)
  have clk := (HL.out.cell k).trans (lrow_at k hk12)
  have csi := (HS.out.cell i).trans (row_at i hi12)
  have HBO := BO.out
  unfold bindsOk at HBO
  rw [HX.out] at HBO
  dsimp only at HBO
  by_cases h3 : lvN i = 3 ∧ lvN k = 3
  ·rw [if_pos h3, Bool.and_eq_true, decide_eq_true_eq, decide_eq_true_eq] at HBO
   obtain ⟨rfl, ha⟩ := HBO
   obtain ⟨h3i, h3k⟩ := h3
   rw [h3i] at cli
   rw [h3k] at clk
   have hax : (a == 5 + ((sgL i).length : Int)) = true := by simp [ha]
   have hax2 : (a == wrap64 (5 + ((sgL i).length : Int))) = true := by rw [show wrap64 (5 + ((sgL i).length : Int)) = 5 + ((sgL i).length : Int) by unfold wrap64; omega]; exact hax
   clear ha
   go_wp2
   go_ret
   exact ⟨rfl, HB.out⟩
  ·rw [if_neg h3, Bool.and_eq_true, Bool.and_eq_true, decide_eq_true_eq, decide_eq_true_eq] at HBO
   obtain ⟨⟨rfl, hlen⟩, hW⟩ := HBO
   have HLEN := Aside0.mk hlen
   have HWT := Aside0.mk hW
   clear hlen hW
   obtain ⟨b3, hb3⟩ : ∃ b, (lvN i == 3) = b := ⟨_, rfl⟩
   obtain ⟨c3, hc3⟩ : ∃ b, (lvN k == 3) = b := ⟨_, rfl⟩
   have hbc : (b3 && c3) = false := by
    rw [← hb3, ← hc3, Bool.eq_false_iff]
    intro h
    simp at h
    exact h3 h
   skip
   go_upto_region 5 with fail
   go_cut [54] (fun v54 wx => v54 = .bool false ∧ wx = w5)
   case first =>
    cases b3 with
    | false =>
     go_wp2
     go_meet
     case rel => exact ⟨rfl, rfl⟩
    | true =>
     obtain rfl : c3 = false := by simpa using hbc
     go_wp2
     go_meet
     case rel => exact ⟨rfl, rfl⟩
   case rest =>
    obtain ⟨rfl, hw5⟩ := hcut
    subst hw5
    clear cli clk csi hb3 hc3 hbc h3
    go_upto_region 7 with fail
    skip
    have hD := below_drew (Below.refl wc.heap.size wc)
    replace HS := Aside0.mk (HS.out.belowS hD)
    replace HL := Aside0.mk (HL.out.belowS hD)
    replace HZ := Aside0.mk (HZ.out.belowS hD)
    replace HV := Aside0.mk (HV.out.below hD)
    replace HB := Aside0.mk (below_then HB.out HB.out.size hD)
    clear hD
    obtain ⟨W7, hW⟩ : ∃ W, wc.drew = W := ⟨_, rfl⟩
    rw [hW] at HS HL HZ HV HB
    refine region_treeQ (by kernel_rfl) (fun w' => Has w' w.heap.size #[.string ⟨#[124, 124]⟩, .string ⟨#[38, 38]⟩, .string ⟨#[61, 61]⟩, .string ⟨#[60]⟩, .string ⟨#[124]⟩, .string ⟨#[94]⟩, .string ⟨#[38]⟩, .string ⟨#[60, 60]⟩, .string ⟨#[43]⟩, .string ⟨#[45]⟩, .string ⟨#[42]⟩, .string ⟨#[37]⟩] 9) (hW ▸ HS.out) fun hS => ?_
    rw [hW] at hS ⊢
    clear hW
    generalize hQQ : Exit.then _ _ = QQ
    have hsure : Sure QQ := by
     rw [← hQQ]
     intro c a a' w1 hd h
     simp +zetaDelta only [Exit.then, Exit.inBlock, bodyPost] at h ⊢
     first | (simp at h; done) | simpa [hd] using h
    refine treeQ_h hsure hS (i := 0) (by kernel_rfl) (by rfl) (by rfl) (by kernel_rfl) (by rfl) ?_
    apply Exists.intro
    apply And.intro
    ·rintro w' k1
     apply VR.mk
     go_simp
     with_reducible rfl
    simp only [List.setIfInBounds_toArray, List.set_cons_zero, List.set_cons_succ]
    refine treeQ_h hsure hS (i := 1) (by kernel_rfl) (by rfl) (by rfl) (by kernel_rfl) (by rfl) ?_
    apply Exists.intro
    apply And.intro
    ·rintro w' k1
     apply VR.mk
     go_simp
     with_reducible rfl
    simp only [List.setIfInBounds_toArray, List.set_cons_zero, List.set_cons_succ]
    refine treeQ_h hsure hS (i := 2) (by kernel_rfl) (by rfl) (by rfl) (by kernel_rfl) (by rfl) ?_
    apply Exists.intro
    apply And.intro
    ·rintro w' k1
     apply VR.mk
     go_simp
     with_reducible rfl
    simp only [List.setIfInBounds_toArray, List.set_cons_zero, List.set_cons_succ]
    refine treeQ_h hsure hS (i := 3) (by kernel_rfl) (by rfl) (by rfl) (by kernel_rfl) (by rfl) ?_
    apply Exists.intro
    apply And.intro
    ·rintro w' k1
     have hc := (Has.cell k1 i).trans (row_at i hi12)
     apply VR.mk
     go_simp
     with_reducible rfl
    simp only [List.setIfInBounds_toArray, List.set_cons_zero, List.set_cons_succ]
    refine treeQ_h hsure hS (i := 4) (by kernel_rfl) (by rfl) (by rfl) (by kernel_rfl) (by rfl) ?_
    apply Exists.intro
    apply And.intro
    ·rintro w' k1
     apply VR.mk
     go_simp
     refine (if_neg (by simp; omega)).trans ?_
     with_reducible rfl
    simp only [List.setIfInBounds_toArray, List.set_cons_zero, List.set_cons_succ]
    refine treeQ_h hsure hS (i := 5) (by kernel_rfl) (by rfl) (by rfl) (by kernel_rfl) (by rfl) ?_
    apply Exists.intro
    apply And.intro
    ·rintro w' k1
     apply VR.mk
     go_simp
     refine (if_neg (by simp; omega)).trans ?_
     with_reducible rfl
    simp only [List.setIfInBounds_toArray, List.set_cons_zero, List.set_cons_succ]
    refine treeQ_h hsure hS (i := 6) (by kernel_rfl) (by rfl) (by rfl) (by kernel_rfl) (by rfl) ?_
    apply Exists.intro
    apply And.intro
    ·rintro w' k1
     apply VR.mk
     go_simp
     with_reducible rfl
    simp only [List.setIfInBounds_toArray, List.set_cons_zero, List.set_cons_succ]
    refine treeQ_h hsure hS (i := 7) (by kernel_rfl) (by rfl) (by rfl) (by kernel_rfl) (by rfl) ?_
    apply Exists.intro
    apply And.intro
    ·rintro w' k1
     apply VR.mk
     go_simp
     with_reducible rfl
    simp only [List.setIfInBounds_toArray, List.set_cons_zero, List.set_cons_succ]
    refine treeQ_h hsure hS (i := 8) (by kernel_rfl) (by rfl) (by rfl) (by kernel_rfl) (by rfl) ?_
    apply Exists.intro
    apply And.intro
    ·rintro w' k1
     apply VR.mk
     go_simp
     with_reducible rfl
    simp only [List.setIfInBounds_toArray, List.set_cons_zero, List.set_cons_succ]
    refine treeQ_h hsure hS (i := 9) (by kernel_rfl) (by rfl) (by rfl) (by kernel_rfl) (by rfl) ?_
    apply Exists.intro
    apply And.intro
    ·rintro w' k1
     have hc := (Has.cell k1 k).trans (row_at k hk12)
     apply VR.mk
     go_simp
     with_reducible rfl
    simp only [List.setIfInBounds_toArray, List.set_cons_zero, List.set_cons_succ]
    refine treeQ_h hsure hS (i := 10) (by kernel_rfl) (by rfl) (by rfl) (by kernel_rfl) (by rfl) ?_
    apply Exists.intro
    apply And.intro
    ·rintro w' k1
     apply VR.mk
     go_simp
     refine (if_neg (by simp; omega)).trans ?_
     with_reducible rfl
    simp only [List.setIfInBounds_toArray, List.set_cons_zero, List.set_cons_succ]
    refine treeQ_h hsure hS (i := 11) (by kernel_rfl) (by rfl) (by rfl) (by kernel_rfl) (by rfl) ?_
    apply Exists.intro
    apply And.intro
    ·rintro w' k1
     apply VR.mk
     go_simp
     refine (if_neg (by simp; omega)).trans ?_
     with_reducible rfl
    simp only [List.setIfInBounds_toArray, List.set_cons_zero, List.set_cons_succ]
    rw [lo_str i k]
    refine treeQ_h hsure hS (i := 12) (by kernel_rfl) (by rfl) (by rfl) (by kernel_rfl) (by rfl) ?_
    apply Exists.intro
    apply And.intro
    ·rintro w' k1
     apply VR.mk
     go_simp
     with_reducible rfl
    simp only [List.setIfInBounds_toArray, List.set_cons_zero, List.set_cons_succ]
    refine tree_endQ (by kernel_rfl) ?_
    rw [← hQQ]
    clear hsure hQQ hS
    go_upto_region 8 with fail
    have hD := below_drew (Below.refl W7.heap.size W7)
    replace HS := Aside0.mk (HS.out.belowS hD)
    replace HL := Aside0.mk (HL.out.belowS hD)
    replace HZ := Aside0.mk (HZ.out.belowS hD)
    replace HV := Aside0.mk (HV.out.below hD)
    replace HB := Aside0.mk (below_then HB.out HB.out.size hD)
    clear hD
    obtain ⟨W8, hW⟩ : ∃ W, W7.drew = W := ⟨_, rfl⟩
    rw [hW] at HS HL HZ HV HB
    refine region_treeQ (by kernel_rfl) (fun w' => Has w' (w.heap.size + 1) #[.int .i64 1, .int .i64 2, .int .i64 3, .int .i64 3, .int .i64 4, .int .i64 5, .int .i64 6, .int .i64 7, .int .i64 8, .int .i64 8, .int .i64 9, .int .i64 9] 3) (hW ▸ HL.out) fun hS => ?_
    rw [hW] at hS ⊢
    clear hW
    generalize hQQ : Exit.then _ _ = QQ
    have hsure : Sure QQ := by
     rw [← hQQ]
     intro c a a' w1 hd h
     simp +zetaDelta only [Exit.then, Exit.inBlock, bodyPost] at h ⊢
     first | (simp at h; done) | simpa [hd] using h
    refine treeQ_h hsure hS (i := 0) (by kernel_rfl) (by rfl) (by rfl) (by kernel_rfl) (by rfl) ?_
    apply Exists.intro
    apply And.intro
    ·rintro w' k1
     apply VR.mk
     go_simp
     with_reducible rfl
    simp only [List.setIfInBounds_toArray, List.set_cons_zero, List.set_cons_succ]
    refine treeQ_h hsure hS (i := 1) (by kernel_rfl) (by rfl) (by rfl) (by kernel_rfl) (by rfl) ?_
    apply Exists.intro
    apply And.intro
    ·rintro w' k1
     apply VR.mk
     go_simp
     with_reducible rfl
    simp only [List.setIfInBounds_toArray, List.set_cons_zero, List.set_cons_succ]
    refine treeQ_h hsure hS (i := 2) (by kernel_rfl) (by rfl) (by rfl) (by kernel_rfl) (by rfl) ?_
    apply Exists.intro
    apply And.intro
    ·rintro w' k1
     apply VR.mk
     go_simp
     with_reducible rfl
    simp only [List.setIfInBounds_toArray, List.set_cons_zero, List.set_cons_succ]
    refine treeQ_h hsure hS (i := 3) (by kernel_rfl) (by rfl) (by rfl) (by kernel_rfl) (by rfl) ?_
    apply Exists.intro
    apply And.intro
    ·rintro w' k1
     have hc := (Has.cell k1 i).trans (lrow_at i hi12)
     apply VR.mk
     go_simp
     with_reducible rfl
    simp only [List.setIfInBounds_toArray, List.set_cons_zero, List.set_cons_succ]
    refine treeQ_h hsure hS (i := 4) (by kernel_rfl) (by rfl) (by rfl) (by kernel_rfl) (by rfl) ?_
    apply Exists.intro
    apply And.intro
    ·rintro w' k1
     apply VR.mk
     go_simp
     with_reducible rfl
    simp only [List.setIfInBounds_toArray, List.set_cons_zero, List.set_cons_succ]
    refine treeQ_h hsure hS (i := 5) (by kernel_rfl) (by rfl) (by rfl) (by kernel_rfl) (by rfl) ?_
    apply Exists.intro
    apply And.intro
    ·rintro w' k1
     apply VR.mk
     go_simp
     with_reducible rfl
    simp only [List.setIfInBounds_toArray, List.set_cons_zero, List.set_cons_succ]
    refine treeQ_h hsure hS (i := 6) (by kernel_rfl) (by rfl) (by rfl) (by kernel_rfl) (by rfl) ?_
    apply Exists.intro
    apply And.intro
    ·rintro w' k1
     apply VR.mk
     go_simp
     with_reducible rfl
    simp only [List.setIfInBounds_toArray, List.set_cons_zero, List.set_cons_succ]
    refine treeQ_h hsure hS (i := 7) (by kernel_rfl) (by rfl) (by rfl) (by kernel_rfl) (by rfl) ?_
    apply Exists.intro
    apply And.intro
    ·rintro w' k1
     have hc := (Has.cell k1 k).trans (lrow_at k hk12)
     apply VR.mk
     go_simp
     with_reducible rfl
    simp only [List.setIfInBounds_toArray, List.set_cons_zero, List.set_cons_succ]
    refine treeQ_h hsure hS (i := 8) (by kernel_rfl) (by rfl) (by rfl) (by kernel_rfl) (by rfl) ?_
    apply Exists.intro
    apply And.intro
    ·rintro w' k1
     apply VR.mk
     go_simp
     with_reducible rfl
    simp only [List.setIfInBounds_toArray, List.set_cons_zero, List.set_cons_succ]
    refine tree_endQ (by kernel_rfl) ?_
    rw [← hQQ]
    clear hsure hQQ hS
    obtain ⟨wl, hwl2⟩ : ∃ l, wantL i k = l := ⟨_, rfl⟩
    rw [hwl2] at HWT
    have HWL := Aside0.mk hwl2
    clear hwl2
    go_upto_if 87 with fail
    go_cut [12] (fun v12 wx => v12 = .string ⟨wl.toArray⟩ ∧ Aside0 (Below w.heap.size w wx) ∧ Aside0 (Has wx bx #[.int .i64 x.f0, .int .i64 x.f1, .int .i64 x.f2, .string x.f3, .slice a4 x.f4.length ac4, .slice a5 x.f5.length ac5, .int .i64 x.f6.f0, .string x.f6.f1, .int .i64 x.f6.f2, .slice a9 x.f6.f3.length ac9] 27) ∧ Aside0 (VE 0 wx (.agg #[.int .i64 x.f0, .int .i64 x.f1, .int .i64 x.f2, .string x.f3, .slice a4 x.f4.length ac4, .slice a5 x.f5.length ac5, .int .i64 x.f6.f0, .string x.f6.f1, .int .i64 x.f6.f2, .slice a9 x.f6.f3.length ac9]) x))
    case first =>
     by_cases hge : lvN i ≥ lvN k
     ·have kg : decide (lvN i ≥ lvN k) = true := decide_eq_true hge
      have kg2 : decide (lvN k ≤ lvN i) = true := decide_eq_true hge
      have hwl3 : wl = [40, 120, 32] ++ sgL i ++ [32, 121, 41, 32] ++ sgL k ++ [32, 122] := HWL.out.symm.trans (if_pos hge)
      go_upto_region 9 with fail
      have hD := below_drew (Below.refl W8.heap.size W8)
      replace HS := Aside0.mk (HS.out.belowS hD)
      replace HL := Aside0.mk (HL.out.belowS hD)
      replace HZ := Aside0.mk (HZ.out.belowS hD)
      replace HV := Aside0.mk (HV.out.below hD)
      replace HB := Aside0.mk (below_then HB.out HB.out.size hD)
      clear hD
      obtain ⟨W9, hW⟩ : ∃ W, W8.drew = W := ⟨_, rfl⟩
      rw [hW] at HS HL HZ HV HB
      refine region_treeQ (by kernel_rfl) (fun w' => Has w' w.heap.size #[.string ⟨#[124, 124]⟩, .string ⟨#[38, 38]⟩, .string ⟨#[61, 61]⟩, .string ⟨#[60]⟩, .string ⟨#[124]⟩, .string ⟨#[94]⟩, .string ⟨#[38]⟩, .string ⟨#[60, 60]⟩, .string ⟨#[43]⟩, .string ⟨#[45]⟩, .string ⟨#[42]⟩, .string ⟨#[37]⟩] 9) (hW ▸ HS.out) fun hS => ?_
      rw [hW] at hS ⊢
      clear hW
      generalize hQQ : Exit.then _ _ = QQ
      have hsure : Sure QQ := by
       rw [← hQQ]
       intro c a a' w1 hd h
       simp +zetaDelta only [Exit.then, Exit.inBlock, bodyPost] at h ⊢
       first | (simp at h; done) | simpa [hd] using h
      refine treeQ_h hsure hS (i := 0) (by kernel_rfl) (by rfl) (by rfl) (by kernel_rfl) (by rfl) ?_
      apply Exists.intro
      apply And.intro
      ·rintro w' k1
       apply VR.mk
       go_simp
       with_reducible rfl
      simp only [List.setIfInBounds_toArray, List.set_cons_zero, List.set_cons_succ]
      refine treeQ_h hsure hS (i := 1) (by kernel_rfl) (by rfl) (by rfl) (by kernel_rfl) (by rfl) ?_
      apply Exists.intro
      apply And.intro
      ·rintro w' k1
       apply VR.mk
       go_simp
       with_reducible rfl
      simp only [List.setIfInBounds_toArray, List.set_cons_zero, List.set_cons_succ]
      refine treeQ_h hsure hS (i := 2) (by kernel_rfl) (by rfl) (by rfl) (by kernel_rfl) (by rfl) ?_
      apply Exists.intro
      apply And.intro
      ·rintro w' k1
       apply VR.mk
       go_simp
       with_reducible rfl
      simp only [List.setIfInBounds_toArray, List.set_cons_zero, List.set_cons_succ]
      refine treeQ_h hsure hS (i := 3) (by kernel_rfl) (by rfl) (by rfl) (by kernel_rfl) (by rfl) ?_
      apply Exists.intro
      apply And.intro
      ·rintro w' k1
       have hc := (Has.cell k1 i).trans (row_at i hi12)
       apply VR.mk
       go_simp
       with_reducible rfl
      simp only [List.setIfInBounds_toArray, List.set_cons_zero, List.set_cons_succ]
      refine treeQ_h hsure hS (i := 4) (by kernel_rfl) (by rfl) (by rfl) (by kernel_rfl) (by rfl) ?_
      apply Exists.intro
      apply And.intro
      ·rintro w' k1
       apply VR.mk
       go_simp
       refine (if_neg (by simp; omega)).trans ?_
       with_reducible rfl
      simp only [List.setIfInBounds_toArray, List.set_cons_zero, List.set_cons_succ]
      refine treeQ_h hsure hS (i := 5) (by kernel_rfl) (by rfl) (by rfl) (by kernel_rfl) (by rfl) ?_
      apply Exists.intro
      apply And.intro
      ·rintro w' k1
       apply VR.mk
       go_simp
       refine (if_neg (by simp; omega)).trans ?_
       with_reducible rfl
      simp only [List.setIfInBounds_toArray, List.set_cons_zero, List.set_cons_succ]
      refine treeQ_h hsure hS (i := 6) (by kernel_rfl) (by rfl) (by rfl) (by kernel_rfl) (by rfl) ?_
      apply Exists.intro
      apply And.intro
      ·rintro w' k1
       apply VR.mk
       go_simp
       with_reducible rfl
      simp only [List.setIfInBounds_toArray, List.set_cons_zero, List.set_cons_succ]
      refine treeQ_h hsure hS (i := 7) (by kernel_rfl) (by rfl) (by rfl) (by kernel_rfl) (by rfl) ?_
      apply Exists.intro
      apply And.intro
      ·rintro w' k1
       apply VR.mk
       go_simp
       with_reducible rfl
      simp only [List.setIfInBounds_toArray, List.set_cons_zero, List.set_cons_succ]
      refine treeQ_h hsure hS (i := 8) (by kernel_rfl) (by rfl) (by rfl) (by kernel_rfl) (by rfl) ?_
      apply Exists.intro
      apply And.intro
      ·rintro w' k1
       apply VR.mk
       go_simp
       with_reducible rfl
      simp only [List.setIfInBounds_toArray, List.set_cons_zero, List.set_cons_succ]
      refine treeQ_h hsure hS (i := 9) (by kernel_rfl) (by rfl) (by rfl) (by kernel_rfl) (by rfl) ?_
      apply Exists.intro
      apply And.intro
      ·rintro w' k1
       have hc := (Has.cell k1 k).trans (row_at k hk12)
       apply VR.mk
       go_simp
       with_reducible rfl
      simp only [List.setIfInBounds_toArray, List.set_cons_zero, List.set_cons_succ]
      refine treeQ_h hsure hS (i := 10) (by kernel_rfl) (by rfl) (by rfl) (by kernel_rfl) (by rfl) ?_
      apply Exists.intro
      apply And.intro
      ·rintro w' k1
       apply VR.mk
       go_simp
       refine (if_neg (by simp; omega)).trans ?_
       with_reducible rfl
      simp only [List.setIfInBounds_toArray, List.set_cons_zero, List.set_cons_succ]
      refine treeQ_h hsure hS (i := 11) (by kernel_rfl) (by rfl) (by rfl) (by kernel_rfl) (by rfl) ?_
      apply Exists.intro
      apply And.intro
      ·rintro w' k1
       apply VR.mk
       go_simp
       refine (if_neg (by simp; omega)).trans ?_
       with_reducible rfl
      simp only [List.setIfInBounds_toArray, List.set_cons_zero, List.set_cons_succ]
      rw [hi_str i k, ← hwl3]
      refine treeQ_h hsure hS (i := 12) (by kernel_rfl) (by rfl) (by rfl) (by kernel_rfl) (by rfl) ?_
      apply Exists.intro
      apply And.intro
      ·rintro w' k1
       apply VR.mk
       go_simp
       with_reducible rfl
      simp only [List.setIfInBounds_toArray, List.set_cons_zero, List.set_cons_succ]
      refine tree_endQ (by kernel_rfl) ?_
      rw [← hQQ]
      go_wp2
      go_meet
      case rel => exact ⟨by rw [hwl3]; simp, HB, HZ, HV⟩
     ·have kg : decide (lvN i ≥ lvN k) = false := decide_eq_false hge
      have kg2 : decide (lvN k ≤ lvN i) = false := decide_eq_false hge
      have hwl3 : wl = [120, 32] ++ sgL i ++ [32, 40, 121, 32] ++ sgL k ++ [32, 122, 41] := HWL.out.symm.trans (if_neg hge)
      rw [← hwl3]
      go_wp2
      go_meet
      case rel => exact ⟨by rw [hwl3]; simp, HB, HZ, HV⟩
    case rest =>
     clear HB HZ HV HS HL
     obtain ⟨rfl, HB, HZ, HV⟩ := hcut
     obtain ⟨y, b, hy, p, q, hp, hq, hs⟩ : ∃ y b, treeX ⟨wl.toArray⟩ 100 = some (y, b, 0) ∧ ∃ p q, bareT x = some p ∧ bareT y = some q ∧ sameT p q = some true := by
      have h := HWT.out
      cases hy : treeX ⟨wl.toArray⟩ 100 with
      | none => rw [hy] at h; cases h
      | some r =>
       obtain ⟨y, b, f⟩ := r
       rw [hy] at h
       dsimp only at h
       rw [Bool.and_eq_true, decide_eq_true_eq] at h
       obtain ⟨rfl, h⟩ := h
       unfold bindsTwo at h
       refine ⟨y, b, rfl, ?_⟩
       cases hp : bareT x with
       | none => rw [hp] at h; cases h
       | some p =>
        cases hq : bareT y with
        | none => rw [hp, hq] at h; cases h
        | some q =>
         rw [hp, hq] at h
         dsimp only at h
         cases hs : sameT p q with
         | none => rw [hs] at h; cases h
         | some c =>
          rw [hs] at h
          obtain rfl : c = true := h
          exact ⟨p, q, rfl, rfl, hs⟩
     have HY := Aside0.mk hy
     have HP := Aside0.mk hp
     have HQ2 := Aside0.mk hq
     have HSM := Aside0.mk hs
     clear hy hp hq hs
     go_upto_region 11 with (
       go_at_call 8
       (with_reducible refine Calls.mono (tree_known HY.out _ (HTT.out.below HB.out)) ?_)
       rintro en w9 ⟨b4, bc4, b5, bc5, b9, bc9, rfl, hb9, hvy⟩
       replace HB := Aside0.mk (below_then HB.out HB.out.size hb9)
       replace HZ := Aside0.mk (HZ.out.belowS hb9)
       replace HV := Aside0.mk (HV.out.below hb9)
       have HVY := Aside0.mk hvy
       clear hb9 hvy)
     have ba := below_drew (below_alloc (Below.refl w9.heap.size w9) (Obj.cells #[.int .i64 y.f0, .int .i64 y.f1, .int .i64 y.f2, .string y.f3, .slice b4 y.f4.length bc4, .slice b5 y.f5.length bc5, .int .i64 y.f6.f0, .string y.f6.f1, .int .i64 y.f6.f2, .slice b9 y.f6.f3.length bc9] 27))
     have HYB := Aside0.mk ((Has.new w9 #[.int .i64 y.f0, .int .i64 y.f1, .int .i64 y.f2, .string y.f3, .slice b4 y.f4.length bc4, .slice b5 y.f5.length bc5, .int .i64 y.f6.f0, .string y.f6.f1, .int .i64 y.f6.f2, .slice b9 y.f6.f3.length bc9] 27).drewN 1)
     replace HB := Aside0.mk (below_then HB.out HB.out.size ba)
     replace HZ := Aside0.mk (HZ.out.belowS ba)
     replace HV := Aside0.mk (HV.out.below ba)
     replace HVY := Aside0.mk (HVY.out.below ba)
     clear ba
     obtain ⟨W, hW⟩ : ∃ W, (w9.alloc (Obj.cells #[.int .i64 y.f0, .int .i64 y.f1, .int .i64 y.f2, .string y.f3, .slice b4 y.f4.length bc4, .slice b5 y.f5.length bc5, .int .i64 y.f6.f0, .string y.f6.f1, .int .i64 y.f6.f2, .slice b9 y.f6.f3.length bc9] 27)).drew = W := ⟨_, rfl⟩
     have hW1 : (w9.alloc (Obj.cells #[.int .i64 y.f0, .int .i64 y.f1, .int .i64 y.f2, .string y.f3, .slice b4 y.f4.length bc4, .slice b5 y.f5.length bc5, .int .i64 y.f6.f0, .string y.f6.f1, .int .i64 y.f6.f2, .slice b9 y.f6.f3.length bc9] 27)).drewN 1 = W := hW
     rw [hW] at HB HZ HV HVY
     rw [hW1] at HYB
     clear hW1
     refine region_treeQ (by kernel_rfl) (fun w' => Has w' bx #[.int .i64 x.f0, .int .i64 x.f1, .int .i64 x.f2, .string x.f3, .slice a4 x.f4.length ac4, .slice a5 x.f5.length ac5, .int .i64 x.f6.f0, .string x.f6.f1, .int .i64 x.f6.f2, .slice a9 x.f6.f3.length ac9] 27 ∧ Has w' w9.heap.size #[.int .i64 y.f0, .int .i64 y.f1, .int .i64 y.f2, .string y.f3, .slice b4 y.f4.length bc4, .slice b5 y.f5.length bc5, .int .i64 y.f6.f0, .string y.f6.f1, .int .i64 y.f6.f2, .slice b9 y.f6.f3.length bc9] 27) (hW ▸ ⟨HZ.out, HYB.out⟩) fun hS => ?_
     rw [hW] at hS ⊢
     clear hW
     generalize hQQ : Exit.then _ _ = QQ
     have hsure : Sure QQ := by
      rw [← hQQ]
      intro c a a' w1 hd h
      simp +zetaDelta only [Exit.then, Exit.inBlock, bodyPost] at h ⊢
      first | (simp at h; done) | simpa [hd] using h
     refine treeQ_h hsure hS (i := 0) (by kernel_rfl) (by rfl) (by rfl) (by kernel_rfl) (by rfl) ?_
     apply Exists.intro
     apply And.intro
     ·rintro w' ⟨k1, k2⟩
      apply VR.mk
      go_simp
      with_reducible rfl
     simp only [List.setIfInBounds_toArray, List.set_cons_zero, List.set_cons_succ]
     refine treeQ_h hsure hS (i := 1) (by kernel_rfl) (by rfl) (by rfl) (by kernel_rfl) (by rfl) ?_
     apply Exists.intro
     apply And.intro
     ·rintro w' ⟨k1, k2⟩
      apply VR.mk
      go_simp
      with_reducible rfl
     simp only [List.setIfInBounds_toArray, List.set_cons_zero, List.set_cons_succ]
     refine treeQ_h hsure hS (i := 2) (by kernel_rfl) (by rfl) (by rfl) (by kernel_rfl) (by rfl) ?_
     apply Exists.intro
     apply And.intro
     ·rintro w' ⟨k1, k2⟩
      apply VR.mk
      go_simp
      with_reducible rfl
     simp only [List.setIfInBounds_toArray, List.set_cons_zero, List.set_cons_succ]
     refine treeQ_h hsure hS (i := 3) (by kernel_rfl) (by rfl) (by rfl) (by kernel_rfl) (by rfl) ?_
     apply Exists.intro
     apply And.intro
     ·rintro w' ⟨k1, k2⟩
      apply VR.mk
      go_simp
      with_reducible rfl
     simp only [List.setIfInBounds_toArray, List.set_cons_zero, List.set_cons_succ]
     refine treeQ_h hsure hS (i := 4) (by kernel_rfl) (by rfl) (by rfl) (by kernel_rfl) (by rfl) ?_
     apply Exists.intro
     apply And.intro
     ·rintro w' ⟨k1, k2⟩
      apply VR.mk
      go_simp
      with_reducible rfl
     simp only [List.setIfInBounds_toArray, List.set_cons_zero, List.set_cons_succ]
     refine treeQ_h hsure hS (i := 5) (by kernel_rfl) (by rfl) (by rfl) (by kernel_rfl) (by rfl) ?_
     apply Exists.intro
     apply And.intro
     ·rintro w' ⟨k1, k2⟩
      apply VR.mk
      go_simp
      with_reducible rfl
     simp only [List.setIfInBounds_toArray, List.set_cons_zero, List.set_cons_succ]
     refine treeQ_h hsure hS (i := 6) (by kernel_rfl) (by rfl) (by rfl) (by kernel_rfl) (by rfl) ?_
     apply Exists.intro
     apply And.intro
     ·rintro w' ⟨k1, k2⟩
      apply VR.mk
      go_simp
      with_reducible rfl
     simp only [List.setIfInBounds_toArray, List.set_cons_zero, List.set_cons_succ]
     refine treeQ_h hsure hS (i := 7) (by kernel_rfl) (by rfl) (by rfl) (by kernel_rfl) (by rfl) ?_
     refine ⟨.agg #[.int .i64 x.f0, .int .i64 x.f1, .int .i64 x.f2, .string x.f3, .slice a4 x.f4.length ac4, .slice a5 x.f5.length ac5, .int .i64 x.f6.f0, .string x.f6.f1, .int .i64 x.f6.f2, .slice a9 x.f6.f3.length ac9], fun w' kk => VR.mk (load27 w' _ _ kk.1 rfl _ _ _ rfl rfl), ?_⟩
     simp only [List.setIfInBounds_toArray, List.set_cons_zero, List.set_cons_succ]
     refine treeQ_h hsure hS (i := 9) (by kernel_rfl) (by rfl) (by rfl) (by kernel_rfl) (by rfl) ?_
     refine ⟨.agg #[.int .i64 y.f0, .int .i64 y.f1, .int .i64 y.f2, .string y.f3, .slice b4 y.f4.length bc4, .slice b5 y.f5.length bc5, .int .i64 y.f6.f0, .string y.f6.f1, .int .i64 y.f6.f2, .slice b9 y.f6.f3.length bc9], fun w' kk => VR.mk (load27 w' _ _ kk.2 rfl _ _ _ rfl rfl), ?_⟩
     simp only [List.setIfInBounds_toArray, List.set_cons_zero, List.set_cons_succ]
     refine tree_1Q (i := 8) (by kernel_rfl) ?_
     refine step_callQ (by rfl) (by rfl) (by rfl) (ER_go (by go_simp; first | with_reducible exact ⟨rfl, rfl⟩ | with_reducible rfl)) ?_
     refine (bare_said HP.out W HV.out).mono ?_
     rintro en w2 ⟨u, rfl, hu, hb2⟩
     replace HB := Aside0.mk (below_then HB.out HB.out.size hb2)
     replace HZ := Aside0.mk (HZ.out.belowS hb2)
     replace HYB := Aside0.mk (HYB.out.belowS hb2)
     refine .inl ⟨_, rfl, ⟨HZ.out, HYB.out⟩, ?_⟩
     simp only [List.setIfInBounds_toArray, List.set_cons_zero, List.set_cons_succ]
     refine tree_1Q (i := 10) (by kernel_rfl) ?_
     refine step_callQ (by rfl) (by rfl) (by rfl) (ER_go (by go_simp; first | with_reducible exact ⟨rfl, rfl⟩ | with_reducible rfl)) ?_
     refine (bare_said HQ2.out w2 (HVY.out.below hb2)).mono ?_
     rintro en w3 ⟨v, rfl, hv, hb3⟩
     replace HB := Aside0.mk (below_then HB.out HB.out.size hb3)
     replace HZ := Aside0.mk (HZ.out.belowS hb3)
     replace HYB := Aside0.mk (HYB.out.belowS hb3)
     refine .inl ⟨_, rfl, ⟨HZ.out, HYB.out⟩, ?_⟩
     simp only [List.setIfInBounds_toArray, List.set_cons_zero, List.set_cons_succ]
     refine tree_1Q (i := 11) (by kernel_rfl) ?_
     refine step_callQ (by rfl) (by rfl) (by rfl) (ER_go (by go_simp; first | with_reducible exact ⟨rfl, rfl⟩ | with_reducible rfl)) ?_
     refine (same_said HSM.out w3 (hu.below hb3) hv).mono ?_
     rintro en w4 ⟨rfl, hb4⟩
     replace HB := Aside0.mk (below_then HB.out HB.out.size hb4)
     replace HZ := Aside0.mk (HZ.out.belowS hb4)
     replace HYB := Aside0.mk (HYB.out.belowS hb4)
     refine .inl ⟨_, rfl, ⟨HZ.out, HYB.out⟩, ?_⟩
     simp only [List.setIfInBounds_toArray, List.set_cons_zero, List.set_cons_succ]
     have hl2 : ((x.f4.length : Int) == 2) = true := by rw [HLEN.out]; rfl
     refine treeQ_h hsure (And.intro HZ.out HYB.out) (i := 12) (by kernel_rfl) (by rfl) (by rfl) (by kernel_rfl) (by rfl) ?_
     apply Exists.intro
     apply And.intro
     ·rintro w' ⟨k1, k2⟩
      apply VR.mk
      go_simp
      with_reducible rfl
     simp only [List.setIfInBounds_toArray, List.set_cons_zero, List.set_cons_succ]
     refine treeQ_h hsure (And.intro HZ.out HYB.out) (i := 13) (by kernel_rfl) (by rfl) (by rfl) (by kernel_rfl) (by rfl) ?_
     apply Exists.intro
     apply And.intro
     ·rintro w' ⟨k1, k2⟩
      apply VR.mk
      go_simp
      with_reducible rfl
     simp only [List.setIfInBounds_toArray, List.set_cons_zero, List.set_cons_succ]
     refine treeQ_h hsure (And.intro HZ.out HYB.out) (i := 14) (by kernel_rfl) (by rfl) (by rfl) (by kernel_rfl) (by rfl) ?_
     apply Exists.intro
     apply And.intro
     ·rintro w' ⟨k1, k2⟩
      apply VR.mk
      go_simp
      with_reducible rfl
     simp only [List.setIfInBounds_toArray, List.set_cons_zero, List.set_cons_succ]
     refine treeQ_h hsure (And.intro HZ.out HYB.out) (i := 15) (by kernel_rfl) (by rfl) (by rfl) (by kernel_rfl) (by rfl) ?_
     apply Exists.intro
     apply And.intro
     ·rintro w' ⟨k1, k2⟩
      have cc0 := k1.cell 4
      simp only [List.getElem?_toArray, List.getElem?_cons_zero, List.getElem?_cons_succ] at cc0
      apply VR.mk
      go_simp
      with_reducible rfl
     simp only [List.setIfInBounds_toArray, List.set_cons_zero, List.set_cons_succ]
     refine treeQ_h hsure (And.intro HZ.out HYB.out) (i := 16) (by kernel_rfl) (by rfl) (by rfl) (by kernel_rfl) (by rfl) ?_
     apply Exists.intro
     apply And.intro
     ·rintro w' ⟨k1, k2⟩
      apply VR.mk
      go_simp
      with_reducible rfl
     simp only [List.setIfInBounds_toArray, List.set_cons_zero, List.set_cons_succ]
     refine treeQ_h hsure (And.intro HZ.out HYB.out) (i := 17) (by kernel_rfl) (by rfl) (by rfl) (by kernel_rfl) (by rfl) ?_
     apply Exists.intro
     apply And.intro
     ·rintro w' ⟨k1, k2⟩
      apply VR.mk
      go_simp
      with_reducible rfl
     simp only [List.setIfInBounds_toArray, List.set_cons_zero, List.set_cons_succ]
     refine treeQ_h hsure (And.intro HZ.out HYB.out) (i := 18) (by kernel_rfl) (by rfl) (by rfl) (by kernel_rfl) (by rfl) ?_
     apply Exists.intro
     apply And.intro
     ·rintro w' ⟨k1, k2⟩
      apply VR.mk
      go_simp
      with_reducible rfl
     simp only [List.setIfInBounds_toArray, List.set_cons_zero, List.set_cons_succ]
     refine treeQ_h hsure (And.intro HZ.out HYB.out) (i := 19) (by kernel_rfl) (by rfl) (by rfl) (by kernel_rfl) (by rfl) ?_
     apply Exists.intro
     apply And.intro
     ·rintro w' ⟨k1, k2⟩
      apply VR.mk
      go_simp
      with_reducible rfl
     simp only [List.setIfInBounds_toArray, List.set_cons_zero, List.set_cons_succ]
     refine tree_endQ (by kernel_rfl) ?_
     rw [← hQQ]
     go_wp2
     go_ret
     exact ⟨rfl, HB.out⟩
end Go.Proofs.YtngpgdmafmkddaaDoor.Tre
end
