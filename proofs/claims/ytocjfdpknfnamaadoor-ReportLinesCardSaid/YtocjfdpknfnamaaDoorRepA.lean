/- strings.Builder's WriteString at this program (its own closure does not name all that the shelf's laying asks: the laying is cut out of that of strings.Join); and report.Outcome, walked. -/
import Derived.Test.YtocjfdpknfnamaaDoorPReportPlacesx0
import Derived.Test.YtocjfdpknfnamaaDoorShelf
import Derived.Lib.AppendIntMem
import Derived.Lib.ItoaLen
import Derived.Maps.OwnSet
import Derived.WalkSpells
import Derived.WalkKit
import Derived.ProofKit
namespace Go.Proofs
theorem Tryd.lays166w : Lays.n166 Tryd.prog Tryd.lays156_ren := {
  mixed := Tryd.lays156.mixed
  f166 := Tryd.lays156.f166
  f240 := Tryd.lays156.f240
  f276 := Tryd.lays156.f276
  t0 := Tryd.lays156.t0
  a0 := Tryd.lays156.a0
  z0 := Tryd.lays156.z0
  v0 := Tryd.lays156.v0
  t3 := Tryd.lays156.t3
  a3 := Tryd.lays156.a3
  z3 := Tryd.lays156.z3
  v3 := Tryd.lays156.v3
  t4 := Tryd.lays156.t4
  a4 := Tryd.lays156.a4
  z4 := Tryd.lays156.z4
  v4 := Tryd.lays156.v4
  t9 := Tryd.lays156.t9
  a9 := Tryd.lays156.a9
  z9 := Tryd.lays156.z9
  v9 := Tryd.lays156.v9
  t20 := Tryd.lays156.t20
  a20 := Tryd.lays156.a20
  z20 := Tryd.lays156.z20
  v20 := Tryd.lays156.v20
  t37 := Tryd.lays156.t37
  a37 := Tryd.lays156.a37
  z37 := Tryd.lays156.z37
  v37 := Tryd.lays156.v37
  t70 := Tryd.lays156.t70
  a70 := Tryd.lays156.a70
  z70 := Tryd.lays156.z70
  v70 := Tryd.lays156.v70
  t72 := Tryd.lays156.t72
  a72 := Tryd.lays156.a72
  z72 := Tryd.lays156.z72
  v72 := Tryd.lays156.v72
  t75 := Tryd.lays156.t75
  a75 := Tryd.lays156.a75
  z75 := Tryd.lays156.z75
  v75 := Tryd.lays156.v75
  t164 := Tryd.lays156.t164
  a164 := Tryd.lays156.a164
  z164 := Tryd.lays156.z164
  v164 := Tryd.lays156.v164 }
open Go.RowKit in
theorem Tryd.WriteString (B b : Nat) (bs : List Value) (s : ByteArray) (w : World) (h : Lib.IsBuilderF 52 5 B b bs w) (hlen : bs.length + s.size ≤ 140737488355328) (hBw : B ≤ w.heap.size) :
    Calls Tryd.prog 26 #[.pointer (some ⟨b, 0, none⟩), .string s] w fun e w' => e = .returned (.tuple #[.int .i64 s.size, .nilIface]) ∧ (Lib.BuilderAtF 52 5 B b (.pointer (some ⟨b, 0, none⟩)) (bs ++ Lib.strCells s) w' ∧ Below B w w' ∧ Lib.OthersKept 5 (some b) w w') := Any.Builder_WriteString_k Tryd.lays166w Tryd.Builder_Extra_156 B b bs s w h hlen hBw
end Go.Proofs
namespace Go.Proofs.YtocjfdpknfnamaaDoor.Rep
open Go.Maps Go.RowKit Go.Proofs.YtocjfdpknfnamaaDoor.PReportPlaces Go.Proofs.YtocjfdpknfnamaaDoorW.PrintWords Go.Proofs.YtocjfdpknfnamaaDoorW.PrintLast Go.Proofs.YtocjfdpknfnamaaDoorW.PrintMore
set_option linter.unusedVariables false

abbrev Tab (w : World) : Prop := Lib.TabBelow Tryd.prog w.heap.size w "internal/strconv.uint64pow10" .u64 Lib.pow10Tab
theorem Tab.below {w w' : World} (h : Tab w) (hb : Below w.heap.size w w') : Tab w' := Lib.tabBelow_of_tabIs (h w' hb)
theorem wpList_insert_own {H : Type} {P : Program} (w : World) {ops : Array Oper} {rest : List Oper} {o : Oper} {a : Act} {Q : Exit → Act → World → Prop}
    (hg : o.guard = none) (m x v : Operand) (t : TypeId) (hop : o.op = Op.insert t m x v)
    (k e : TypeId) (K : Keyed P k) (ht : P.underlying t = some (.map k e)) (R : Value → Option (DataW H × List MemPlace)) (b n : Nat) (D : DataW H)
    (hm : a.eval m = .map (some b)) (hown : w.ownsMap P k R b n D) (hn : n < maxLen) (key val : Value) (kl : Lit) (hx : a.eval x = key) (hv : a.eval v = val) (hkey : keyOf P k key = some kl)
    (d : DataW H) (ps : List MemPlace) (hval : R val = some (d, ps))
    (hK : ∀ w', w'.ownsMap P k R b (n + 1) (D.put kl d) → w.grownBy w' (some b) → wpList P ops Q rest (a.put o.dst undef) w') :
    wpList P ops Q (o :: rest) a w := by
  refine wpList_plain hg fun K' hK' => ?_
  obtain ⟨w', hrun, r1, r2⟩ := hown.update K ht hn hkey hval
  unfold Oper.wp
  simp [execOp, hop, hm, hx, hv, hrun, Result.andThen]
  exact hK' _ _ (hK w' r1 r2)
noncomputable abbrev E9 : Value → Option (DataW Unit × List MemPlace) := plainElem Tryd.prog 9
abbrev str (l : List UInt8) : DataW Unit := .lit (.string l)
noncomputable def wordsD : DataW Unit := ((((((DataW.map []).put (.int .i64 0) (str [110, 111, 116, 32, 111, 118, 101, 114])).put (.int .i64 1) (str [101, 120, 105, 116])).put (.int .i64 2) (str [116, 111, 111, 32, 100, 101, 101, 112])).put (.int .i64 3) (str [110, 111, 32, 114, 111, 111, 109])).put (.int .i64 4) (str [116, 114, 97, 112])).put (.int .i64 5) (str [115, 116, 117, 99, 107])
theorem law3 : Keyed Tryd.prog 3 := int_keyed Tryd.underlying3
set_option maxRecDepth 100000 in
theorem words (w : World) :
    Calls Tryd.prog 27 #[] w fun e w' => ∃ b, e = .returned (.map (some b)) ∧ w'.ownsMap Tryd.prog 3 E9 b 6 wordsD ∧ Below w.heap.size w w' := by
  have hmm := @run_makeMap Tryd.prog
  go_enter Tryd.func27, Tryd.ntmps27
  go_wp2_with (first | (with_reducible refine wpList_insert_own _ rfl (.tmp 1) (.const (.int .i64 0)) (.const (.string ⟨#[110, 111, 116, 32, 111, 118, 101, 114]⟩)) 59 rfl 3 9 law3 Tryd.underlying59 E9 w.heap.size _ _ rfl (World.ownsMap_made w Tryd.prog 3 E9) (by decide) (.int .i64 0) (.string ⟨#[110, 111, 116, 32, 111, 118, 101, 114]⟩) _ rfl rfl (keyOf_int_mk Tryd.underlying3 (by decide)) (.lit (.string [110, 111, 116, 32, 111, 118, 101, 114])) [] (plainElem_string Tryd.underlying9 (by decide)) ?_; intro w1 h1 b1) | (with_reducible refine wpList_insert_own _ rfl (.tmp 1) (.const (.int .i64 1)) (.const (.string ⟨#[101, 120, 105, 116]⟩)) 59 rfl 3 9 law3 Tryd.underlying59 E9 w.heap.size _ _ rfl h1 (by decide) (.int .i64 1) (.string ⟨#[101, 120, 105, 116]⟩) _ rfl rfl (keyOf_int_mk Tryd.underlying3 (by decide)) (.lit (.string [101, 120, 105, 116])) [] (plainElem_string Tryd.underlying9 (by decide)) ?_; intro w2 h2 b2) | (with_reducible refine wpList_insert_own _ rfl (.tmp 1) (.const (.int .i64 2)) (.const (.string ⟨#[116, 111, 111, 32, 100, 101, 101, 112]⟩)) 59 rfl 3 9 law3 Tryd.underlying59 E9 w.heap.size _ _ rfl h2 (by decide) (.int .i64 2) (.string ⟨#[116, 111, 111, 32, 100, 101, 101, 112]⟩) _ rfl rfl (keyOf_int_mk Tryd.underlying3 (by decide)) (.lit (.string [116, 111, 111, 32, 100, 101, 101, 112])) [] (plainElem_string Tryd.underlying9 (by decide)) ?_; intro w3 h3 b3) | (with_reducible refine wpList_insert_own _ rfl (.tmp 1) (.const (.int .i64 3)) (.const (.string ⟨#[110, 111, 32, 114, 111, 111, 109]⟩)) 59 rfl 3 9 law3 Tryd.underlying59 E9 w.heap.size _ _ rfl h3 (by decide) (.int .i64 3) (.string ⟨#[110, 111, 32, 114, 111, 111, 109]⟩) _ rfl rfl (keyOf_int_mk Tryd.underlying3 (by decide)) (.lit (.string [110, 111, 32, 114, 111, 111, 109])) [] (plainElem_string Tryd.underlying9 (by decide)) ?_; intro w4 h4 b4) | (with_reducible refine wpList_insert_own _ rfl (.tmp 1) (.const (.int .i64 4)) (.const (.string ⟨#[116, 114, 97, 112]⟩)) 59 rfl 3 9 law3 Tryd.underlying59 E9 w.heap.size _ _ rfl h4 (by decide) (.int .i64 4) (.string ⟨#[116, 114, 97, 112]⟩) _ rfl rfl (keyOf_int_mk Tryd.underlying3 (by decide)) (.lit (.string [116, 114, 97, 112])) [] (plainElem_string Tryd.underlying9 (by decide)) ?_; intro w5 h5 b5) | (with_reducible refine wpList_insert_own _ rfl (.tmp 1) (.const (.int .i64 5)) (.const (.string ⟨#[115, 116, 117, 99, 107]⟩)) 59 rfl 3 9 law3 Tryd.underlying59 E9 w.heap.size _ _ rfl h5 (by decide) (.int .i64 5) (.string ⟨#[115, 116, 117, 99, 107]⟩) _ rfl rfl (keyOf_int_mk Tryd.underlying3 (by decide)) (.lit (.string [115, 116, 117, 99, 107])) [] (plainElem_string Tryd.underlying9 (by decide)) ?_; intro w6 h6 b6))
  go_ret
  have hs0 : w.heap.size ≤ (w.alloc (Obj.map #[] 0)).heap.size := by rw [World.size_alloc]; omega
  have g0 : Below w.heap.size w (w.alloc (Obj.map #[] 0)) := below_alloc (Below.refl _ _) _
  have g1 := pw_below_grown g0 _ hs0 b1 (by rintro k ⟨⟩; exact Nat.le_refl _)
  have g2 := pw_below_grown g1 _ g1.size b2 (by rintro k ⟨⟩; exact Nat.le_refl _)
  have g3 := pw_below_grown g2 _ g2.size b3 (by rintro k ⟨⟩; exact Nat.le_refl _)
  have g4 := pw_below_grown g3 _ g3.size b4 (by rintro k ⟨⟩; exact Nat.le_refl _)
  have g5 := pw_below_grown g4 _ g4.size b5 (by rintro k ⟨⟩; exact Nat.le_refl _)
  have g6 := pw_below_grown g5 _ g5.size b6 (by rintro k ⟨⟩; exact Nat.le_refl _)
  exact ⟨w.heap.size, rfl, h6, g6⟩

/-! ### a line -/
theorem line_call (b : Nat) (l : List UInt8) (s : ByteArray) (w : World) (h : Lib.IsBuilderF 52 5 b b (Lib.byteCells l) w) (hb : b ≤ w.heap.size) (hlen : l.length + (s.size + 1) ≤ 140737488355328) :
    Calls Tryd.prog 25 #[.string s, .pointer (some ⟨b, 0, none⟩)] w fun e w' => e = .returned (.tuple #[]) ∧ Lib.IsBuilderF 52 5 b b (Lib.byteCells (l ++ (s.data.toList ++ [10]))) w' ∧ Below b w w' := by
  have H := Aside0.mk h
  have HB := Aside0.mk hb
  have HL := Aside0.mk hlen
  have hz : s.size + 1 ≤ 9223372036854775807 := by omega
  clear h hb hlen
  go_enter Tryd.func25, Tryd.ntmps25
  go_wp2_with (go_at_call 26; (refine (Tryd.WriteString b b _ _ _ H.out ?side1 HB.out).mono ?_); (case side1 => have := HL.out; rw [Lib.byteCells_length, ByteArray.size_append]; exact this); rintro e w2 ⟨rfl, h1, h2, h3⟩)
  refine bodyPost_end (v := .tuple #[]) ?_ rfl ⟨rfl, Or.inr ?_, h2⟩
  · first | (simp [results, Tryd.results25, go_sem]; done) | (simp [results, Tryd.f25, go_sem])
  rw [Lib.byteCells_append]
  have e : Lib.byteCells (s.data.toList ++ [10]) = Lib.strCells (s ++ ⟨#[10]⟩) := by simp [Lib.byteCells, Lib.strCells]
  rw [e]
  exact h1
end Go.Proofs.YtocjfdpknfnamaaDoor.Rep
