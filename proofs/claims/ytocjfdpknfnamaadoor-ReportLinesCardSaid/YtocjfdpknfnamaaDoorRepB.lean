/- report.Outcome, walked. -/
import Derived.Test.YtocjfdpknfnamaaDoorRepA
namespace Go.Proofs.YtocjfdpknfnamaaDoor.Rep
open Go.Maps Go.RowKit Go.Proofs.YtocjfdpknfnamaaDoor.PReportPlaces Go.Proofs.YtocjfdpknfnamaaDoorW.PrintWords Go.Proofs.YtocjfdpknfnamaaDoorW.PrintLast Go.Proofs.YtocjfdpknfnamaaDoorW.PrintMore
set_option linter.unusedVariables false

def line (n : Int) : List UInt8 := Lib.itoa n ++ [10]
def lines (l : List Int) : List UInt8 := (l.map line).flatten
def okInt (n : Int) : Prop := -9223372036854775808 ≤ n ∧ n ≤ 9223372036854775807
theorem line_len (n : Int) (h : okInt n) : (line n).length ≤ 22 := by
  have := Lib.itoa_length_le n h.1 h.2
  simp [line]; omega
theorem lines_len : ∀ (l : List Int), (∀ n ∈ l, okInt n) → (lines l).length ≤ 22 * l.length := by
  intro l
  induction l with
  | nil => intro _; simp [lines]
  | cons n l ih =>
    intro h
    have h1 := line_len n (h n (by simp))
    have h2 := ih (fun m hm => h m (by simp [hm]))
    simp only [lines, List.map_cons, List.flatten_cons, List.length_append, List.length_cons] at h2 ⊢
    omega
theorem lines_snoc (l : List Int) (i : Nat) (hi : i < l.length) : lines (l.take (i + 1)) = lines (l.take i) ++ line (l.getD i 0) := by
  have e : l.take (i + 1) = l.take i ++ [l.getD i 0] := by
    rw [List.take_add_one]
    simp [List.getElem?_eq_getElem hi, List.getD_eq_getElem?_getD]
  rw [e]
  simp [lines]

theorem keep {T e : TypeId} {B b : Nat} {bs : List Value} {w w' : World} (h : Lib.IsBuilderF T e B b bs w) (hb : Below w.heap.size w w') : Lib.IsBuilderF T e B b bs w' := by
  have key : ∀ p, Lib.BuilderAtF T e B b p bs w → Lib.BuilderAtF T e B b p bs w' := by
    rintro p ⟨h1, v, h2, ⟨h3, h4⟩, h5⟩
    have lt : ∀ {g : Nat} {o : Obj}, w.heap[g]? = some o → g < w.heap.size := fun hg => (Array.getElem?_eq_some_iff.1 hg).1
    refine ⟨h1, v, (hb.block b (lt h2)).trans h2, ⟨h3, ?_⟩, h5⟩
    rcases h4 with h4 | ⟨g, cap, cur, fz, e1, e2, e3, r⟩
    · exact .inl h4
    · exact .inr ⟨g, cap, cur, fz, e1, e2, (hb.block g (lt e3)).trans e3, r⟩
  exact h.imp (key _) (key _)
def itoaB (n : Int) : ByteArray := ⟨(Lib.itoa n).toArray⟩
theorem itoaB_size (n : Int) (h : okInt n) : (itoaB n).size ≤ 21 := by
  have := Lib.itoa_length_le n h.1 h.2
  simp [itoaB, ByteArray.size]; exact this
theorem itoa_call (n : Int) (h : okInt n) (w : World) (hT : Tab w) {T e : TypeId} {B b : Nat} {bs : List Value} (hI : Lib.IsBuilderF T e B b bs w) :
    Calls Tryd.prog 17 #[.int .i64 n] w fun e_ w' => e_ = .returned (.string (itoaB n)) ∧ Lib.IsBuilderF T e B b bs w' ∧ Below w.heap.size w w' := by
  refine (Tryd.strconv_Itoa n h.1 h.2 w hT.here).mono ?_
  rintro e_ w' ⟨rfl, k, os, rfl⟩
  have hb : Below w.heap.size w (Go.Sort.grow (w.drewN k) os) := ⟨rfl, rfl, rfl, by simp [Go.Sort.grow, World.drewN], fun i hi => by simp [Go.Sort.grow, World.drewN, Array.getElem?_append, hi]⟩
  exact ⟨rfl, keep hI hb, hb⟩
theorem words_call (w : World) {T e : TypeId} {B b : Nat} {bs : List Value} (hI : Lib.IsBuilderF T e B b bs w) :
    Calls Tryd.prog 27 #[] w fun e_ w' => ∃ m, e_ = .returned (.map (some m)) ∧ w'.ownsMap Tryd.prog 3 E9 m 6 wordsD ∧ Lib.IsBuilderF T e B b bs w' ∧ Below w.heap.size w w' := by
  refine (words w).mono ?_
  rintro e_ w' ⟨m, rfl, h1, h2⟩
  exact ⟨m, rfl, h1, keep hI h2, h2⟩

/-! ### the outcome's word -/
def wordB (k : Int) : ByteArray :=
  if k = 0 then ⟨#[110, 111, 116, 32, 111, 118, 101, 114]⟩ else
  if k = 1 then ⟨#[101, 120, 105, 116]⟩ else
  if k = 2 then ⟨#[116, 111, 111, 32, 100, 101, 101, 112]⟩ else
  if k = 3 then ⟨#[110, 111, 32, 114, 111, 111, 109]⟩ else
  if k = 4 then ⟨#[116, 114, 97, 112]⟩ else
  if k = 5 then ⟨#[115, 116, 117, 99, 107]⟩ else ⟨#[]⟩
def known (k : Int) : Bool := decide (0 ≤ k ∧ k ≤ 5)
theorem wf_of (k : Int) (h : okInt k) : (Lit.int .i64 k).wf = true := by
  simp only [Lit.wf, Bool.and_eq_true, decide_eq_true_eq]; exact h
theorem words_at (k : Int) : wordsD.atKey (.int .i64 k) (.lit (.string [])) = .lit (.string (wordB k).data.toList) ∧ Maps.has wordsD (.int .i64 k) = known k := by
  have e : wordsD = .map [(.int .i64 0, str [110, 111, 116, 32, 111, 118, 101, 114]), (.int .i64 1, str [101, 120, 105, 116]), (.int .i64 2, str [116, 111, 111, 32, 100, 101, 101, 112]), (.int .i64 3, str [110, 111, 32, 114, 111, 111, 109]), (.int .i64 4, str [116, 114, 97, 112]), (.int .i64 5, str [115, 116, 117, 99, 107])] := by kernel_rfl
  rw [e]
  by_cases hk : 0 ≤ k ∧ k ≤ 5
  · have h6 : k = 0 ∨ k = 1 ∨ k = 2 ∨ k = 3 ∨ k = 4 ∨ k = 5 := by omega
    rcases h6 with rfl | rfl | rfl | rfl | rfl | rfl <;> exact ⟨rfl, rfl⟩
  · have hn : ∀ j : Int, 0 ≤ j → j ≤ 5 → ¬ j = k := fun j h1 h2 h => hk (by omega)
    have e2 : known k = false := decide_eq_false hk
    rw [e2]
    constructor
    · simp [DataW.atKey, Lit.sameKey, hn, wordB, show ∀ j : Int, 0 ≤ j → j ≤ 5 → ¬ k = j from fun j h1 h2 h => hn j h1 h2 h.symm]
    · simp [Maps.has, Lit.sameKey, hn]
theorem wpList_word (w : World) {ops : Array Oper} {rest : List Oper} {o : Oper} {a : Act} {Q : Exit → Act → World → Prop} (hg : o.guard = none) (m x : Operand) (hop : o.op = Op.lookup 59 m x true) (b : Nat)
    (hm : a.eval m = .map (some b)) (hown : w.ownsMap Tryd.prog 3 E9 b 6 wordsD) (k : Int) (hx : a.eval x = .int .i64 k) (hk : okInt k)
    (hK : wpList Tryd.prog ops Q rest (a.put o.dst (.tuple #[.string (wordB k), .bool (known k)])) w) :
    wpList Tryd.prog ops Q (o :: rest) a w := by
  refine wpList_lookup_own_ok w hg m x 59 hop 3 9 law3 Tryd.underlying59 E9 (z := .string ByteArray.empty) (by kernel_rfl) (.lit (.string [])) [] (plainElem_string Tryd.underlying9 (by decide)) b 6 wordsD hm hown (.int .i64 k) (.int .i64 k) hx (keyOf_int_mk Tryd.underlying3 (wf_of k hk)) ?_
  intro v ps hv
  rw [(words_at k).1] at hv
  rw [(words_at k).2]
  obtain ⟨s, rfl, h1, h2⟩ := plainElem_string_inv Tryd.underlying9 hv
  have e : s = wordB k := by
    have h3 := congrArg Prod.fst h1
    simp only [DataW.lit.injEq, Lit.string.injEq] at h3
    exact (ByteArray.ext (Array.ext' h3)).symm
  subst e
  exact hK
theorem word_run (w : World) (b : Nat) (hown : w.ownsMap Tryd.prog 3 E9 b 6 wordsD) (k : Int) (hk : okInt k) :
    (Instr.lookup 59 (.map (some b)) (.int .i64 k) true).run Tryd.prog w = .ok (.tuple #[.string (wordB k), .bool (known k)]) w := by
  obtain ⟨v, ps, hrun, hv⟩ := hown.look_ok law3 Tryd.underlying59 (z := .string ByteArray.empty) (by kernel_rfl) (zd := .lit (.string [])) (zp := []) (plainElem_string Tryd.underlying9 (by decide)) (keyOf_int_mk Tryd.underlying3 (wf_of k hk))
  rw [(words_at k).1] at hv
  rw [(words_at k).2] at hrun
  obtain ⟨s, rfl, h1, h2⟩ := plainElem_string_inv Tryd.underlying9 hv
  have e : s = wordB k := by
    have h3 := congrArg Prod.fst h1
    simp only [DataW.lit.injEq, Lit.string.injEq] at h3
    exact (ByteArray.ext (Array.ext' h3)).symm
  subst e
  exact hrun
end Go.Proofs.YtocjfdpknfnamaaDoor.Rep
