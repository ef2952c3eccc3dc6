/- The plain law of FoldPlain: what the walks come to is true, whatever the functions are. -/
import Derived.Test.YtocjfdpknfnamaaQFoldPlain5
namespace Go.Proofs.Ytocjfdpknfnamaa.Fold
open Go.RowKit Go.Proofs.Ytocjfdpknfnamaa.QFoldPlain Go.Proofs.YtocjfdpknfnamaaW.PrintWords Go.Proofs.YtocjfdpknfnamaaW.PrintLast Go.Proofs.YtocjfdpknfnamaaW.PrintMore
set_option linter.unusedVariables false

def hit (k : Int) (p : S67) : Bool := p.f0 == k && own p
def badI (k : Int) (i : S69) : Bool := (places i).any (hit k)
def badL (k : Int) (l : List S69) : Bool := l.any (badI k)
def badB (k : Int) (l : List S61) : Bool := l.any fun b => badL k b.f0

theorem made_is (p : S67) (k : Int) : ferruleref15_made.f p.f0 p.f1 k = some (hit k p) := by
  unfold ferruleref15_made.f hit own
  by_cases h : p.f0 = k
  · rw [if_pos h]
    by_cases h0 : (p.f1.length : Int) = 0
    · rw [if_pos h0]
      have : p.f1.length = 0 := by omega
      simp [h, this]
    · rw [if_neg h0, if_pos (by omega)]
      have : (p.f1.length == 0) = false := beq_eq_false_iff_ne.2 (by omega)
      simp [h, this]
  · rw [if_neg h]; simp [h]

/-! ### what is off -/
theorem off_get (L : List Bool) (p : S67) (k : Nat) : (off L p)[k]? = L[k]?.map fun v => v && !(hit (k : Int) p) := by
  unfold off hit
  by_cases ho : own p = true
  · by_cases h0 : 0 ≤ p.f0
    · by_cases h1 : p.f0 < (L.length : Int)
      · rw [if_pos (by simp [ho, h0, h1])]
        by_cases hk : p.f0.toNat = k
        · subst hk
          rw [List.getElem?_set_self (by omega), List.getElem?_eq_getElem (by omega)]
          have : (p.f0 == ((p.f0.toNat : Nat) : Int)) = true := beq_iff_eq.2 (by omega)
          simp only [this, ho, Bool.and_true, Bool.not_true, Bool.and_false, Option.map_some]
        · rw [List.getElem?_set_ne hk]
          have : (p.f0 == (k : Int)) = false := beq_eq_false_iff_ne.2 (by omega)
          simp only [this, Bool.false_and, Bool.not_false, Bool.and_true, Option.map_id_fun', id]
      · rw [if_neg (by simp [h1])]
        cases hL : L[k]? with
        | none => rfl
        | some v =>
          have := (List.getElem?_eq_some_iff.1 hL).1
          have : (p.f0 == (k : Int)) = false := beq_eq_false_iff_ne.2 (by omega)
          simp [this]
    · rw [if_neg (by simp [h0])]
      have : (p.f0 == (k : Int)) = false := beq_eq_false_iff_ne.2 (by omega)
      simp [this]
  · rw [if_neg (by simp [ho])]
    simp [ho]
theorem offP_get (k : Nat) (l : List S67) : ∀ L : List Bool, (offP L l)[k]? = L[k]?.map fun v => v && !(l.any (hit (k : Int))) := by
  induction l with
  | nil => intro L; simp [offP]
  | cons p l ih =>
    intro L
    show (offP (off L p) l)[k]? = _
    rw [ih, off_get]
    cases L[k]? with
    | none => rfl
    | some v => simp [Bool.and_assoc]
theorem offI_get (k : Nat) (l : List S69) : ∀ L : List Bool, (offI L l)[k]? = L[k]?.map fun v => v && !(badL (k : Int) l) := by
  induction l with
  | nil => intro L; simp [offI, badL]
  | cons p l ih =>
    intro L
    show (offI (offP L (places p)) l)[k]? = _
    rw [ih, offP_get]
    cases L[k]? with
    | none => rfl
    | some v => simp [badL, badI, Bool.and_assoc]
theorem offB_get (k : Nat) (l : List S61) : ∀ L : List Bool, (offB L l)[k]? = L[k]?.map fun v => v && !(badB (k : Int) l) := by
  induction l with
  | nil => intro L; simp [offB, badB]
  | cons p l ih =>
    intro L
    show (offB (offI L p.f0) l)[k]? = _
    rw [ih, offI_get]
    cases L[k]? with
    | none => rfl
    | some v => simp [badB, Bool.and_assoc]

/-! ### the reference's loops -/
section
variable (nm : ByteArray) (locals : List Int) (p2 p3 : Int) (p4 : Bool) (bs : List S61)
theorem wrap_up {i : Int} {n : Nat} (h0 : 0 ≤ i) (h : i < n) (hn : n ≤ 9223372036854775807) : wrap64 (i + 1) = i + 1 := by unfold wrap64; omega

theorem l2_step (k : Nat) (out : List Bool) (x : Int) (ok : Bool) (b : Int) (l : List S69) (j : Int) (h0 : 0 ≤ j) (h : j < l.length) (hl : l.length ≤ 9223372036854775807) :
    ferruleref15_Plain.l2 (k + 2) out x ok b l j nm locals p2 p3 p4 bs = ferruleref15_Plain.l2 k out x (ok && !(badI x (rd_T69 l j))) b l (j + 1) nm locals p2 p3 p4 bs := by
  have hw := wrap_up h0 h hl
  simp only [ferruleref15_Plain.l2]
  rw [if_pos h, if_pos h0]
  simp only [ferruleref15_Plain.j3]
  rw [if_pos h0, if_pos h, hw, made_is, made_is]
  simp only [Option.bind_some]
  have hb : badI x (rd_T69 l j) = (places (rd_T69 l j)).any (hit x) := rfl
  rw [hb]
  unfold places
  generalize rd_T69 l j = i
  by_cases h3 : i.f0 = 3
  · cases hh : hit x i.f4 <;> simp [h3, hh]
  by_cases h4 : i.f0 = 4
  · cases hh : hit x i.f4 <;> simp [h4, hh]
  by_cases h5 : i.f0 = 5
  · cases hh : hit x i.f4 <;> cases h2 : hit x i.f5 <;> simp [h5, hh, h2]
  by_cases h6 : i.f0 = 6
  · cases hh : hit x i.f4 <;> simp [h6, hh]
  by_cases h9 : i.f0 = 9
  · cases hh : hit x i.f4 <;> simp [h9, hh]
  · simp [h3, h4, h5, h6, h9, h0, h]

theorem l2_ends (out : List Bool) (x b : Int) (l : List S69) (hl : l.length ≤ 9223372036854775807) (r : List Bool) (d : Nat) : ∀ (j : Nat) (ok : Bool), j + d = l.length →
    (∃ k, ferruleref15_Plain.l1 k out x (ok && !(badL x (l.drop j))) (wrap64 (b + 1)) nm locals p2 p3 p4 bs = some r) → ∃ k, ferruleref15_Plain.l2 k out x ok b l (j : Int) nm locals p2 p3 p4 bs = some r := by
  induction d with
  | zero =>
    intro j ok hj ⟨k, hk⟩
    rw [List.drop_of_length_le (by omega)] at hk
    refine ⟨k + 1, ?_⟩
    simp only [ferruleref15_Plain.l2]
    rw [if_neg (by omega)]
    simpa [badL] using hk
  | succ d ih =>
    intro j ok hj hk
    have hlt : j < l.length := by omega
    have hg : rd_T69 l (j : Int) = l[j] := by unfold rd_T69; rw [Int.toNat_natCast, List.getD_eq_getElem?_getD, List.getElem?_eq_getElem hlt]; rfl
    have h2 := ih (j + 1) (ok && !(badI x (rd_T69 l (j : Int)))) (by omega) (by
      obtain ⟨k, hk⟩ := hk
      refine ⟨k, ?_⟩
      have e : badL x (l.drop j) = (badI x l[j] || badL x (l.drop (j + 1))) := by rw [List.drop_eq_getElem_cons hlt]; rfl
      rw [hg, Bool.and_assoc, ← Bool.not_or, ← e]
      exact hk)
    obtain ⟨k, hk2⟩ := h2
    refine ⟨k + 2, ?_⟩
    rw [l2_step nm locals p2 p3 p4 bs k out x ok b l (j : Int) (by omega) (by omega) hl]
    exact hk2

theorem l1_ends (hbs : bs.length ≤ 9223372036854775807) (hin : ∀ b : Nat, b < bs.length → (rd_T61 bs (b : Int)).f0.length ≤ 9223372036854775807) (out : List Bool) (ho : out.length < 140737488355328) (x : Int) (r : List Bool) (d : Nat) : ∀ (b : Nat) (ok : Bool), b + d = bs.length →
    (∃ k, ferruleref15_Plain.l0 k (out ++ [ok && !(badB x (bs.drop b))]) (wrap64 (x + 1)) nm locals p2 p3 p4 bs = some r) → ∃ k, ferruleref15_Plain.l1 k out x ok (b : Int) nm locals p2 p3 p4 bs = some r := by
  induction d with
  | zero =>
    intro b ok hb ⟨k, hk⟩
    rw [List.drop_of_length_le (by omega)] at hk
    refine ⟨k + 1, ?_⟩
    simp only [ferruleref15_Plain.l1]
    rw [if_neg (by omega), if_pos ho]
    simpa [badB] using hk
  | succ d ih =>
    intro b ok hb hk
    have hlt : b < bs.length := by omega
    have hg : rd_T61 bs (b : Int) = bs[b] := by unfold rd_T61; rw [Int.toNat_natCast, List.getD_eq_getElem?_getD, List.getElem?_eq_getElem hlt]; rfl
    have h1 := ih (b + 1) (ok && !(badL x (rd_T61 bs (b : Int)).f0)) (by omega) (by
      obtain ⟨k, hk⟩ := hk
      refine ⟨k, ?_⟩
      have e : badB x (bs.drop b) = (badL x bs[b].f0 || badB x (bs.drop (b + 1))) := by rw [List.drop_eq_getElem_cons hlt]; rfl
      rw [hg, Bool.and_assoc, ← Bool.not_or, ← e]
      exact hk)
    have hw : wrap64 ((b : Int) + 1) = ((b + 1 : Nat) : Int) := by unfold wrap64; omega
    obtain ⟨k, h2⟩ := l2_ends nm locals p2 p3 p4 bs out x (b : Int) (rd_T61 bs (b : Int)).f0 (hin b hlt) r (rd_T61 bs (b : Int)).f0.length 0 ok (by omega) (by rw [hw, List.drop_zero]; exact h1)
    refine ⟨k + 1, ?_⟩
    simp only [ferruleref15_Plain.l1]
    rw [if_pos (by omega), if_pos (by omega)]
    exact h2

/-- The reference's row, from local i on. -/
def refRow (i : Nat) : List Bool := (locals.drop i).zipIdx i |>.map fun y => (y.1 == 1) && !(badB (y.2 : Int) bs)
theorem l0_ends (hlo : locals.length ≤ 200) (hbs : bs.length ≤ 9223372036854775807) (hin : ∀ b : Nat, b < bs.length → (rd_T61 bs (b : Int)).f0.length ≤ 9223372036854775807) (d : Nat) : ∀ (i : Nat) (out : List Bool), i + d = locals.length → out.length = i →
    ∃ k, ferruleref15_Plain.l0 k out (i : Int) nm locals p2 p3 p4 bs = some (out ++ refRow locals bs i) := by
  induction d with
  | zero =>
    intro i out hi hol
    refine ⟨1, ?_⟩
    simp only [ferruleref15_Plain.l0]
    rw [if_neg (by omega)]
    unfold refRow
    rw [List.drop_of_length_le (by omega)]
    simp
  | succ d ih =>
    intro i out hi hol
    have hlt : i < locals.length := by omega
    have hg : rd locals (i : Int) = locals[i] := by unfold rd; rw [Int.toNat_natCast, List.getD_eq_getElem?_getD, List.getElem?_eq_getElem hlt]; rfl
    have hw : wrap64 ((i : Int) + 1) = ((i + 1 : Nat) : Int) := by unfold wrap64; omega
    obtain ⟨k, h1⟩ := l1_ends nm locals p2 p3 p4 bs hbs hin out (by omega) (i : Int) (out ++ refRow locals bs i) bs.length 0 (rd locals (i : Int) == 1) (by omega) (by
      obtain ⟨k, hk⟩ := ih (i + 1) (out ++ [(rd locals (i : Int) == 1) && !(badB (i : Int) (bs.drop 0))]) (by omega) (by simp [hol])
      refine ⟨k, ?_⟩
      have e : refRow locals bs i = ((rd locals (i : Int) == 1) && !(badB (i : Int) (bs.drop 0))) :: refRow locals bs (i + 1) := by
        unfold refRow
        rw [List.drop_eq_getElem_cons hlt, hg, List.zipIdx_cons, List.map_cons, List.drop_zero]
      rw [hw, hk, e, List.append_assoc]
      rfl)
    refine ⟨k + 1, ?_⟩
    simp only [ferruleref15_Plain.l0]
    rw [if_pos (by omega), if_pos (by omega)]
    exact h1

theorem refRow_plain : refRow locals bs 0 = plain locals bs := by
  apply List.ext_getElem?
  intro k
  unfold plain refRow
  rw [offB_get]
  simp only [List.drop_zero, List.getElem?_map, List.getElem?_zipIdx]
  cases locals[k]? with
  | none => rfl
  | some v => simp

theorem ref_ends (hlo : locals.length ≤ 200) (hbs : bs.length ≤ 9223372036854775807) (hin : ∀ b : Nat, b < bs.length → (rd_T61 bs (b : Int)).f0.length ≤ 9223372036854775807) : ∃ k, ferruleref15_Plain.f k nm locals p2 p3 p4 bs = some (plain locals bs) := by
  obtain ⟨k, h⟩ := l0_ends nm locals p2 p3 p4 bs hlo hbs hin locals.length 0 [] (by omega) rfl
  refine ⟨k, ?_⟩
  unfold ferruleref15_Plain.f
  rw [← refRow_plain]
  exact h
end

/-! ### the law -/
/-- A function that lies in memory: its lists are not too long. -/
def Fit (x : S40) : Prop := x.f5.length ≤ 9223372036854775807 ∧ ∀ b : Nat, b < x.f5.length → (rd_T61 x.f5 (b : Int)).f0.length ≤ 9223372036854775807
theorem fit_of {w : World} {A : Option Addr} {l : List S40} (h : k40.C w A l.length l) (i : Nat) (hi : i < l.length) : Fit (rd_T40 l (i : Int)) := by
  obtain ⟨ad, A1, c1, A5, c5, _, _, _, _, _, _, _, _, _, _, g5⟩ := at_T40 h (i : Int) (by omega) (by omega)
  refine ⟨Kd.C_max g5, fun b hb => ?_⟩
  obtain ⟨ad, A0, c0, A6, c6, _, _, _, _, _, _, _, _, _, g0, _, _⟩ := at_T61 g5 (b : Int) (by omega) (by omega)
  exact Kd.C_max g0

theorem l1_law (l : List S40) (i : Int) (r : List Bool) (hr : r.length ≤ 1000) (d : Nat) : ∀ j : Nat, j + d = r.length → (∃ k, ferrulelaw15_FoldPlain.l0 k l (wrap64 (i + 1)) = some true) → ∃ k, ferrulelaw15_FoldPlain.l1 k l i r r (j : Int) = some true := by
  induction d with
  | zero =>
    intro j hj ⟨k, hk⟩
    refine ⟨k + 1, ?_⟩
    simp only [ferrulelaw15_FoldPlain.l1]
    rw [if_neg (by omega)]
    exact hk
  | succ d ih =>
    intro j hj hk
    obtain ⟨k, h⟩ := ih (j + 1) (by omega) hk
    have hw : wrap64 ((j : Int) + 1) = ((j + 1 : Nat) : Int) := by unfold wrap64; omega
    refine ⟨k + 1, ?_⟩
    simp only [ferrulelaw15_FoldPlain.l1]
    rw [if_pos (by omega), if_pos (by omega), if_pos (by omega), if_neg (by simp), hw]
    exact h

theorem l0_law (l : List S40) (hfit : ∀ i : Nat, i < l.length → Fit (rd_T40 l (i : Int))) (d : Nat) : ∀ i : Nat, i + d = 10 → ∃ k, ferrulelaw15_FoldPlain.l0 k l (i : Int) = some true := by
  induction d with
  | zero =>
    intro i hi
    refine ⟨2, ?_⟩
    simp only [ferrulelaw15_FoldPlain.l0]
    have h10 : decide ((i : Int) < 10) = false := decide_eq_false (by omega)
    rw [h10]
    split <;> simp [ferrulelaw15_FoldPlain.j2]
  | succ d ih =>
    intro i hi
    by_cases hlt : i < l.length
    · obtain ⟨hf1, hf2⟩ := hfit i hlt
      have h10 : decide ((i : Int) < 10) = true := decide_eq_true (by omega)
      by_cases h200 : ((rd_T40 l (i : Int)).f1.length : Int) > 200
      · refine ⟨2, ?_⟩
        simp only [ferrulelaw15_FoldPlain.l0, ferrulelaw15_FoldPlain.j2]
        rw [if_pos (by omega), if_pos h10, if_pos (by omega), if_pos (by omega), if_pos h200]
      · obtain ⟨k0, h0⟩ := ih (i + 1) (by omega)
        have hw : wrap64 ((i : Int) + 1) = ((i + 1 : Nat) : Int) := by unfold wrap64; omega
        obtain ⟨k1, h1⟩ := ref_ends (rd_T40 l (i : Int)).f0 (rd_T40 l (i : Int)).f1 (rd_T40 l (i : Int)).f2 (rd_T40 l (i : Int)).f3 (rd_T40 l (i : Int)).f4 (rd_T40 l (i : Int)).f5 (by omega) hf1 hf2
        have hpl : (plain (rd_T40 l (i : Int)).f1 (rd_T40 l (i : Int)).f5).length = (rd_T40 l (i : Int)).f1.length := by unfold plain; rw [offB_length]; simp
        obtain ⟨k2, h2⟩ := l1_law l (i : Int) (plain (rd_T40 l (i : Int)).f1 (rd_T40 l (i : Int)).f5) (by omega) _ 0 (Nat.zero_add _) ⟨k0, by rw [hw]; exact h0⟩
        refine ⟨max k1 k2 + 2, ?_⟩
        have e1 := at_rounds (fun k => ferruleref15_Plain.mono _ _ _ _ _ _ k) (Nat.le_max_left k1 k2) h1
        have e2 := at_rounds (fun k => (ferrulelaw15_FoldPlain.mono_l k).2.2.2 _ _ _ _ _) (Nat.le_max_right k1 k2) h2
        simp only [ferrulelaw15_FoldPlain.l0, ferrulelaw15_FoldPlain.j2]
        rw [if_pos (by omega), if_pos h10, if_pos (by omega), if_pos (by omega), if_neg h200]
        unfold fold_Plain.f
        rw [if_pos (by omega)]
        simp only [Option.bind_some]
        rw [e1]
        simp only [Option.bind_some]
        rw [if_pos trivial]
        exact e2
    · refine ⟨2, ?_⟩
      simp only [ferrulelaw15_FoldPlain.l0, ferrulelaw15_FoldPlain.j2]
      rw [if_neg (by omega)]
      simp

theorem law (l : List S40) (hfit : ∀ i : Nat, i < l.length → Fit (rd_T40 l (i : Int))) : ∃ k, ferrulelaw15_FoldPlain.f k l = some true := by
  obtain ⟨k, h⟩ := l0_law l hfit 10 0 (by omega)
  refine ⟨k + 1, ?_⟩
  unfold ferrulelaw15_FoldPlain.f fold_Plain.f
  have e : plain [1, 2] [] = [true, false] := rfl
  rw [if_pos (by decide), e]
  simp only [Option.bind_some]
  rw [if_pos (by decide), if_pos (by decide), if_pos (by decide), if_pos (by decide)]
  simp only [ferrulelaw15_FoldPlain.j0]
  rw [if_neg (by decide)]
  exact h
end Go.Proofs.Ytocjfdpknfnamaa.Fold
