/- The plain law of ShowTypes, second part: the reference's text of a type is show's, and its trees are alike where show's are. -/
import Derived.Test.YtocjfdpknfnamaaDoorTypB
import Derived.Test.YtocjfdpknfnamaaDoorTypC
import Derived.Test.YtocjfdpknfnamaaDoorRefT2
import Derived.Test.YtocjfdpknfnamaaDoorPShowTypesx4
import Derived.Test.YtocjfdpknfnamaaDoorAlikeB
namespace Go.Proofs.YtocjfdpknfnamaaDoor.Typ
open Go.RowKit Go.Proofs.YtocjfdpknfnamaaDoor.PShowTypes Go.Proofs.YtocjfdpknfnamaaDoorW.PrintWords Go.Proofs.YtocjfdpknfnamaaDoorW.PrintLast Go.Proofs.YtocjfdpknfnamaaDoorW.PrintMore
open Go.Proofs.YtocjfdpknfnamaaDoor.Alike
set_option linter.unusedVariables false

/-- What is known of each type in a type: its name is no longer than a text may be, its number is one. -/
inductive Named : S24 → Prop
  | mk (x : S24) : x.f1.size ≤ 140737488351232 → -9223372036854775808 ≤ x.f2 → x.f2 ≤ 9223372036854775807 → x.f3.length ≤ 9223372036854775807 → (∀ y ∈ x.f3, Named y) → Named x
def Fits : Nat → S24 → Prop
  | 0, _ => False
  | d + 1, x => x.f1.size ≤ 140737488351232 ∧ -9223372036854775808 ≤ x.f2 ∧ x.f2 ≤ 9223372036854775807 ∧ (x.f3.length ≠ 0 → Fits d (rd_T24 x.f3 0))

abbrev chain (k : Nat) (x : S24) : Option Int := ferrulelaw04_chain.f k x.f0 x.f1 x.f2 x.f3
abbrev chainL (k : Nat) (n : Int) (x : S24) : Option Int := ferrulelaw04_chain.l0 k n x.f0 x.f1 x.f2 x.f3
theorem chain_ends (d : Nat) : ∀ (n : Nat) (x : S24), n + d = 200 → ∃ r, chainL (d + 1) (n : Int) x = some r := by
  induction d with
  | zero =>
    intro n x h
    refine ⟨(n : Int), ?_⟩
    simp only [chainL]
    rw [ferrulelaw04_chain.l0]
    by_cases h0 : (x.f3.length : Int) > 0
    · rw [if_pos h0, if_neg (by omega)]
    · rw [if_neg h0]
  | succ d ih =>
    intro n x h
    by_cases h0 : (x.f3.length : Int) > 0
    · obtain ⟨r, hr⟩ := ih (n + 1) (rd_T24 x.f3 0) (by omega)
      refine ⟨r, ?_⟩
      have hw : wrap64 ((n : Int) + 1) = ((n + 1 : Nat) : Int) := by unfold wrap64; omega
      simp only [chainL] at hr
      simp only [chainL]
      rw [ferrulelaw04_chain.l0, if_pos h0, if_pos (by omega), if_pos (by omega), hw]
      exact hr
    · refine ⟨(n : Int), ?_⟩
      simp only [chainL]
      rw [ferrulelaw04_chain.l0, if_neg h0]
theorem named_kid {x : S24} (h : Named x) (h0 : x.f3.length ≠ 0) : Named (rd_T24 x.f3 0) := by
  cases h with
  | mk _ _ _ _ _ h => exact h _ (by simpa using rd24_mem (xs := x.f3) (j := 0) (by omega))
theorem chain_fits (d : Nat) : ∀ (n : Nat) (x : S24) (r : Int), n + d = 200 → Named x → chainL (d + 1) (n : Int) x = some r → r < 200 → Fits d x := by
  induction d with
  | zero =>
    intro n x r h hn hr hlt
    simp only [chainL] at hr
    rw [ferrulelaw04_chain.l0] at hr
    exfalso
    by_cases h0 : (x.f3.length : Int) > 0
    · rw [if_pos h0, if_neg (by omega)] at hr; cases hr; omega
    · rw [if_neg h0] at hr; cases hr; omega
  | succ d ih =>
    intro n x r h hn hr hlt
    have hn' := hn
    cases hn' with
    | mk _ h1 h2 h3 _ h4 =>
    refine ⟨h1, h2, h3, fun h0 => ?_⟩
    have hw : wrap64 ((n : Int) + 1) = ((n + 1 : Nat) : Int) := by unfold wrap64; omega
    simp only [chainL] at hr
    rw [ferrulelaw04_chain.l0, if_pos (by omega), if_pos (by omega), if_pos (by omega), hw] at hr
    exact ih (n + 1) (rd_T24 x.f3 0) r (by omega) (named_kid hn h0) hr hlt

theorem word_size (k : Int) (h : 1 ≤ k ∧ k ≤ 8) : (word k).size ≤ 4 := by
  have hk : k = 1 ∨ k = 2 ∨ k = 3 ∨ k = 4 ∨ k = 5 ∨ k = 6 ∨ k = 7 ∨ k = 8 := by omega
  rcases hk with rfl | rfl | rfl | rfl | rfl | rfl | rfl | rfl <;> decide
theorem text_size (d : Nat) : ∀ x, Fits d x → (text d x).size ≤ 140737488351232 + 26 * d := by
  induction d with
  | zero => intro x h; exact h.elim
  | succ d ih =>
    rintro x ⟨h1, h2, h3, h4⟩
    simp only [text]
    split
    · rename_i h; have := word_size _ h; omega
    split
    · omega
    split
    · show 1 ≤ _; omega
    rename_i hl
    have := ih _ (h4 hl)
    have hi := itoa_size x.f2 h2 h3
    split
    · simp only [ByteArray.size_append, show (⟨#[91]⟩ : ByteArray).size = 1 from rfl, show (⟨#[59, 32]⟩ : ByteArray).size = 2 from rfl, show (⟨#[93]⟩ : ByteArray).size = 1 from rfl]; omega
    split
    · simp only [ByteArray.size_append, show (⟨#[66, 111, 120, 60]⟩ : ByteArray).size = 4 from rfl, show (⟨#[62]⟩ : ByteArray).size = 1 from rfl]; omega
    split
    · simp only [ByteArray.size_append, show (⟨#[38]⟩ : ByteArray).size = 1 from rfl]; omega
    split
    · simp only [ByteArray.size_append, show (⟨#[38, 109, 117, 116, 32]⟩ : ByteArray).size = 5 from rfl]; omega
    · show 1 ≤ _; omega

/-- show.Type, at a type that is not too deep. -/
theorem type_said (d : Nat) : d ≤ 200 → ∀ x, Fits d x → TypSaid d x := by
  induction d with
  | zero => intro _ x h; exact h.elim
  | succ d ih =>
    rintro hd x ⟨h1, h2, h3, h4⟩
    constructor
    intro A c w hT hx hc
    by_cases h18 : 1 ≤ x.f0 ∧ x.f0 ≤ 8
    · simp only [text, if_pos h18]
      have hk : x.f0 = 1 ∨ x.f0 = 2 ∨ x.f0 = 3 ∨ x.f0 = 4 ∨ x.f0 = 5 ∨ x.f0 = 6 ∨ x.f0 = 7 ∨ x.f0 = 8 := by omega
      rcases hk with e | e | e | e | e | e | e | e <;> rw [e]
      · exact word1 _ _ _ _ _ _
      · exact word2 _ _ _ _ _ _
      · exact word3 _ _ _ _ _ _
      · exact word4 _ _ _ _ _ _
      · exact word5 _ _ _ _ _ _
      · exact word6 _ _ _ _ _ _
      · exact word7 _ _ _ _ _ _
      · exact word8 _ _ _ _ _ _
    by_cases h9 : x.f0 = 9
    · simp only [text, if_neg h18, if_pos h9]
      rw [h9]
      exact named _ _ _ _ _ _
    by_cases hl : x.f3.length = 0
    · simp only [text, if_neg h18, if_neg h9, if_pos hl]
      rw [hl]
      exact bare _ _ _ _ _ _ h18 h9
    have hf := h4 hl
    have hs := text_size d _ hf
    have HY := ih (by omega) _ hf
    obtain ⟨ad, A3, c3, e1, hx0, hx1, hx2, hx3, hl3, hi3⟩ := at_T24 hx 0 (by omega) (by omega)
    subst e1
    have ea : ad.add ((0 : Int).toNat * 4) = ad := by simp [Addr.add]
    rw [ea] at hx0 hx1 hx2 hx3
    have hp : 0 < x.f3.length := by omega
    by_cases h10 : x.f0 = 10
    · simp only [text, if_neg h18, if_neg h9, if_neg hl, if_pos h10]
      rw [h10]
      exact arrayed _ _ _ _ _ _ _ _ _ _ hp h2 h3 hx0 hx1 hx2 hx3 hl3 hi3 hT HY (by omega)
    by_cases h11 : x.f0 = 11
    · simp only [text, if_neg h18, if_neg h9, if_neg hl, if_neg h10, if_pos h11]
      rw [h11]
      exact boxed _ _ _ _ _ _ _ _ _ _ hp h2 h3 hx0 hx1 hx2 hx3 hl3 hi3 hT HY (by omega)
    by_cases h12 : x.f0 = 12
    · simp only [text, if_neg h18, if_neg h9, if_neg hl, if_neg h10, if_neg h11, if_pos h12]
      rw [h12]
      exact reffed _ _ _ _ _ _ _ _ _ _ hp h2 h3 hx0 hx1 hx2 hx3 hl3 hi3 hT HY (by omega)
    by_cases h13 : x.f0 = 13
    · simp only [text, if_neg h18, if_neg h9, if_neg hl, if_neg h10, if_neg h11, if_neg h12, if_pos h13]
      rw [h13]
      exact muted _ _ _ _ _ _ _ _ _ _ hp h2 h3 hx0 hx1 hx2 hx3 hl3 hi3 hT HY (by omega)
    simp only [text, if_neg h18, if_neg h9, if_neg hl, if_neg h10, if_neg h11, if_neg h12, if_neg h13]
    by_cases hk : x.f0 > 13
    · exact other1 _ _ _ _ _ _ _ _ _ _ _ hp h2 h3 hk hx0 hx1 hx2 hx3 hl3 hi3 hT HY (by omega)
    · exact other0 _ _ _ _ _ _ _ _ _ _ _ hp h2 h3 (by omega) hx0 hx1 hx2 hx3 hl3 hi3 hT HY (by omega)

/-! ### the reference -/
abbrev refT (k : Nat) (x : S24) : Option ByteArray := ferruleref04_Type.f k x.f0 x.f1 x.f2 x.f3
theorem refT_le {k k' : Nat} (h : k ≤ k') {x : S24} {r : ByteArray} (hr : refT k x = some r) : refT k' x = some r :=
  at_rounds (fun k => (ferruleref04_Type.mono_l k).1 _ _ _ _) h hr
theorem ref_type (d : Nat) : d ≤ 200 → ∀ x, Fits d x → ∃ k, refT k x = some (text d x) := by
  induction d with
  | zero => intro _ x h; exact h.elim
  | succ d ih =>
    rintro hd x ⟨h1, h2, h3, h4⟩
    by_cases h18 : 1 ≤ x.f0 ∧ x.f0 ≤ 8
    · refine ⟨2, ?_⟩
      simp only [refT, ferruleref04_Type.f, Option.bind_some, ferruleref04_Type.j0]
      rw [if_pos (by omega), show decide (x.f0 ≤ 8) = true from decide_eq_true h18.2, if_pos rfl, if_pos (by omega), if_pos (by simp only [List.length_cons, List.length_nil]; omega)]
      simp only [text, if_pos h18]
      congr 1
      have hk : x.f0 = 1 ∨ x.f0 = 2 ∨ x.f0 = 3 ∨ x.f0 = 4 ∨ x.f0 = 5 ∨ x.f0 = 6 ∨ x.f0 = 7 ∨ x.f0 = 8 := by omega
      rcases hk with e | e | e | e | e | e | e | e <;> rw [e] <;> rfl
    have key : ∃ k, ferruleref04_Type.j0 k [(⟨#[63]⟩ : ByteArray), (⟨#[40, 41]⟩ : ByteArray), (⟨#[98, 111, 111, 108]⟩ : ByteArray), (⟨#[105, 56]⟩ : ByteArray), (⟨#[105, 49, 54]⟩ : ByteArray), (⟨#[105, 51, 50]⟩ : ByteArray), (⟨#[117, 56]⟩ : ByteArray), (⟨#[117, 49, 54]⟩ : ByteArray), (⟨#[117, 51, 50]⟩ : ByteArray)] false x.f0 x.f1 x.f2 x.f3 = some (text (d + 1) x) := by
      by_cases h9 : x.f0 = 9
      · refine ⟨1, ?_⟩
        simp only [ferruleref04_Type.j0, text, if_neg h18, if_pos h9]; rfl
      by_cases hl : x.f3.length = 0
      · refine ⟨1, ?_⟩
        simp only [ferruleref04_Type.j0, text, if_neg h18, if_neg h9, if_pos hl]
        rw [if_neg (by decide), if_pos (by omega)]
      have hf := h4 hl
      have hs := text_size d _ hf
      have hi := itoa_size x.f2 h2 h3
      obtain ⟨k1, e1⟩ := ih (by omega) _ hf
      obtain ⟨k2, e2⟩ := number_is x.f2 h2 h3
      replace e1 := refT_le (Nat.le_max_left k1 k2) e1
      replace e2 := number_le (Nat.le_max_right k1 k2) e2
      refine ⟨max k1 k2 + 1, ?_⟩
      simp only [refT] at e1
      simp only [ferruleref04_Type.j0, text, if_neg h18, if_neg h9, if_neg hl]
      rw [if_neg (by decide), if_neg (by omega), if_pos (by omega), e1]
      simp only [Option.bind_some]
      by_cases h10 : x.f0 = 10
      · rw [if_pos h10, if_pos h10, if_pos (by omega), if_pos (by simp only [ByteArray.size_append, show (⟨#[91]⟩ : ByteArray).size = 1 from rfl]; omega), e2]
        simp only [Option.bind_some]
        rw [if_pos (by simp only [ByteArray.size_append, show (⟨#[91]⟩ : ByteArray).size = 1 from rfl, show (⟨#[59, 32]⟩ : ByteArray).size = 2 from rfl]; omega), if_pos (by simp only [ByteArray.size_append, show (⟨#[91]⟩ : ByteArray).size = 1 from rfl, show (⟨#[59, 32]⟩ : ByteArray).size = 2 from rfl]; omega)]
      rw [if_neg h10, if_neg h10]
      by_cases h11 : x.f0 = 11
      · rw [if_pos h11, if_pos h11, if_pos (by omega), if_pos (by simp only [ByteArray.size_append, show (⟨#[66, 111, 120, 60]⟩ : ByteArray).size = 4 from rfl]; omega)]
      rw [if_neg h11, if_neg h11]
      by_cases h12 : x.f0 = 12
      · rw [if_pos h12, if_pos h12, if_pos (by omega)]
      rw [if_neg h12, if_neg h12]
      by_cases h13 : x.f0 = 13
      · rw [if_pos h13, if_pos h13, if_pos (by omega)]
      rw [if_neg h13, if_neg h13]
    obtain ⟨k, hk⟩ := key
    refine ⟨k + 1, ?_⟩
    simp only [refT, ferruleref04_Type.f, Option.bind_some]
    by_cases hp : x.f0 ≥ 1
    · rw [if_pos hp, show decide (x.f0 ≤ 8) = false from decide_eq_false (by omega)]; exact hk
    · rw [if_neg hp]; exact hk
end Go.Proofs.YtocjfdpknfnamaaDoor.Typ
