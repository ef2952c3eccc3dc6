/- Steps toward laws of the middle form (M), merged from several texts (some of them began as the kit's print). No condition. -/
import Derived.OrdersHeld
import Derived.StillTail
import Derived.Deep.RegionHeld
import Derived.Orders
import Derived.Still
import Derived.Deep.Draws
import Derived.Below
import Derived.Test.YtpphpcmbpbppoaaProg
import Derived.WalkSpells
import Derived.WalkKit
import Derived.StillTailTactics
import Derived.LoopN
import Derived.Deep.QuietTactic
import Derived.BigQuiet
import Derived.Test.YtpphpcmbpbppoaaZM0
section
namespace Go.Proofs.Ytpphpcmbpbppoaa.Calm
open Go
set_option linter.unusedVariables false
set_option linter.unusedSimpArgs false
section
variable {P : Program}
def tailQ (P : Program) (l : List Oper) (n : Nat) (Q : Exit → Act → World → Prop) : Exit → Act → World → Prop
  | .normal, a, w => wpList P l.toArray Q (l.drop n) a w
  | e, a, w => Q e a w
def splitB (l : List Oper) (n : Nat) : Bool :=
  decide (n < l.length) && Region.sinkB .any l.toArray n && Region.chainB .any l.toArray n && Region.seqB .any l.toArray (l.length - n) n ((Array.replicate n true) ++ (Array.replicate (l.length - n) false)) &&
  ((List.range n).all fun i => match l[i]? with | none => true | some o => o.guard.isNone && o.after.all fun e => decide (e.on < i))
theorem getD_app (x : Array Bool) (m i : Nat) (d : Bool) (h : i < x.size) : (x ++ Array.replicate m false).getD i d = x.getD i d := by
  simp [Array.getD, h, Array.getElem_append]
  intro h2; omega
theorem getD_any {x : Array Bool} {i : Nat} {d e : Bool} (h : i < x.size) : x.getD i d = x.getD i e := by simp [Array.getD, h]
theorem least (p : Nat → Prop) : ∀ n, (∃ i, i < n ∧ p i) → ∃ i, i < n ∧ p i ∧ ∀ j, j < i → ¬ p j
  | 0, ⟨_, h, _⟩ => absurd h (Nat.not_lt_zero _)
  | n + 1, ⟨i, hi, hp⟩ => by
    by_cases h : ∃ i, i < n ∧ p i
    · obtain ⟨j, hj, h1, h2⟩ := least p n h
      exact ⟨j, by omega, h1, h2⟩
    · exact ⟨i, hi, hp, fun j hj hpj => h ⟨j, by omega, hpj⟩⟩
theorem upon_tail {l : List Oper} {n : Nat} {Q : Exit → Act → World → Prop} {o : Oper} {a : Act} {K : Act → World → Prop} {r : Result Next} (h : o.upon P a K (tailQ P l n Q) r) : o.upon P a K Q r := by
  cases r with
  | ok nx w => cases nx <;> exact h
  | halt x w => cases x <;> exact h
theorem split_ind {l : List Oper} {n : Nat} {Q : Exit → Act → World → Prop} (hB : splitB l n = true) : ∀ (fuel : Nat) (ls : Array Bool) (a : Act) (w : World), ls.size = n → HeadInv .any l.toArray n (ls ++ Array.replicate (l.length - n) false) →
    ls.toList.count false = fuel → wpAny P .any (l.take n).toArray (tailQ P l n Q) fuel ls a w → wpAny P .any l.toArray Q (fuel + (l.length - n)) (ls ++ Array.replicate (l.length - n) false) a w := by
  simp only [splitB, Bool.and_eq_true, decide_eq_true_eq] at hB
  obtain ⟨⟨⟨⟨hn, hs⟩, hc⟩, hq⟩, hg⟩ := hB
  intro fuel
  induction fuel with
  | zero =>
    intro ls a w hsz inv hct h
    have e : ls = Array.replicate n true := by
      apply Array.ext
      · simp [hsz]
      · intro i h1 h2
        have : ls[i] ≠ false := fun e => by
          have : false ∈ ls.toList := by rw [← e]; simp
          exact absurd (List.count_pos_iff.2 this) (by omega)
        simpa using this
    subst e
    have := wpAny_of_seq (P := P) (md := .any) (ops := l.toArray) (Q' := Q) (l.drop n) n _ a w (fun j => by simp) (by rw [List.length_drop]; exact hq) h.2
    rw [List.length_drop] at this
    rw [Nat.zero_add]
    exact this
  | succ f ih =>
    intro ls a w hsz inv hct h
    rw [show f + 1 + (l.length - n) = (f + (l.length - n)) + 1 by omega]
    obtain ⟨i0, hi0, hun, hmin⟩ : ∃ i0, i0 < n ∧ ls.getD i0 true = false ∧ ∀ j, j < i0 → ls.getD j false = true := by
      have hpos : 0 < ls.toList.count false := by omega
      have hex : ∃ i, i < n ∧ (i < n ∧ ls.getD i true = false) := by
        obtain ⟨i, hi, he⟩ := List.mem_iff_getElem.1 (List.count_pos_iff.1 hpos)
        have hi' : i < ls.size := by simpa using hi
        exact ⟨i, by omega, by omega, by simpa [hi'] using he⟩
      obtain ⟨i, hi, h1, h2⟩ := least (fun i => i < n ∧ ls.getD i true = false) n hex
      refine ⟨i, hi, h1.2, fun j hj => ?_⟩
      have := h2 j hj
      rw [getD_any (e := true) (by omega)]
      cases hh : ls.getD j true with
      | true => rfl
      | false => exact absurd ⟨by omega, hh⟩ this
    have head : ∀ i, i < n → ∃ o, l[i]? = some o ∧ o.guard = none ∧ ∀ e ∈ o.after, e.on < i := by
      intro i hi
      have h1 := List.all_eq_true.1 hg i (List.mem_range.2 hi)
      have ho : l[i]? = some (l[i]'(by omega)) := List.getElem?_eq_getElem _
      rw [ho] at h1
      simp only [Bool.and_eq_true, Option.isNone_iff_eq_none, Array.all_eq_true'] at h1
      exact ⟨_, ho, h1.1, fun e he => by simpa using h1.2 e he⟩
    have tl : ∀ t, n ≤ t → t ∉ Region.ready .any l.toArray (ls ++ Array.replicate (l.length - n) false) :=
      tail_waits hs hc (by simpa using hn) inv (n - i0) i0 rfl hi0 (by rw [getD_app _ _ _ _ (by omega)]; exact hun)
    refine ⟨fun h0 => ?_, fun i hi => ?_⟩
    · obtain ⟨o, ho, hgd, haf⟩ := head i0 hi0
      have : i0 ∈ Region.ready .any l.toArray (ls ++ Array.replicate (l.length - n) false) := by
        refine mem_ready.2 ⟨by rw [getD_app _ _ _ _ (by omega)]; exact hun, o, by simpa using ho, fun e he _ => ?_⟩
        rw [getD_app _ _ _ _ (by have := haf e he; omega)]
        exact hmin _ (haf e he)
      rw [h0] at this
      cases this
    · have hin : i < n := by
        rcases Nat.lt_or_ge i n with h' | h'
        · exact h'
        · exact absurd hi (tl i h')
      obtain ⟨o, ho, hgd, haf⟩ := head i hin
      obtain ⟨hui, o', ho', hall⟩ := mem_ready.1 hi
      obtain rfl : o' = o := Option.some.inj (ho'.symm.trans (by simpa using ho))
      have hos : (l.take n).toArray[i]? = some o' := by simp [List.getElem?_take, hin, ho]
      rw [getD_app _ _ _ _ (by omega)] at hui
      have hr : i ∈ Region.ready .any (l.take n).toArray ls := by
        refine mem_ready.2 ⟨hui, o', hos, fun e he hb => ?_⟩
        have := hall e he hb
        rwa [getD_app _ _ _ _ (by have := haf e he; omega)] at this
      have hw := h.2 i hr
      unfold wpOp at hw ⊢
      simp only [hos, ho', Region.wanted, hgd, if_true] at hw ⊢
      have hset : (ls ++ Array.replicate (l.length - n) false).setIfInBounds i true = ls.setIfInBounds i true ++ Array.replicate (l.length - n) false := by
        apply Array.ext_getElem?
        intro j
        have hil : i < ls.size := by omega
        rw [Array.getElem?_append]
        by_cases e : i = j
        · subst e
          rw [if_pos (by simpa using hil), Array.getElem?_setIfInBounds_self_of_lt hil, Array.getElem?_setIfInBounds_self_of_lt (by simp; omega)]
        · rw [Array.getElem?_setIfInBounds_ne e, Array.getElem?_append, Array.getElem?_setIfInBounds_ne e, Array.size_setIfInBounds]
      have next : ∀ a' w', wpAny P .any (l.take n).toArray (tailQ P l n Q) f (ls.setIfInBounds i true) a' w' → wpAny P .any l.toArray Q (f + (l.length - n)) ((ls ++ Array.replicate (l.length - n) false).setIfInBounds i true) a' w' := by
        intro a' w' h'
        rw [hset]
        refine ih _ a' w' (by simpa using hsz) (by rw [← hset]; exact inv.set hi hin) ?_ h'
        have hi2 : i < ls.toList.length := by simp; omega
        have he : ls.toList[i] = false := by
          have : i < ls.size := by omega
          simpa [this] using hui
        rw [Array.toList_setIfInBounds, List.count_set hi2, he, hct]
        simp
      rcases hw with hw | ⟨h1, a', w', h2⟩
      · exact .inl (Oper.wp_mono next (upon_tail hw))
      · exact .inr ⟨h1, a', w', h2⟩
theorem region_split {id : Nat} {Q : Exit → Act → World → Prop} {a : Act} {w : World} {l : List Oper} (n : Nat) (S : World → Prop) (hm : P.follows .mixedOrders = true) (hB : splitB l n = true) (hS : S w.drew)
    (h : S w.drew → wpAnyH P .any (l.take n).toArray (tailQ P l n Q) S (l.take n).toArray.size (Array.replicate (l.take n).toArray.size false) a w.drew) : (Code.region id l.toArray true).wp P Q a w := by
  have hB' := hB
  simp only [splitB, Bool.and_eq_true, decide_eq_true_eq] at hB'
  obtain ⟨⟨⟨⟨hn, hs⟩, hc⟩, hq⟩, hg⟩ := hB'
  have hsz : (l.take n).toArray.size = n := by simp; omega
  refine wp_region_any hm ?_
  have h1 := wpAny_of_held _ _ _ _ (h hS)
  rw [hsz] at h1
  have hrep : Array.replicate l.toArray.size false = Array.replicate n false ++ Array.replicate (l.length - n) false := by
    apply Array.ext
    · simp; omega
    · intro j h1 h2
      simp [Array.getElem_append]
  have := split_ind hB n (Array.replicate n false) a w.drew (by simp) ?_ (by simp) h1
  · rw [hrep, show l.toArray.size = n + (l.length - n) by simp; omega]
    exact this
  · refine ⟨by simp; omega, fun j oj _ hl => ?_, fun t ht ht' => ?_⟩
    · rw [← hrep, getD_replicate_false] at hl
      cases hl
    · rw [← hrep]
      exact getD_in (by simpa using ht') (getD_replicate_false _ _)
end
end Go.Proofs.Ytpphpcmbpbppoaa.Calm
end
section
namespace Go.Proofs.Ytpphpcmbpbppoaa.Calm
open Go
set_option linter.unusedVariables false
section
variable {P : Program}
def heads (P : Program) (ops : Array Oper) (S : World → Prop) (Z : Act → Prop) : List Nat → Act → Prop
  | [], a => Z a
  | k :: ks, a => ∃ o, ops[k]? = some o ∧ ∃ v, YieldsIf P ops S o v a ∧ heads P ops S Z ks (a.put o.dst v)
def headsB (ops : Array Oper) : List Nat → Array Bool → Bool
  | [], _ => true
  | k :: ks, ls => (Region.ready .any ops ls).contains k && Region.free .any ops ls k && headsB ops ks (ls.setIfInBounds k true)
def listedAll (ks : List Nat) (ls : Array Bool) : Array Bool := ks.foldl (fun ls k => ls.setIfInBounds k true) ls
theorem heads_held {ops : Array Oper} {Q : Exit → Act → World → Prop} {S : World → Prop} (hs : Region.noSelect ops = true) (hQ : ∀ c (a a' : Act) w, a'.defers = a.defers → Q (.panic c) a' w → Q (.panic c) a w) {w : World} (hS : S w) (fuel : Nat) :
    ∀ (ks : List Nat) (ls : Array Bool) (a : Act), headsB ops ks ls = true → heads P ops S (fun a' => wpAnyH P .any ops Q S fuel (listedAll ks ls) a' w) ks a → wpAnyH P .any ops Q S (ks.length + fuel) ls a w
  | [], ls, a, _, h => by rw [List.length_nil, Nat.zero_add]; exact h
  | k :: ks, ls, a, hB, h => by
    simp only [headsB, Bool.and_eq_true] at hB
    obtain ⟨o, ho, v, hy, h⟩ := h
    rw [show (k :: ks).length + fuel = (ks.length + fuel) + 1 by simp; omega]
    exact wpAnyH_take ho hs hB.1.2 hB.1.1 (fun c a' w' hq => hQ c _ _ w' (by cases o.dst <;> rfl) hq) hy hS (heads_held hs hQ hS fuel ks _ _ hB.2 h)
def chainS (P : Program) (ops : Array Oper) (Q : Exit → Act → World → Prop) (S : World → Prop) : List Oper → Act → World → Prop
  | [], a, w => Q .normal a w
  | o :: r, a, w => o.guard = none ∧ o.wp P a w (fun a' w' => S w' ∧ chainS P ops Q S r a' w') Q
theorem chain_held {ops : Array Oper} {Q : Exit → Act → World → Prop} {S : World → Prop} : ∀ (l : List Oper) (k : Nat) (listed : Array Bool) (a : Act) (w : World), (∀ j, l[j]? = ops[k + j]?) →
    Region.seqB .any ops l.length k listed = true → chainS P ops Q S l a w → wpAnyH P .any ops Q S l.length listed a w
  | [], _, _, _, _, _, hB, h => ⟨by simpa [Region.seqB] using hB, h⟩
  | o :: l, k, listed, a, w, hl, hB, h => by
    have h0 : ops[k]? = some o := by simpa using (hl 0).symm
    simp only [List.length_cons, Region.seqB, Bool.and_eq_true, decide_eq_true_eq] at hB
    refine ⟨fun h1 => (by rw [hB.1] at h1; cases h1), fun i hi => ?_⟩
    rw [hB.1] at hi
    have hik : i = k := by simpa using hi
    subst hik
    unfold wpOp
    simp only [h0, Region.wanted, h.1, if_true]
    exact .inl (Oper.wp_mono (fun a' w' h' => ⟨h'.1, chain_held l (i + 1) _ a' w' (fun j => by have := hl (j + 1); simpa [Nat.add_assoc, Nat.add_comm 1 j] using this) hB.2 h'.2⟩) h.2)
theorem region_heads {id : Nat} {Q : Exit → Act → World → Prop} {a : Act} {w : World} {l : List Oper} (n m : Nat) (S : World → Prop) (hm : P.follows .mixedOrders = true) (hB : splitB l m = true)
    (hH : (decide (n ≤ m) && Region.noSelect (l.take m).toArray && headsB (l.take m).toArray (List.range n) (Array.replicate m false) && Region.seqB .any (l.take m).toArray (m - n) n (listedAll (List.range n) (Array.replicate m false))) = true)
    (hS : S w.drew) (hQ : ∀ c (a a' : Act) w, a'.defers = a.defers → Q (.panic c) a' w → Q (.panic c) a w)
    (h : heads P (l.take m).toArray S (fun a' => chainS P (l.take m).toArray (tailQ P l m Q) S ((l.take m).drop n) a' w.drew) (List.range n) a) : (Code.region id l.toArray true).wp P Q a w := by
  have hB' := hB
  simp only [splitB, Bool.and_eq_true, decide_eq_true_eq] at hB'
  simp only [Bool.and_eq_true, decide_eq_true_eq] at hH
  obtain ⟨⟨⟨hnm, hno⟩, hhd⟩, hsq⟩ := hH
  have hlm : m < l.length := hB'.1.1.1.1
  have hsz : (l.take m).toArray.size = m := by simp; omega
  refine region_split m S hm hB hS fun _ => ?_
  rw [hsz]
  have hlen : ((l.take m).drop n).length = m - n := by simp; omega
  have := heads_held (P := P) (Q := tailQ P l m Q) (S := S) hno (fun c a a' w' hd hq => hQ c a a' w' hd hq) hS (m - n) (List.range n) (Array.replicate m false) a hhd ?_
  · rw [List.length_range, show n + (m - n) = m by omega] at this
    exact this
  · have mono : ∀ (ks : List Nat) (a : Act), heads P (l.take m).toArray S (fun a' => chainS P (l.take m).toArray (tailQ P l m Q) S ((l.take m).drop n) a' w.drew) ks a → heads P (l.take m).toArray S (fun a' => wpAnyH P .any (l.take m).toArray (tailQ P l m Q) S (m - n) (listedAll (List.range n) (Array.replicate m false)) a' w.drew) ks a := by
      intro ks
      induction ks with
      | nil =>
        intro a h
        have := chain_held ((l.take m).drop n) n (listedAll (List.range n) (Array.replicate m false)) a w.drew (fun j => by simp) (by rw [hlen]; exact hsq) h
        rw [hlen] at this
        exact this
      | cons k ks ih =>
        intro a ⟨o, ho, v, hy, h⟩
        exact ⟨o, ho, v, hy, ih _ h⟩
    exact mono _ _ h
structure VR (w : World) (v : Value) (r : Result Next) : Prop where
  mk :: (out : r = .ok (.value v) w)
theorem heads_ex {ops : Array Oper} {S : World → Prop} {Z : Act → Prop} {a : Act} {k : Nat} {ks : List Nat} {o : Oper} {d : Tmp} (ho : ops[k]? = some o) (hd : o.dst = some d) (hw : Region.wanted o (yielded ops a.tmps) = true)
    (h : ∃ v, (∀ w, S w → VR w v ((execOp a.eval o).run P w)) ∧ heads P ops S Z ks { tmps := a.tmps.setIfInBounds d v, defers := a.defers }) : heads P ops S Z (k :: ks) a :=
  let ⟨v, h1, h2⟩ := h; ⟨o, ho, v, .inl ⟨hw, fun w hw => (h1 w hw).out⟩, by rw [hd]; exact h2⟩
theorem heads_nil {ops : Array Oper} {S : World → Prop} {Z : Act → Prop} {a : Act} (h : Z a) : heads P ops S Z [] a := h
theorem chain_ex {ops : Array Oper} {Q : Exit → Act → World → Prop} {S : World → Prop} {o : Oper} {r : List Oper} {a : Act} {w : World} (hg : o.guard = none) (h : o.wp P a w (fun a' w' => S w' ∧ chainS P ops Q S r a' w') Q) : chainS P ops Q S (o :: r) a w := ⟨hg, h⟩
theorem chain_value {ops : Array Oper} {Q : Exit → Act → World → Prop} {S : World → Prop} {o : Oper} {r : List Oper} {a : Act} {w w' : World} {v : Value} {d : Tmp} (hg : o.guard = none) (hd : o.dst = some d) (hr : (execOp a.eval o).run P w = .ok (.value v) w') (hS : S w')
    (h : chainS P ops Q S r { tmps := a.tmps.setIfInBounds d v, defers := a.defers } w') : chainS P ops Q S (o :: r) a w := by
  refine ⟨hg, ?_⟩
  unfold Oper.wp
  rw [hr]
  exact ⟨hS, by rw [hd]; exact h⟩
theorem chain_done {ops : Array Oper} {l : List Oper} {m : Nat} {Q : Exit → Act → World → Prop} {S : World → Prop} {a : Act} {w : World} (h : wpList P l.toArray Q (l.drop m) a w) : chainS P ops (tailQ P l m Q) S [] a w := h
end
end Go.Proofs.Ytpphpcmbpbppoaa.Calm
end
section
namespace Go.Proofs.Ytpphpcmbpbppoaa.Calm
open Go Go.RowKit
set_option linter.unusedVariables false
section
variable {P : Program} {ops : Array Oper} {C : World → Prop} {B : List PanicEntry → World → Prop} {D : Option Nat} {E : Act → Prop}
def calmR (P : Program) (C : World → Prop) (B : List PanicEntry → World → Prop) (w : World) (v : Value) : Result Next → Prop
  | .ok (.value u) w' => w' = w ∧ u = v
  | .ok .skip w' => w' = w ∧ undef = v
  | .ok (.enter f args) w' => w' = w ∧ Calls P f args w fun e w'' => (e = .returned v ∧ C w'') ∨ ∃ ch, e = .panicked ch ∧ B ch w''
  | _ => False
def calmAt (P : Program) (C : World → Prop) (B : List PanicEntry → World → Prop) (o : Oper) (a : Act) (v : Value) (w : World) : Prop := calmR P C B w v ((execOp a.eval o).run P w)
def Gives (P : Program) (ops : Array Oper) (C : World → Prop) (B : List PanicEntry → World → Prop) (o : Oper) (v : Value) (a : Act) : Prop :=
  (Region.wanted o (yielded ops a.tmps) = true ∧ ∀ w, C w → calmAt P C B o a v w) ∨ (Region.wanted o (yielded ops a.tmps) = false ∧ v = undef)
def doomR (P : Program) (B : List PanicEntry → World → Prop) (w : World) : Result Next → Prop
  | .ok (.enter f args) w' => w' = w ∧ Calls P f args w fun e w'' => ∃ ch, e = .panicked ch ∧ B ch w''
  | _ => False
def Doomed (P : Program) (ops : Array Oper) (C : World → Prop) (B : List PanicEntry → World → Prop) (o : Oper) (a : Act) : Prop :=
  Region.wanted o (yielded ops a.tmps) = true ∧ ∀ w, C w → doomR P B w ((execOp a.eval o).run P w)
def DoomAt (P : Program) (ops : Array Oper) (C : World → Prop) (B : List PanicEntry → World → Prop) (i : Nat) (a : Act) : Prop := ∃ o, ops[i]? = some o ∧ Doomed P ops C B o a
def anyC (P : Program) (ops : Array Oper) (C : World → Prop) (B : List PanicEntry → World → Prop) (D : Option Nat) (E : Act → Prop) : Nat → Array Bool → Act → Prop
  | 0, ls, a => Region.ready .any ops ls = [] ∧ E a
  | n + 1, ls, a => (Region.ready .any ops ls = [] → E a) ∧ ∀ i ∈ Region.ready .any ops ls,
      (D = some i ∧ DoomAt P ops C B i a) ∨ (D ≠ some i ∧ ∃ o, ops[i]? = some o ∧ ∃ v, Gives P ops C B o v a ∧ anyC P ops C B D E n (ls.setIfInBounds i true) (a.put o.dst v))
theorem put_defers (a : Act) (d : Option Tmp) (v : Value) : (a.put d v).defers = a.defers := by cases d <;> rfl
theorem any_sound {Q : Exit → Act → World → Prop} {df : List Deferred} (hE : ∀ a w, C w → E a → Q .normal a w) (hB : ∀ ch a w, a.defers = df → B ch w → Q (.panic ch) a w) :
    ∀ (n : Nat) (ls : Array Bool) (a : Act) (w : World), a.defers = df → C w → anyC P ops C B D E n ls a → wpAny P .any ops Q n ls a w
  | 0, _, _, _, _, hw, h => ⟨h.1, hE _ _ hw h.2⟩
  | n + 1, ls, a, w, hdf, hw, h => by
    refine ⟨fun h0 => hE _ _ hw (h.1 h0), fun i hi => ?_⟩
    unfold wpOp
    rcases h.2 i hi with ⟨_, o, ho, hwant, hd⟩ | ⟨_, o, ho, v, hg, hn⟩
    · simp only [ho, hwant, if_true]
      refine .inl ?_
      have hdw := hd w hw
      unfold Oper.wp
      generalize (execOp a.eval o).run P w = r at *
      cases r with
      | halt x w' => exact hdw.elim
      | ok nx w' =>
        cases nx with
        | enter f args =>
          obtain ⟨e1, hc⟩ := hdw
          simp only [Oper.upon]
          rw [e1]
          refine hc.mono fun e w'' ⟨ch, he, hb⟩ => ?_
          subst he
          exact hB ch _ _ hdf hb
        | _ => exact hdw.elim
    · simp only [ho]
      rcases hg with ⟨hwant, hv⟩ | ⟨hwant, rfl⟩
      · simp only [hwant, if_true]
        refine .inl ?_
        have hvw := hv w hw
        unfold calmAt at hvw
        unfold Oper.wp
        generalize (execOp a.eval o).run P w = r at *
        cases r with
        | halt x w' => exact hvw.elim
        | ok nx w' =>
          cases nx with
          | value u =>
            obtain ⟨e1, e2⟩ := hvw
            simp only [Oper.upon]
            rw [e1, e2]
            exact any_sound hE hB n _ _ _ ((put_defers _ _ _).trans hdf) hw hn
          | skip =>
            obtain ⟨e1, e2⟩ := hvw
            simp only [Oper.upon]
            rw [e1, e2]
            exact any_sound hE hB n _ _ _ ((put_defers _ _ _).trans hdf) hw hn
          | enter f args =>
            obtain ⟨e1, hc⟩ := hvw
            simp only [Oper.upon]
            rw [e1]
            refine hc.mono fun e w'' hh => ?_
            rcases hh with ⟨he, hw''⟩ | ⟨ch, he, hb⟩
            · subst he
              exact any_sound hE hB n _ _ _ ((put_defers _ _ _).trans hdf) hw'' hn
            · subst he
              exact hB ch _ _ hdf hb
          | _ => exact hvw.elim
      · simp only [hwant, Bool.false_eq_true, if_false]
        exact any_sound hE hB n _ _ _ ((put_defers _ _ _).trans hdf) hw hn
theorem Gives.put {o o' : Oper} {a : Act} {v u : Value} (hs : ∀ cs b, o.op ≠ .select cs b) (h : ∀ d, o'.dst = some d → d ∉ o.looksAt ops) :
    Gives P ops C B o v (a.put o'.dst u) ↔ Gives P ops C B o v a := by
  unfold Gives calmAt
  rw [execOp_put o hs a o'.dst u h, wanted_put o a o'.dst u h]
theorem Doomed.put {o o' : Oper} {a : Act} {u : Value} (hs : ∀ cs b, o.op ≠ .select cs b) (h : ∀ d, o'.dst = some d → d ∉ o.looksAt ops) :
    Doomed P ops C B o (a.put o'.dst u) ↔ Doomed P ops C B o a := by
  unfold Doomed
  rw [execOp_put o hs a o'.dst u h, wanted_put o a o'.dst u h]
theorem any_first {i : Nat} {oi : Oper} {v : Value} (hi : ops[i]? = some oi) (hD : D ≠ some i) (hsel : ∀ (j : Nat) (o : Oper) cs b, ops[j]? = some o → o.op ≠ .select cs b) :
    ∀ (n : Nat) (ls : Array Bool) (a : Act),
      (∀ j oj, ops[j]? = some oj → j ≠ i → ls.getD j true = false → (∀ e ∈ oj.after, Region.binds .any e = true → e.on ≠ i) → oi.apart ops oj = true) →
      i ∈ Region.ready .any ops ls → Gives P ops C B oi v a → anyC P ops C B D E n (ls.setIfInBounds i true) (a.put oi.dst v) → anyC P ops C B D E (n + 1) ls a := by
  intro n
  induction n with
  | zero =>
    intro ls a _ hr hy H
    refine ⟨fun h => (by rw [h] at hr; cases hr), fun j hj => ?_⟩
    by_cases hji : j = i
    · subst hji; exact .inr ⟨hD, oi, hi, v, hy, H⟩
    · have := ready_mono hj hji
      rw [H.1] at this
      cases this
  | succ n ih =>
    intro ls a hfree hr hy H
    refine ⟨fun h => (by rw [h] at hr; cases hr), fun j hj => ?_⟩
    by_cases hji : j = i
    · subst hji; exact .inr ⟨hD, oi, hi, v, hy, H⟩
    obtain ⟨hjun, oj, hoj, hall⟩ := mem_ready.1 hj
    have hnot : ∀ e ∈ oj.after, Region.binds .any e = true → e.on ≠ i := by
      intro e he hb heq
      have h1 := hall e he hb
      have h0 := (mem_ready.1 hr).1
      rw [heq] at h1
      rcases Nat.lt_or_ge i ls.size with h' | h'
      · simp [h'] at h0 h1; rw [h0] at h1; cases h1
      · simp [Array.getElem?_eq_none h'] at h1
    obtain ⟨a1, a2, a3⟩ := Oper.apart_spec (hfree j oj hoj hji hjun hnot)
    have si := fun cs b => hsel i oi cs b hi
    have sj := fun cs b => hsel j oj cs b hoj
    rcases H.2 j (ready_mono hj hji) with ⟨hd, o, ho, hdo⟩ | ⟨hd, o, ho, u, hu, hn⟩
    · obtain rfl : o = oj := Option.some.inj (ho.symm.trans hoj)
      exact .inl ⟨hd, o, ho, (Doomed.put sj a1).1 hdo⟩
    · obtain rfl : o = oj := Option.some.inj (ho.symm.trans hoj)
      refine .inr ⟨hd, o, ho, u, (Gives.put sj a1).1 hu, ih (ls.setIfInBounds j true) (a.put o.dst u) ?_ (ready_mono hr (Ne.symm hji)) ((Gives.put si a3).2 hy) ?_⟩
      · intro k ok hk hki hun hno
        refine hfree k ok hk hki ?_ hno
        by_cases hjk : j = k
        · subst hjk; exact hjun
        · rwa [getD_set_ne true hjk] at hun
      · rw [Array.setIfInBounds_comm _ _ hji, ← Act.put_comm a v u a2]
        exact hn
def walk (P : Program) (ops : Array Oper) (C : World → Prop) (B : List PanicEntry → World → Prop) (Q : Act → Prop) : List Nat → Act → Prop
  | [], a => Q a
  | k :: ks, a => ∃ o, ops[k]? = some o ∧ ∃ v, Gives P ops C B o v a ∧ walk P ops C B Q ks (a.put o.dst v)
def lexK (ops : Array Oper) (D : Option Nat) : List Nat → Array Bool → Bool
  | [], ls => match D with | none => (Region.ready .any ops ls).isEmpty | some d => (Region.ready .any ops ls) == [d]
  | k :: ks, ls => (Region.ready .any ops ls).contains k && Region.free .any ops ls k && (D != some k) && lexK ops D ks (ls.setIfInBounds k true)
def Behind (P : Program) (ops : Array Oper) (C : World → Prop) (B : List PanicEntry → World → Prop) (D : Option Nat) (E : Act → Prop) (a : Act) : Prop :=
  match D with | none => E a | some d => DoomAt P ops C B d a
theorem any_lex (hs : Region.noSelect ops = true) (hE : D ≠ none → ∀ a, E a → False) : ∀ (ks : List Nat) (n : Nat) (ls : Array Bool) (a : Act), ks.length ≤ n → (D ≠ none → ks.length < n) →
    lexK ops D ks ls = true → walk P ops C B (Behind P ops C B D E) ks a → anyC P ops C B D E n ls a
  | [], n, ls, a, hn, hn', hB, h => by
    unfold lexK at hB
    simp only [walk, Behind] at h
    cases D with
    | none =>
      simp only [List.isEmpty_iff] at hB
      cases n with
      | zero => exact ⟨hB, h⟩
      | succ n => exact ⟨fun _ => h, fun i hi => (by rw [hB] at hi; cases hi)⟩
    | some d =>
      have hr : Region.ready .any ops ls = [d] := by simpa using hB
      cases n with
      | zero => exact absurd (hn' (by simp)) (by simp)
      | succ n =>
        refine ⟨fun h0 => (by rw [hr] at h0; cases h0), fun i hi => ?_⟩
        rw [hr] at hi
        obtain rfl : i = d := by simpa using hi
        exact .inl ⟨rfl, h⟩
  | k :: ks, n, ls, a, hn, hn', hB, h => by
    simp only [lexK, Bool.and_eq_true, bne_iff_ne] at hB
    obtain ⟨⟨⟨hr, hf⟩, hd⟩, hB'⟩ := hB
    obtain ⟨o, ho, v, hg, hw⟩ := h
    cases n with
    | zero => simp at hn
    | succ n =>
      exact any_first ho hd (Region.noSelect_spec hs) n ls a (Region.free_spec ho hf) (by simpa using hr) hg
        (any_lex hs hE ks n _ _ (by simpa using hn) (fun h0 => by have := hn' h0; simpa using this) hB' hw)
theorem region_calm {id : Nat} {Q : Exit → Act → World → Prop} {a : Act} {w : World} {l : List Oper} (C : World → Prop) (B : List PanicEntry → World → Prop) (hm : P.follows .mixedOrders = true) (hs : Region.noSelect l.toArray = true)
    (hB : lexK l.toArray none (List.range l.length) (Array.replicate l.length false) = true) (hC : C w.drew) (hP : ∀ ch a' w, a'.defers = a.defers → B ch w → Q (.panic ch) a' w)
    (h : walk P l.toArray C B (fun a' => ∀ w', C w' → Q .normal a' w') (List.range l.length) a) : (Code.region id l.toArray true).wp P Q a w := by
  refine wp_region_any hm ?_
  refine any_sound (D := none) (E := fun a' => ∀ w', C w' → Q .normal a' w') (fun a' w' hw h' => h' w' hw) hP _ _ _ _ rfl hC ?_
  exact any_lex hs (fun h0 => absurd rfl h0) (List.range l.length) l.length _ a (by simp) (fun h0 => absurd rfl h0) (by simpa using hB) h
theorem region_doomed {id : Nat} {Q : Exit → Act → World → Prop} {a : Act} {w : World} {l : List Oper} (C : World → Prop) (B : List PanicEntry → World → Prop) (d : Nat) (ks : List Nat) (hm : P.follows .mixedOrders = true) (hs : Region.noSelect l.toArray = true)
    (hB : (lexK l.toArray (some d) ks (Array.replicate l.length false) && decide (ks.length < l.length)) = true) (hC : C w.drew) (hP : ∀ ch a' w, a'.defers = a.defers → B ch w → Q (.panic ch) a' w)
    (h : walk P l.toArray C B (DoomAt P l.toArray C B d) ks a) : (Code.region id l.toArray true).wp P Q a w := by
  refine wp_region_any hm ?_
  simp only [Bool.and_eq_true, decide_eq_true_eq] at hB
  refine any_sound (D := some d) (E := fun _ => False) (fun _ _ _ h' => h'.elim) hP _ _ _ _ rfl hC ?_
  refine any_lex hs (fun _ _ h' => h') ks l.toArray.size _ a (by simpa using Nat.le_of_lt hB.2) (fun _ => by simpa using hB.2) (by simpa using hB.1) ?_
  exact h
structure R (P : Program) (C : World → Prop) (B : List PanicEntry → World → Prop) (w : World) (v : Value) (r : Result Next) : Prop where
  mk :: (out : calmR P C B w v r)
structure DR (P : Program) (B : List PanicEntry → World → Prop) (w : World) (r : Result Next) : Prop where
  mk :: (out : doomR P B w r)
theorem walk_nil {Q : Act → Prop} {a : Act} (h : Q a) : walk P ops C B Q [] a := h
theorem walk_ex {Q : Act → Prop} {a : Act} {k : Nat} {ks : List Nat} {o : Oper} {d : Tmp} (ho : ops[k]? = some o) (hd : o.dst = some d) (hw : Region.wanted o (yielded ops a.tmps) = true)
    (h : ∃ v, (∀ w, C w → R P C B w v ((execOp a.eval o).run P w)) ∧ walk P ops C B Q ks { tmps := a.tmps.setIfInBounds d v, defers := a.defers }) : walk P ops C B Q (k :: ks) a :=
  let ⟨v, h1, h2⟩ := h; ⟨o, ho, v, .inl ⟨hw, fun w hw => (h1 w hw).out⟩, by rw [hd]; exact h2⟩
theorem walk_doom {a : Act} {d : Nat} {o : Oper} (ho : ops[d]? = some o) (hw : Region.wanted o (yielded ops a.tmps) = true) (h : ∀ w, C w → DR P B w ((execOp a.eval o).run P w)) : walk P ops C B (DoomAt P ops C B d) [] a :=
  ⟨o, ho, hw, fun w hw => (h w hw).out⟩
theorem calm_value {w : World} {v : Value} {r : Result Next} (h : r = .ok (.value v) w) : R P C B w v r := by rw [h]; exact ⟨⟨rfl, rfl⟩⟩
theorem calm_call {w : World} {v : Value} {f : FuncId} {args : Array Value} {r : Result Next} (h : r = .ok (.enter f args) w)
    (hc : Calls P f args w fun e w'' => (e = .returned v ∧ C w'') ∨ ∃ ch, e = .panicked ch ∧ B ch w'') : R P C B w v r := by rw [h]; exact ⟨⟨rfl, hc⟩⟩
theorem doom_call {w : World} {f : FuncId} {args : Array Value} {r : Result Next} (h : r = .ok (.enter f args) w)
    (hc : Calls P f args w fun e w'' => ∃ ch, e = .panicked ch ∧ B ch w'') : DR P B w r := by rw [h]; exact ⟨⟨rfl, hc⟩⟩
end
end Go.Proofs.Ytpphpcmbpbppoaa.Calm
end
section
namespace Go.Proofs.Ytpphpcmbpbppoaa.Calm
open Go
set_option linter.unusedVariables false
section
variable {P : Program}
inductive Mark where
  | h (k : Nat)
  | c (k : Nat)
def mix (P : Program) (ops : Array Oper) (Q : Exit → Act → World → Prop) (S : World → Prop) : List Mark → Act → World → Prop
  | [], a, w => Q .normal a w
  | .h k :: r, a, w => ∃ o, ops[k]? = some o ∧ ∃ v, YieldsIf P ops S o v a ∧ mix P ops Q S r (a.put o.dst v) w
  | .c k :: r, a, w => ∃ o, ops[k]? = some o ∧ Region.wanted o (yielded ops a.tmps) = true ∧ o.wp P a w (fun a' w' => S w' ∧ mix P ops Q S r a' w') Q
def mixB (ops : Array Oper) : List Mark → Array Bool → Bool
  | [], ls => (Region.ready .any ops ls).isEmpty
  | .h k :: r, ls => (Region.ready .any ops ls).contains k && Region.free .any ops ls k && mixB ops r (ls.setIfInBounds k true)
  | .c k :: r, ls => decide (Region.ready .any ops ls = [k]) && mixB ops r (ls.setIfInBounds k true)
theorem mix_held {ops : Array Oper} {Q : Exit → Act → World → Prop} {S : World → Prop} (hs : Region.noSelect ops = true) (hQ : ∀ c (a a' : Act) w, a'.defers = a.defers → Q (.panic c) a' w → Q (.panic c) a w) :
    ∀ (ms : List Mark) (ls : Array Bool) (a : Act) (w : World), S w → mixB ops ms ls = true → mix P ops Q S ms a w → wpAnyH P .any ops Q S ms.length ls a w
  | [], ls, a, w, _, hB, h => ⟨by simpa [mixB] using hB, h⟩
  | .h k :: r, ls, a, w, hS, hB, h => by
    simp only [mixB, Bool.and_eq_true] at hB
    obtain ⟨o, ho, v, hy, h⟩ := h
    exact wpAnyH_take ho hs hB.1.2 hB.1.1 (fun c a' w' hq => hQ c _ _ w' (by cases o.dst <;> rfl) hq) hy hS (mix_held hs hQ r _ _ w hS hB.2 h)
  | .c k :: r, ls, a, w, hS, hB, h => by
    simp only [mixB, Bool.and_eq_true, decide_eq_true_eq] at hB
    obtain ⟨o, ho, hg, h⟩ := h
    refine ⟨fun h1 => (by rw [hB.1] at h1; cases h1), fun i hi => ?_⟩
    rw [hB.1] at hi
    have hik : i = k := by simpa using hi
    subst hik
    unfold wpOp
    simp only [ho, hg, if_true]
    exact .inl (Oper.wp_mono (fun a' w' h' => ⟨h'.1, mix_held hs hQ r _ a' w' h'.1 hB.2 h'.2⟩) h)
theorem region_mix {id : Nat} {Q : Exit → Act → World → Prop} {a : Act} {w : World} {l : List Oper} (ms : List Mark) (S : World → Prop) (hm : P.follows .mixedOrders = true)
    (hB : (Region.noSelect l.toArray && decide (ms.length = l.length) && mixB l.toArray ms (Array.replicate l.length false)) = true)
    (hS : S w.drew) (hQ : ∀ c (a a' : Act) w, a'.defers = a.defers → Q (.panic c) a' w → Q (.panic c) a w)
    (h : mix P l.toArray Q S ms a w.drew) : (Code.region id l.toArray true).wp P Q a w := by
  simp only [Bool.and_eq_true, decide_eq_true_eq] at hB
  refine wp_region_held_drew (S := S) hm hS fun hS' => ?_
  have := mix_held hB.1.1 hQ ms (Array.replicate l.length false) a w.drew hS' hB.2 h
  rw [hB.1.2] at this
  simpa using this
theorem mix_h {ops : Array Oper} {Q : Exit → Act → World → Prop} {S : World → Prop} {a : Act} {w : World} {k : Nat} {ks : List Mark} {o : Oper} {d : Tmp} (ho : ops[k]? = some o) (hd : o.dst = some d) (hw : Region.wanted o (yielded ops a.tmps) = true)
    (h : ∃ v, (∀ w, S w → VR w v ((execOp a.eval o).run P w)) ∧ mix P ops Q S ks { tmps := a.tmps.setIfInBounds d v, defers := a.defers } w) : mix P ops Q S (.h k :: ks) a w :=
  let ⟨v, h1, h2⟩ := h; ⟨o, ho, v, .inl ⟨hw, fun w hw => (h1 w hw).out⟩, by rw [hd]; exact h2⟩
theorem mix_nil {ops : Array Oper} {Q : Exit → Act → World → Prop} {S : World → Prop} {a : Act} {w : World} (h : Q .normal a w) : mix P ops Q S [] a w := h
structure ER (w : World) (f : FuncId) (args : Array Value) (r : Result Next) : Prop where
  mk :: (out : r = .ok (.enter f args) w)
theorem mix_call {ops : Array Oper} {Q : Exit → Act → World → Prop} {S : World → Prop} {a : Act} {w : World} {k : Nat} {ks : List Mark} {o : Oper} {d : Tmp} {f : FuncId} {args : Array Value} (ho : ops[k]? = some o) (hd : o.dst = some d) (hg : Region.wanted o (yielded ops a.tmps) = true)
    (hr : ER w f args ((execOp a.eval o).run P w))
    (hc : Calls P f args w fun e w'' => (∃ v, e = .returned v ∧ S w'' ∧ mix P ops Q S ks { tmps := a.tmps.setIfInBounds d v, defers := a.defers } w'') ∨ ∃ ch, e = .panicked ch ∧ Q (.panic ch) a w'') : mix P ops Q S (.c k :: ks) a w := by
  refine ⟨o, ho, hg, ?_⟩
  unfold Oper.wp
  rw [hr.out, Oper.upon_enter]
  refine hc.mono ?_
  rintro e w'' (⟨v, rfl, hS, h⟩ | ⟨ch, rfl, h⟩)
  · refine ⟨hS, ?_⟩
    rw [hd]; exact h
  · exact h
end
end Go.Proofs.Ytpphpcmbpbppoaa.Calm
end
section
namespace Go.Proofs.Ytpphpcmbpbppoaa.Calm
open Go
set_option linter.unusedVariables false
section
variable {P : Program}
structure VW (w : World) (v : Value) (w' : World) (r : Result Next) : Prop where
  mk :: (out : r = .ok (.value v) w')
structure SW (w' : World) (r : Result Next) : Prop where
  mk :: (out : r = .ok .skip w')
theorem mix_value {ops : Array Oper} {Q : Exit → Act → World → Prop} {S : World → Prop} {a : Act} {w w' : World} {v : Value} {k : Nat} {ks : List Mark} {o : Oper} {d : Tmp} (ho : ops[k]? = some o) (hd : o.dst = some d) (hg : Region.wanted o (yielded ops a.tmps) = true)
    (hr : VW w v w' ((execOp a.eval o).run P w)) (hS : S w') (h : mix P ops Q S ks { tmps := a.tmps.setIfInBounds d v, defers := a.defers } w') : mix P ops Q S (.c k :: ks) a w := by
  refine ⟨o, ho, hg, ?_⟩
  unfold Oper.wp
  rw [hr.out, Oper.upon_value]
  refine ⟨hS, ?_⟩
  rw [hd]; exact h
theorem mix_store {ops : Array Oper} {Q : Exit → Act → World → Prop} {S : World → Prop} {a : Act} {w w' : World} {k : Nat} {ks : List Mark} {o : Oper} (ho : ops[k]? = some o) (hd : o.dst = none) (hg : Region.wanted o (yielded ops a.tmps) = true)
    (hr : SW w' ((execOp a.eval o).run P w)) (hS : S w') (h : mix P ops Q S ks a w') : mix P ops Q S (.c k :: ks) a w := by
  refine ⟨o, ho, hg, ?_⟩
  unfold Oper.wp
  rw [hr.out, Oper.upon_skip]
  refine ⟨hS, ?_⟩
  rw [hd]; exact h
end
end Go.Proofs.Ytpphpcmbpbppoaa.Calm
end
section
namespace Go.Proofs.Ytpphpcmbpbppoaa.Mach
open Go.RowKit Go.Proofs.YtpphpcmbpbppoaaW.PrintWords Go.Proofs.YtpphpcmbpbppoaaW.PrintLast Go.Proofs.YtpphpcmbpbppoaaW.PrintMore
set_option linter.unusedVariables false
abbrev classes : Value := .agg #[.int .i64 4, .int .i64 64, .int .i64 262144, .int .i64 16, .int .i64 32, .int .i64 263168, .int .i64 64, .int .i64 16, .int .i64 265216, .int .i64 128, .int .i64 8, .int .i64 269312]
set_option maxHeartbeats 1000000 in
set_option maxRecDepth 100000 in
theorem all (w : World) :
    Calls Try.prog 54 #[] w fun e w' => e = .returned classes ∧ Below w.heap.size w w' := by
  go_enter Try.func54, Try.ntmps54
  go_wp2_with fail
  refine wp_loop_rounds 5 ?_
  rw [rounds_succ]
  go_wp2
  go_quiet (fail)
  go_wp2
  rw [rounds_succ]
  go_wp2
  go_quiet (fail)
  go_wp2
  rw [rounds_succ]
  go_wp2
  go_quiet (fail)
  go_wp2
  rw [rounds_succ]
  go_wp2
  go_quiet (fail)
  go_wp2
  rw [rounds_succ]
  go_wp2
  refine bodyPost_ret (v := classes) ?_ rfl ⟨rfl, ?_⟩
  · simp [results, Try.results54, go_sem]
  · repeat (first | with_reducible exact Below.refl _ _ | with_reducible refine below_alloc ?_ _ | with_reducible refine pw_below_drewN ?_ _ | with_reducible refine Below.setCell ?_ (by simp) _)
end Go.Proofs.Ytpphpcmbpbppoaa.Mach
end
