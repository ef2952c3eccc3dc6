/- Steps toward the law Fuel, merged from several texts (some of them began as the kit's print). No condition. -/
import Derived.OrdersHeld
import Derived.StillTail
import Derived.Deep.RegionHeld
import Derived.Laws.CopyOwn
import Derived.Deep.WholeRow
import Derived.Great.Walk
import Derived.Orders
import Derived.Still
import Derived.Deep.Draws
import Derived.Below
import Derived.Test.YtpphpcmbpbppoaaZFuel6
section
namespace Go.Proofs.Ytpphpcmbpbppoaa.Calm
open Go
set_option linter.unusedVariables false
set_option linter.unusedSimpArgs false
section
variable {P : Program}
def tailQ (P : Program) (l : List Oper) (n : Nat) (Q : Exit → Act → World → Prop) : Exit → Act → World → Prop
 | .normal, a, w => wpList P l.toArray Q (l.drop n) a w
 | e, a, w => Q e a w
def splitB (l : List Oper) (n : Nat) : Bool :=
 decide (n < l.length) && Region.sinkB .any l.toArray n && Region.chainB .any l.toArray n && Region.seqB .any l.toArray (l.length - n) n ((Array.replicate n true) ++ (Array.replicate (l.length - n) false)) &&
 ((List.range n).all fun i => match l[i]? with | none => true | some o => o.guard.isNone && o.after.all fun e => decide (e.on < i))
theorem getD_app (x : Array Bool) (m i : Nat) (d : Bool) (h : i < x.size) : (x ++ Array.replicate m false).getD i d = x.getD i d := by
 simp [Array.getD, h, Array.getElem_append]
 intro h2; omega
theorem getD_any {x : Array Bool} {i : Nat} {d e : Bool} (h : i < x.size) : x.getD i d = x.getD i e := by simp [Array.getD, h]
theorem least (p : Nat → Prop) : ∀ n, (∃ i, i < n ∧ p i) → ∃ i, i < n ∧ p i ∧ ∀ j, j < i → ¬ p j
 | 0, ⟨_, h, _⟩ => absurd h (Nat.not_lt_zero _)
 | n + 1, ⟨i, hi, hp⟩ => by
  by_cases h : ∃ i, i < n ∧ p i
  ·obtain ⟨j, hj, h1, h2⟩ := least p n h
   exact ⟨j, by omega, h1, h2⟩
  ·exact ⟨i, hi, hp, fun j hj hpj => h ⟨j, by omega, hpj⟩⟩
theorem upon_tail {l : List Oper} {n : Nat} {Q : Exit → Act → World → Prop} {o : Oper} {a : Act} {K : Act → World → Prop} {r : Result Next} (h : o.upon P a K (tailQ P l n Q) r) : o.upon P a K Q r := by
 cases r with
 | ok nx w => cases nx <;> exact h
 | halt x w => cases x <;> exact h
theorem split_ind {l : List Oper} {n : Nat} {Q : Exit → Act → World → Prop} (hB : splitB l n = true) : ∀ (fuel : Nat) (ls : Array Bool) (a : Act) (w : World), ls.size = n → HeadInv .any l.toArray n (ls ++ Array.replicate (l.length - n) false) →
  ls.toList.count false = fuel → wpAny P .any (l.take n).toArray (tailQ P l n Q) fuel ls a w → wpAny P .any l.toArray Q (fuel + (l.length - n)) (ls ++ Array.replicate (l.length - n) false) a w := by
 simp only [splitB, Bool.and_eq_true, decide_eq_true_eq] at hB
 obtain ⟨⟨⟨⟨hn, hs⟩, hc⟩, hq⟩, hg⟩ := hB
 intro fuel
 induction fuel with
 | zero =>
  intro ls a w hsz inv hct h
  have e : ls = Array.replicate n true := by
   apply Array.ext
   ·simp [hsz]
   ·intro i h1 h2
    have : ls[i] ≠ false := fun e => by
     have : false ∈ ls.toList := by rw [← e]; simp
     exact absurd (List.count_pos_iff.2 this) (by omega)
    simpa using this
  subst e
  have := wpAny_of_seq (P := P) (md := .any) (ops := l.toArray) (Q' := Q) (l.drop n) n _ a w (fun j => by simp) (by rw [List.length_drop]; exact hq) h.2
  rw [List.length_drop] at this
  rw [Nat.zero_add]
  exact this
 | succ f ih =>
  intro ls a w hsz inv hct h
  rw [show f + 1 + (l.length - n) = (f + (l.length - n)) + 1 by omega]
  obtain ⟨i0, hi0, hun, hmin⟩ : ∃ i0, i0 < n ∧ ls.getD i0 true = false ∧ ∀ j, j < i0 → ls.getD j false = true := by
   have hpos : 0 < ls.toList.count false := by omega
   have hex : ∃ i, i < n ∧ (i < n ∧ ls.getD i true = false) := by
    obtain ⟨i, hi, he⟩ := List.mem_iff_getElem.1 (List.count_pos_iff.1 hpos)
    have hi' : i < ls.size := by simpa using hi
    exact ⟨i, by omega, by omega, by simpa [hi'] using he⟩
   obtain ⟨i, hi, h1, h2⟩ := least (fun i => i < n ∧ ls.getD i true = false) n hex
   refine ⟨i, hi, h1.2, fun j hj => ?_⟩
   have := h2 j hj
   rw [getD_any (e := true) (by omega)]
   cases hh : ls.getD j true with
   | true => rfl
   | false => exact absurd ⟨by omega, hh⟩ this
  have head : ∀ i, i < n → ∃ o, l[i]? = some o ∧ o.guard = none ∧ ∀ e ∈ o.after, e.on < i := by
   intro i hi
   have h1 := List.all_eq_true.1 hg i (List.mem_range.2 hi)
   have ho : l[i]? = some (l[i]'(by omega)) := List.getElem?_eq_getElem _
   rw [ho] at h1
   simp only [Bool.and_eq_true, Option.isNone_iff_eq_none, Array.all_eq_true'] at h1
   exact ⟨_, ho, h1.1, fun e he => by simpa using h1.2 e he⟩
  have tl : ∀ t, n ≤ t → t ∉ Region.ready .any l.toArray (ls ++ Array.replicate (l.length - n) false) :=
   tail_waits hs hc (by simpa using hn) inv (n - i0) i0 rfl hi0 (by rw [getD_app _ _ _ _ (by omega)]; exact hun)
  refine ⟨fun h0 => ?_, fun i hi => ?_⟩
  ·obtain ⟨o, ho, hgd, haf⟩ := head i0 hi0
   have : i0 ∈ Region.ready .any l.toArray (ls ++ Array.replicate (l.length - n) false) := by
    refine mem_ready.2 ⟨by rw [getD_app _ _ _ _ (by omega)]; exact hun, o, by simpa using ho, fun e he _ => ?_⟩
    rw [getD_app _ _ _ _ (by have := haf e he; omega)]
    exact hmin _ (haf e he)
   rw [h0] at this
   cases this
  ·have hin : i < n := by
    rcases Nat.lt_or_ge i n with h' | h'
    ·exact h'
    ·exact absurd hi (tl i h')
   obtain ⟨o, ho, hgd, haf⟩ := head i hin
   obtain ⟨hui, o', ho', hall⟩ := mem_ready.1 hi
   obtain rfl : o' = o := Option.some.inj (ho'.symm.trans (by simpa using ho))
   have hos : (l.take n).toArray[i]? = some o' := by simp [List.getElem?_take, hin, ho]
   rw [getD_app _ _ _ _ (by omega)] at hui
   have hr : i ∈ Region.ready .any (l.take n).toArray ls := by
    refine mem_ready.2 ⟨hui, o', hos, fun e he hb => ?_⟩
    have := hall e he hb
    rwa [getD_app _ _ _ _ (by have := haf e he; omega)] at this
   have hw := h.2 i hr
   unfold wpOp at hw ⊢
   simp only [hos, ho', Region.wanted, hgd, if_true] at hw ⊢
   have hset : (ls ++ Array.replicate (l.length - n) false).setIfInBounds i true = ls.setIfInBounds i true ++ Array.replicate (l.length - n) false := by
    apply Array.ext_getElem?
    intro j
    have hil : i < ls.size := by omega
    rw [Array.getElem?_append]
    by_cases e : i = j
    ·subst e
     rw [if_pos (by simpa using hil), Array.getElem?_setIfInBounds_self_of_lt hil, Array.getElem?_setIfInBounds_self_of_lt (by simp; omega)]
    ·rw [Array.getElem?_setIfInBounds_ne e, Array.getElem?_append, Array.getElem?_setIfInBounds_ne e, Array.size_setIfInBounds]
   have next : ∀ a' w', wpAny P .any (l.take n).toArray (tailQ P l n Q) f (ls.setIfInBounds i true) a' w' → wpAny P .any l.toArray Q (f + (l.length - n)) ((ls ++ Array.replicate (l.length - n) false).setIfInBounds i true) a' w' := by
    intro a' w' h'
    rw [hset]
    refine ih _ a' w' (by simpa using hsz) (by rw [← hset]; exact inv.set hi hin) ?_ h'
    have hi2 : i < ls.toList.length := by simp; omega
    have he : ls.toList[i] = false := by
     have : i < ls.size := by omega
     simpa [this] using hui
    rw [Array.toList_setIfInBounds, List.count_set hi2, he, hct]
    simp
   rcases hw with hw | ⟨h1, a', w', h2⟩
   ·exact .inl (Oper.wp_mono next (upon_tail hw))
   ·exact .inr ⟨h1, a', w', h2⟩
theorem region_split {id : Nat} {Q : Exit → Act → World → Prop} {a : Act} {w : World} {l : List Oper} (n : Nat) (S : World → Prop) (hm : P.follows .mixedOrders = true) (hB : splitB l n = true) (hS : S w.drew)
  (h : S w.drew → wpAnyH P .any (l.take n).toArray (tailQ P l n Q) S (l.take n).toArray.size (Array.replicate (l.take n).toArray.size false) a w.drew) : (Code.region id l.toArray true).wp P Q a w := by
 have hB' := hB
 simp only [splitB, Bool.and_eq_true, decide_eq_true_eq] at hB'
 obtain ⟨⟨⟨⟨hn, hs⟩, hc⟩, hq⟩, hg⟩ := hB'
 have hsz : (l.take n).toArray.size = n := by simp; omega
 refine wp_region_any hm ?_
 have h1 := wpAny_of_held _ _ _ _ (h hS)
 rw [hsz] at h1
 have hrep : Array.replicate l.toArray.size false = Array.replicate n false ++ Array.replicate (l.length - n) false := by
  apply Array.ext
  ·simp; omega
  ·intro j h1 h2
   simp [Array.getElem_append]
 have := split_ind hB n (Array.replicate n false) a w.drew (by simp) ?_ (by simp) h1
 ·rw [hrep, show l.toArray.size = n + (l.length - n) by simp; omega]
  exact this
 ·refine ⟨by simp; omega, fun j oj _ hl => ?_, fun t ht ht' => ?_⟩
  ·rw [← hrep, getD_replicate_false] at hl
   cases hl
  ·rw [← hrep]
   exact getD_in (by simpa using ht') (getD_replicate_false _ _)
end
end Go.Proofs.Ytpphpcmbpbppoaa.Calm
end
section
namespace Go.Proofs.Ytpphpcmbpbppoaa.Calm
open Go
set_option linter.unusedVariables false
section
variable {P : Program}
def heads (P : Program) (ops : Array Oper) (S : World → Prop) (Z : Act → Prop) : List Nat → Act → Prop
 | [], a => Z a
 | k :: ks, a => ∃ o, ops[k]? = some o ∧ ∃ v, YieldsIf P ops S o v a ∧ heads P ops S Z ks (a.put o.dst v)
def headsB (ops : Array Oper) : List Nat → Array Bool → Bool
 | [], _ => true
 | k :: ks, ls => (Region.ready .any ops ls).contains k && Region.free .any ops ls k && headsB ops ks (ls.setIfInBounds k true)
def listedAll (ks : List Nat) (ls : Array Bool) : Array Bool := ks.foldl (fun ls k => ls.setIfInBounds k true) ls
theorem heads_held {ops : Array Oper} {Q : Exit → Act → World → Prop} {S : World → Prop} (hs : Region.noSelect ops = true) (hQ : ∀ c (a a' : Act) w, a'.defers = a.defers → Q (.panic c) a' w → Q (.panic c) a w) {w : World} (hS : S w) (fuel : Nat) :
  ∀ (ks : List Nat) (ls : Array Bool) (a : Act), headsB ops ks ls = true → heads P ops S (fun a' => wpAnyH P .any ops Q S fuel (listedAll ks ls) a' w) ks a → wpAnyH P .any ops Q S (ks.length + fuel) ls a w
 | [], ls, a, _, h => by rw [List.length_nil, Nat.zero_add]; exact h
 | k :: ks, ls, a, hB, h => by
  simp only [headsB, Bool.and_eq_true] at hB
  obtain ⟨o, ho, v, hy, h⟩ := h
  rw [show (k :: ks).length + fuel = (ks.length + fuel) + 1 by simp; omega]
  exact wpAnyH_take ho hs hB.1.2 hB.1.1 (fun c a' w' hq => hQ c _ _ w' (by cases o.dst <;> rfl) hq) hy hS (heads_held hs hQ hS fuel ks _ _ hB.2 h)
def chainS (P : Program) (ops : Array Oper) (Q : Exit → Act → World → Prop) (S : World → Prop) : List Oper → Act → World → Prop
 | [], a, w => Q .normal a w
 | o :: r, a, w => o.guard = none ∧ o.wp P a w (fun a' w' => S w' ∧ chainS P ops Q S r a' w') Q
theorem chain_held {ops : Array Oper} {Q : Exit → Act → World → Prop} {S : World → Prop} : ∀ (l : List Oper) (k : Nat) (listed : Array Bool) (a : Act) (w : World), (∀ j, l[j]? = ops[k + j]?) →
  Region.seqB .any ops l.length k listed = true → chainS P ops Q S l a w → wpAnyH P .any ops Q S l.length listed a w
 | [], _, _, _, _, _, hB, h => ⟨by simpa [Region.seqB] using hB, h⟩
 | o :: l, k, listed, a, w, hl, hB, h => by
  have h0 : ops[k]? = some o := by simpa using (hl 0).symm
  simp only [List.length_cons, Region.seqB, Bool.and_eq_true, decide_eq_true_eq] at hB
  refine ⟨fun h1 => (by rw [hB.1] at h1; cases h1), fun i hi => ?_⟩
  rw [hB.1] at hi
  have hik : i = k := by simpa using hi
  subst hik
  unfold wpOp
  simp only [h0, Region.wanted, h.1, if_true]
  exact .inl (Oper.wp_mono (fun a' w' h' => ⟨h'.1, chain_held l (i + 1) _ a' w' (fun j => by have := hl (j + 1); simpa [Nat.add_assoc, Nat.add_comm 1 j] using this) hB.2 h'.2⟩) h.2)
theorem region_heads {id : Nat} {Q : Exit → Act → World → Prop} {a : Act} {w : World} {l : List Oper} (n m : Nat) (S : World → Prop) (hm : P.follows .mixedOrders = true) (hB : splitB l m = true)
  (hH : (decide (n ≤ m) && Region.noSelect (l.take m).toArray && headsB (l.take m).toArray (List.range n) (Array.replicate m false) && Region.seqB .any (l.take m).toArray (m - n) n (listedAll (List.range n) (Array.replicate m false))) = true)
  (hS : S w.drew) (hQ : ∀ c (a a' : Act) w, a'.defers = a.defers → Q (.panic c) a' w → Q (.panic c) a w)
  (h : heads P (l.take m).toArray S (fun a' => chainS P (l.take m).toArray (tailQ P l m Q) S ((l.take m).drop n) a' w.drew) (List.range n) a) : (Code.region id l.toArray true).wp P Q a w := by
 have hB' := hB
 simp only [splitB, Bool.and_eq_true, decide_eq_true_eq] at hB'
 simp only [Bool.and_eq_true, decide_eq_true_eq] at hH
 obtain ⟨⟨⟨hnm, hno⟩, hhd⟩, hsq⟩ := hH
 have hlm : m < l.length := hB'.1.1.1.1
 have hsz : (l.take m).toArray.size = m := by simp; omega
 refine region_split m S hm hB hS fun _ => ?_
 rw [hsz]
 have hlen : ((l.take m).drop n).length = m - n := by simp; omega
 have := heads_held (P := P) (Q := tailQ P l m Q) (S := S) hno (fun c a a' w' hd hq => hQ c a a' w' hd hq) hS (m - n) (List.range n) (Array.replicate m false) a hhd ?_
 ·rw [List.length_range, show n + (m - n) = m by omega] at this
  exact this
 ·have mono : ∀ (ks : List Nat) (a : Act), heads P (l.take m).toArray S (fun a' => chainS P (l.take m).toArray (tailQ P l m Q) S ((l.take m).drop n) a' w.drew) ks a → heads P (l.take m).toArray S (fun a' => wpAnyH P .any (l.take m).toArray (tailQ P l m Q) S (m - n) (listedAll (List.range n) (Array.replicate m false)) a' w.drew) ks a := by
   intro ks
   induction ks with
   | nil =>
    intro a h
    have := chain_held ((l.take m).drop n) n (listedAll (List.range n) (Array.replicate m false)) a w.drew (fun j => by simp) (by rw [hlen]; exact hsq) h
    rw [hlen] at this
    exact this
   | cons k ks ih =>
    intro a ⟨o, ho, v, hy, h⟩
    exact ⟨o, ho, v, hy, ih _ h⟩
  exact mono _ _ h
structure VR (w : World) (v : Value) (r : Result Next) : Prop where
 mk :: (out : r = .ok (.value v) w)
theorem heads_ex {ops : Array Oper} {S : World → Prop} {Z : Act → Prop} {a : Act} {k : Nat} {ks : List Nat} {o : Oper} {d : Tmp} (ho : ops[k]? = some o) (hd : o.dst = some d) (hw : Region.wanted o (yielded ops a.tmps) = true)
  (h : ∃ v, (∀ w, S w → VR w v ((execOp a.eval o).run P w)) ∧ heads P ops S Z ks { tmps := a.tmps.setIfInBounds d v, defers := a.defers }) : heads P ops S Z (k :: ks) a :=
 let ⟨v, h1, h2⟩ := h; ⟨o, ho, v, .inl ⟨hw, fun w hw => (h1 w hw).out⟩, by rw [hd]; exact h2⟩
theorem heads_nil {ops : Array Oper} {S : World → Prop} {Z : Act → Prop} {a : Act} (h : Z a) : heads P ops S Z [] a := h
theorem chain_ex {ops : Array Oper} {Q : Exit → Act → World → Prop} {S : World → Prop} {o : Oper} {r : List Oper} {a : Act} {w : World} (hg : o.guard = none) (h : o.wp P a w (fun a' w' => S w' ∧ chainS P ops Q S r a' w') Q) : chainS P ops Q S (o :: r) a w := ⟨hg, h⟩
theorem chain_value {ops : Array Oper} {Q : Exit → Act → World → Prop} {S : World → Prop} {o : Oper} {r : List Oper} {a : Act} {w w' : World} {v : Value} {d : Tmp} (hg : o.guard = none) (hd : o.dst = some d) (hr : (execOp a.eval o).run P w = .ok (.value v) w') (hS : S w')
  (h : chainS P ops Q S r { tmps := a.tmps.setIfInBounds d v, defers := a.defers } w') : chainS P ops Q S (o :: r) a w := by
 refine ⟨hg, ?_⟩
 unfold Oper.wp
 rw [hr]
 exact ⟨hS, by rw [hd]; exact h⟩
theorem chain_done {ops : Array Oper} {l : List Oper} {m : Nat} {Q : Exit → Act → World → Prop} {S : World → Prop} {a : Act} {w : World} (h : wpList P l.toArray Q (l.drop m) a w) : chainS P ops (tailQ P l m Q) S [] a w := h
end
end Go.Proofs.Ytpphpcmbpbppoaa.Calm
end
section
namespace Go.Proofs.Ytpphpcmbpbppoaa.Calm
open Go
set_option linter.unusedVariables false
section
variable {P : Program}
inductive Mark where
 | h (k : Nat)
 | c (k : Nat)
def mix (P : Program) (ops : Array Oper) (Q : Exit → Act → World → Prop) (S : World → Prop) : List Mark → Act → World → Prop
 | [], a, w => Q .normal a w
 | .h k :: r, a, w => ∃ o, ops[k]? = some o ∧ ∃ v, YieldsIf P ops S o v a ∧ mix P ops Q S r (a.put o.dst v) w
 | .c k :: r, a, w => ∃ o, ops[k]? = some o ∧ Region.wanted o (yielded ops a.tmps) = true ∧ o.wp P a w (fun a' w' => S w' ∧ mix P ops Q S r a' w') Q
def mixB (ops : Array Oper) : List Mark → Array Bool → Bool
 | [], ls => (Region.ready .any ops ls).isEmpty
 | .h k :: r, ls => (Region.ready .any ops ls).contains k && Region.free .any ops ls k && mixB ops r (ls.setIfInBounds k true)
 | .c k :: r, ls => decide (Region.ready .any ops ls = [k]) && mixB ops r (ls.setIfInBounds k true)
theorem mix_held {ops : Array Oper} {Q : Exit → Act → World → Prop} {S : World → Prop} (hs : Region.noSelect ops = true) (hQ : ∀ c (a a' : Act) w, a'.defers = a.defers → Q (.panic c) a' w → Q (.panic c) a w) :
  ∀ (ms : List Mark) (ls : Array Bool) (a : Act) (w : World), S w → mixB ops ms ls = true → mix P ops Q S ms a w → wpAnyH P .any ops Q S ms.length ls a w
 | [], ls, a, w, _, hB, h => ⟨by simpa [mixB] using hB, h⟩
 | .h k :: r, ls, a, w, hS, hB, h => by
  simp only [mixB, Bool.and_eq_true] at hB
  obtain ⟨o, ho, v, hy, h⟩ := h
  exact wpAnyH_take ho hs hB.1.2 hB.1.1 (fun c a' w' hq => hQ c _ _ w' (by cases o.dst <;> rfl) hq) hy hS (mix_held hs hQ r _ _ w hS hB.2 h)
 | .c k :: r, ls, a, w, hS, hB, h => by
  simp only [mixB, Bool.and_eq_true, decide_eq_true_eq] at hB
  obtain ⟨o, ho, hg, h⟩ := h
  refine ⟨fun h1 => (by rw [hB.1] at h1; cases h1), fun i hi => ?_⟩
  rw [hB.1] at hi
  have hik : i = k := by simpa using hi
  subst hik
  unfold wpOp
  simp only [ho, hg, if_true]
  exact .inl (Oper.wp_mono (fun a' w' h' => ⟨h'.1, mix_held hs hQ r _ a' w' h'.1 hB.2 h'.2⟩) h)
theorem region_mix {id : Nat} {Q : Exit → Act → World → Prop} {a : Act} {w : World} {l : List Oper} (ms : List Mark) (S : World → Prop) (hm : P.follows .mixedOrders = true)
  (hB : (Region.noSelect l.toArray && decide (ms.length = l.length) && mixB l.toArray ms (Array.replicate l.length false)) = true)
  (hS : S w.drew) (hQ : ∀ c (a a' : Act) w, a'.defers = a.defers → Q (.panic c) a' w → Q (.panic c) a w)
  (h : mix P l.toArray Q S ms a w.drew) : (Code.region id l.toArray true).wp P Q a w := by
 simp only [Bool.and_eq_true, decide_eq_true_eq] at hB
 refine wp_region_held_drew (S := S) hm hS fun hS' => ?_
 have := mix_held hB.1.1 hQ ms (Array.replicate l.length false) a w.drew hS' hB.2 h
 rw [hB.1.2] at this
 simpa using this
theorem mix_h {ops : Array Oper} {Q : Exit → Act → World → Prop} {S : World → Prop} {a : Act} {w : World} {k : Nat} {ks : List Mark} {o : Oper} {d : Tmp} (ho : ops[k]? = some o) (hd : o.dst = some d) (hw : Region.wanted o (yielded ops a.tmps) = true)
  (h : ∃ v, (∀ w, S w → VR w v ((execOp a.eval o).run P w)) ∧ mix P ops Q S ks { tmps := a.tmps.setIfInBounds d v, defers := a.defers } w) : mix P ops Q S (.h k :: ks) a w :=
 let ⟨v, h1, h2⟩ := h; ⟨o, ho, v, .inl ⟨hw, fun w hw => (h1 w hw).out⟩, by rw [hd]; exact h2⟩
theorem mix_skip {ops : Array Oper} {Q : Exit → Act → World → Prop} {S : World → Prop} {a : Act} {w : World} {k : Nat} {ks : List Mark} {o : Oper} {d : Tmp} (ho : ops[k]? = some o) (hd : o.dst = some d) (hw : Region.wanted o (yielded ops a.tmps) = false)
  (h : mix P ops Q S ks { tmps := a.tmps.setIfInBounds d undef, defers := a.defers } w) : mix P ops Q S (.h k :: ks) a w :=
 ⟨o, ho, undef, .inr ⟨hw, rfl⟩, by rw [hd]; exact h⟩
theorem mix_nil {ops : Array Oper} {Q : Exit → Act → World → Prop} {S : World → Prop} {a : Act} {w : World} (h : Q .normal a w) : mix P ops Q S [] a w := h
structure ER (w : World) (f : FuncId) (args : Array Value) (r : Result Next) : Prop where
 mk :: (out : r = .ok (.enter f args) w)
theorem mix_call {ops : Array Oper} {Q : Exit → Act → World → Prop} {S : World → Prop} {a : Act} {w : World} {k : Nat} {ks : List Mark} {o : Oper} {d : Tmp} {f : FuncId} {args : Array Value} (ho : ops[k]? = some o) (hd : o.dst = some d) (hg : Region.wanted o (yielded ops a.tmps) = true)
  (hr : ER w f args ((execOp a.eval o).run P w))
  (hc : Calls P f args w fun e w'' => (∃ v, e = .returned v ∧ S w'' ∧ mix P ops Q S ks { tmps := a.tmps.setIfInBounds d v, defers := a.defers } w'') ∨ ∃ ch, e = .panicked ch ∧ Q (.panic ch) a w'') : mix P ops Q S (.c k :: ks) a w := by
 refine ⟨o, ho, hg, ?_⟩
 unfold Oper.wp
 rw [hr.out, Oper.upon_enter]
 refine hc.mono ?_
 rintro e w'' (⟨v, rfl, hS, h⟩ | ⟨ch, rfl, h⟩)
 ·refine ⟨hS, ?_⟩
  rw [hd]; exact h
 ·exact h
end
end Go.Proofs.Ytpphpcmbpbppoaa.Calm
end
section
namespace Go.Proofs.Ytpphpcmbpbppoaa.Calm
open Go
set_option linter.unusedVariables false
section
variable {P : Program}
structure VW (w : World) (v : Value) (w' : World) (r : Result Next) : Prop where
 mk :: (out : r = .ok (.value v) w')
structure SW (w' : World) (r : Result Next) : Prop where
 mk :: (out : r = .ok .skip w')
theorem mix_value {ops : Array Oper} {Q : Exit → Act → World → Prop} {S : World → Prop} {a : Act} {w w' : World} {v : Value} {k : Nat} {ks : List Mark} {o : Oper} {d : Tmp} (ho : ops[k]? = some o) (hd : o.dst = some d) (hg : Region.wanted o (yielded ops a.tmps) = true)
  (hr : VW w v w' ((execOp a.eval o).run P w)) (hS : S w') (h : mix P ops Q S ks { tmps := a.tmps.setIfInBounds d v, defers := a.defers } w') : mix P ops Q S (.c k :: ks) a w := by
 refine ⟨o, ho, hg, ?_⟩
 unfold Oper.wp
 rw [hr.out, Oper.upon_value]
 refine ⟨hS, ?_⟩
 rw [hd]; exact h
theorem mix_store {ops : Array Oper} {Q : Exit → Act → World → Prop} {S : World → Prop} {a : Act} {w w' : World} {k : Nat} {ks : List Mark} {o : Oper} (ho : ops[k]? = some o) (hd : o.dst = none) (hg : Region.wanted o (yielded ops a.tmps) = true)
  (hr : SW w' ((execOp a.eval o).run P w)) (hS : S w') (h : mix P ops Q S ks a w') : mix P ops Q S (.c k :: ks) a w := by
 refine ⟨o, ho, hg, ?_⟩
 unfold Oper.wp
 rw [hr.out, Oper.upon_skip]
 refine ⟨hS, ?_⟩
 rw [hd]; exact h
end
end Go.Proofs.Ytpphpcmbpbppoaa.Calm
end
section
namespace Go.Proofs.Ytpphpcmbpbppoaa.Mach
open Go.RowKit Go.Proofs.YtpphpcmbpbppoaaW.PrintWords Go.Proofs.YtpphpcmbpbppoaaW.PrintLast Go.Proofs.YtpphpcmbpbppoaaW.PrintMore
open Go.Proofs.Ytpphpcmbpbppoaa.Calm
open Go.Proofs.Ytpphpcmbpbppoaa.PMirFuel (S30 S57 S34 S37 S40 S43 S45 S48 k30 k57 k34 k37 k40 k43 k45 k48 rd_T30 rd_T57 rd_T34 rd_T37 rd_T40 rd_T43 rd_T45 rd_T48 at_T30 at_T57 at_T34 at_T40 at_T45 at_T48)
set_option linter.unusedVariables false
set_option linter.unusedSimpArgs false
variable {G : Glob} {S T : Nat → Prop} {L : Lay} {F F2 : Fr} {st : St} {w W w1 : World}
theorem In.set_calls (I : In G S L F st w) (n : Int) : In G S L F { st with calls := n } (w.setCell ⟨G.m, 10, none⟩ (.int .i64 n)) :=
 I.stored I.rep.ownM _ (I.rep.set_calls n) rfl rfl rfl I.inp I.inc
theorem In.set_depth (I : In G S L F st w) (n : Int) : In G S L F { st with depth := n } (w.setCell ⟨G.m, 9, none⟩ (.int .i64 n)) :=
 I.stored I.rep.ownM _ (I.rep.set_depth n) rfl rfl rfl I.inp I.inc
theorem In.set_steps (I : In G S L F st w) (n : Int) : In G S L F { st with steps := n } (w.setCell ⟨G.m, 3, none⟩ (.int .i64 n)) :=
 I.stored I.rep.ownM _ (I.rep.set_steps n) rfl rfl rfl I.inp I.inc
theorem own_cut {v : Value} {xs : List Int} (h : w.ownsRow 0 3 1 v xs.length (nums .i64 xs)) (n : Nat) (hn : n ≤ xs.length) : ∃ A cap, v = .slice A xs.length cap ∧ w.ownsRow 0 3 1 (.slice A n cap) (xs.take n).length (nums .i64 (xs.take n)) := by
 have hl : (xs.take n).length = n := by simp; omega
 rw [hl]
 rcases h.2 with ⟨rfl, h0⟩ | ⟨g, cap, cur, rfl, hb, hc, h1, h2, h3, h4⟩
 ·have e : xs.length = 0 := h0
  have e2 : n = 0 := by omega
  subst e2
  exact ⟨none, 0, by rw [e], by simpa [nums] using own_nil _ _ _ _⟩
 ·refine ⟨some ⟨g, 0, none⟩, cap, rfl, by simp [nums]; omega, .inr ⟨g, cap, cur, rfl, hb, hc, by omega, h2, h3, ?_⟩⟩
  have : cur.toList.take n = (cur.toList.take (xs.length * 1)).take n := by rw [List.take_take]; congr 1; omega
  rw [Nat.mul_one, this, h4]
  simp [nums, List.map_take]
theorem In.cut (I : In G S L F st w) (n : Nat) (hn : n ≤ st.stack.length) {A : Option Addr} {cap : Nat} (hv : L.sv = .slice A st.stack.length cap) :
  In G S { L with sv := .slice A n cap } F { st with stack := st.stack.take n } (w.setCell ⟨G.m, 6, none⟩ (.slice A n cap)) := by
 obtain ⟨A', cap', e, ho⟩ := own_cut I.rep.stk n hn
 rw [hv] at e
 obtain ⟨rfl, rfl⟩ : A = A' ∧ cap = cap' := by simpa using e
 have ob : (Value.slice A n cap).ownBlock = L.sv.ownBlock := by rw [hv]; cases A <;> rfl
 refine I.stored I.rep.ownM _ (I.rep.setM 6 _ rfl rfl rfl rfl rfl rfl (I.rep.rowM ho _ _) (I.rep.rowM I.rep.prt _ _) (fun b h => I.rep.ownS b (ob ▸ h)) I.rep.ownP (ob.symm ▸ I.rep.sc) I.rep.pc (ob.symm ▸ I.rep.sp) (fun v hv => I.rep.okS v (List.mem_of_mem_take hv))) rfl rfl rfl I.inp I.inc
theorem Rep.rowed {m : Nat} {x : Option Addr} (R : Rep S m L x st W) {xs : List Int} (hl : xs.length = st.stack.length) (hg : W.grownBy w1 L.sv.ownBlock) (ho : w1.ownsRow 0 3 1 L.sv xs.length (nums .i64 xs)) (hok : ∀ v, v ∈ xs → v ≤ 9223372036854775807) :
  Rep S m L x { st with stack := xs } w1 := by
 have nt : ∀ {b : Nat} {cs : Array Value} {t : TypeId}, Has W b cs t → t ≠ 3 → L.sv.ownBlock ≠ some b := fun hb ht e => by
  obtain ⟨cur, hc⟩ := Rep.has_own R.stk e
  exact hb.ne hc ht rfl
 have hm1 : Has w1 m (mcells L st x) 93 := R.head.of_block (grown_new hg _ R.head.lt (nt R.head (by decide)))
 have hc1 : Has w1 L.c (cellsA st.cells) 3 := R.cells.of_block (grown_new hg _ R.cells.lt R.sc)
 have hh1 : HeapIs w1 L.h L.u st.used := R.heap.of_blocks (grown_new hg _ R.heap.head.lt (nt R.heap.head (by decide))) (fun k hk => grown_new hg _ (R.heap.row k hk).lt (nt (R.heap.row k hk) (by decide)))
 have hs1 : w1.ownsRow 0 3 1 L.pv st.print.length (nums .i64 st.print) :=
  Rep.row_of_block R.prt (fun b e => grown_new hg _ (R.ltP b e) (fun e2 => by
   rcases R.sp with h | h
   ·rw [h] at e2; cases e2
   ·exact h (e2.trans e.symm)))
 exact ⟨hm1, hh1, hc1, ho, hs1, R.ownM, R.ownH, R.ownU, R.ownC, R.ownS, R.ownP, R.sc, R.pc, R.sp, hok, R.okC⟩
theorem In.rowed (I : In G S L F st W) {xs : List Int} (hl : xs.length = st.stack.length) (hg : W.grownBy w1 L.sv.ownBlock) (ho : w1.ownsRow 0 3 1 L.sv xs.length (nums .i64 xs)) (hok : ∀ v, v ∈ xs → v ≤ 9223372036854775807) :
  In G S L F { st with stack := xs } w1 ∧ Kept S W w1 := by
 have K : Kept S W w1 := (Kept.refl S W).grown hg (fun k e => .inl (I.rep.ownS k e))
 exact ⟨⟨I.rep.rowed hl hg ho hok, I.lA, I.lc, I.ln, I.base.trans (K.below_of I.ge I.base.size), I.ge, I.inp, I.inc, I.fr.kept K I.o1 I.o2 I.o3, I.o1, I.o2, I.o3, I.g3, fun b h => Nat.lt_of_lt_of_le (I.lt b h) K.size⟩, K⟩
theorem Making.rowed (M : Making G S F F2 st w W) {xs : List Int} (hl : xs.length = st.stack.length) (hok : ∀ v, v ∈ xs → v ≤ 9223372036854775807)
  {S' : Nat → Prop} {L' : Lay} (I : In G S' L' F st W) (hs : ∀ b, S' b → S b ∨ w.heap.size ≤ b) (a1 : ¬ S' F2.xb) (a2 : ¬ S' F2.hb) (a3 : ∀ b, F2.atv.ownBlock = some b → ¬ S' b)
  (hg : W.grownBy w1 L'.sv.ownBlock) (ho : w1.ownsRow 0 3 1 L'.sv xs.length (nums .i64 xs)) : Making G S F F2 { st with stack := xs } w w1 := by
 obtain ⟨I', K⟩ := I.rowed hl hg ho hok
 refine ⟨⟨S', L', I', hs, a1, a2, a3⟩, ?_, M.fr.kept K a1 a3 a2, M.n1, M.n2, M.n3⟩
 refine M.kept.trans (K.mono fun b h => ?_)
 rcases hs b h with h2 | h2
 ·exact .inl h2
 ·exact .inr ⟨h2, I.lt b h⟩
theorem grown_setRow (w : World) (g : Nat) (cs : Array Value) : w.grownBy (w.setRow g cs) (some g) :=
 ⟨rfl, rfl, rfl, by simp, fun k _ hk => setRow_other w g k cs (fun e => hk (e ▸ rfl))⟩
theorem own_put {g cap : Nat} {xs : List Int} {cur : Array Value} (hcur : w.heap[g]? = some (.cells cur 3 (0, 0))) (hcap : xs.length ≤ cap) (hm : cap ≤ maxLen) (hsz : cur.size = cap) (htk : cur.toList.take xs.length = nums .i64 xs)
  (n : Nat) (vs : List Int) (hn : n + vs.length ≤ xs.length) :
  (w.setRow g (cur.toList.take n ++ (nums .i64 vs ++ cur.toList.drop (n + (nums .i64 vs).length))).toArray).ownsRow 0 3 1 (.slice (some ⟨g, 0, none⟩) xs.length cap) xs.length (nums .i64 (xs.take n ++ (vs ++ xs.drop (n + vs.length)))) := by
 have hnl : (nums .i64 vs).length = vs.length := by simp [nums]
 have hcl : cur.toList.length = cap := by simpa using hsz
 refine ⟨by simp [nums]; omega, .inr ⟨g, cap, _, rfl, Nat.zero_le _, setRow_heap w g cur _ 3 (0, 0) hcur, hcap, hm, ?_, ?_⟩⟩
 ·simp [nums]; omega
 ·rw [hnl, Nat.mul_one]
  apply List.ext_getElem?
  intro j
  have hx : ∀ j, j < xs.length → cur.toList[j]? = (nums .i64 xs)[j]? := fun j hj => by
   rw [← htk, List.getElem?_take, if_pos hj]
  simp only [List.getElem?_take]
  by_cases hj : j < xs.length
  ·rw [if_pos hj]
   have hx' := hx j hj
   simp only [nums, List.getElem?_map] at hx' ⊢
   simp only [List.getElem?_append, List.length_take, List.length_map, List.getElem?_take, List.getElem?_drop, List.getElem?_map, hcl]
   rw [show min n cap = n by omega, show min n xs.length = n by omega]
   by_cases h1 : j < n
   ·simp only [if_pos h1]; simpa using hx'
   ·simp only [if_neg h1]
    by_cases h2 : j - n < vs.length
    ·simp only [if_pos h2]
    ·simp only [if_neg h2]
     rw [show n + vs.length + (j - n - vs.length) = j by omega]
     simpa using hx'
  ·rw [if_neg hj]
   symm
   rw [List.getElem?_eq_none]
   simp [nums]; omega
theorem own_form {v : Value} {xs : List Int} (h : w.ownsRow 0 3 1 v xs.length (nums .i64 xs)) : ∃ A cap, v = .slice A xs.length cap ∧ xs.length ≤ cap ∧ cap ≤ maxLen ∧ (0 < xs.length → ∃ g cur, A = some ⟨g, 0, none⟩ ∧ w.heap[g]? = some (.cells cur 3 (0, 0)) ∧ cur.size = cap ∧ cur.toList.take xs.length = nums .i64 xs) := by
 rcases h.2 with ⟨rfl, h0⟩ | ⟨g, cap, cur, rfl, hb, hc, h1, h2, h3, h4⟩
 ·have e : xs.length = 0 := h0
  exact ⟨none, 0, by rw [e], by omega, by simp [maxLen], fun h => by omega⟩
 ·exact ⟨_, cap, rfl, h1, h2, fun _ => ⟨g, cur, rfl, hc, by simpa using h3, by simpa using h4⟩⟩
theorem wpList_copy_two {P : Program} {w : World} {ops : Array Oper} {rest : List Oper} {o : Oper} {a : Act} {Q : Exit → Act → World → Prop} (hgd : o.guard = none) (d s : Operand) (dT sT : TypeId)
  (ho : o.op = .call { callee := .builtin .copy, args := #[d, s], argTypes := #[dT, sT] }) (elem : TypeId) (hu : P.underlying dT = some (.slice elem)) (hsz : (P.info? elem).map (·.size) = some 1)
  (dp sp : Option Addr) (dLen dCap sLen sCap : Nat) (hd : a.eval d = .slice dp dLen dCap) (hs : a.eval s = .slice sp sLen sCap) (cs : List Value) (hn : cs.length = Nat.min sLen dLen) (Z : World → Prop)
  (h0 : cs = [] → Z w) (h1 : ∀ v ∈ cs, v.oneCell' = true)
  (h2 : cs ≠ [] → ∃ g off ad cur t, dp = some ⟨g, off, none⟩ ∧ sp = some ad ∧ w.heap[g]? = some (.cells cur t (0, 0)) ∧ (∀ j v, cs[j]? = some v → w.cell? (ad.add j) = some v) ∧ off + cs.length ≤ cur.size ∧ Z (w.setRow g (cur.toList.take off ++ (cs ++ cur.toList.drop (off + cs.length))).toArray))
  (h : ∀ w', Z w' → wpList P ops Q rest (a.put o.dst (goInt cs.length)) w') : wpList P ops Q (o :: rest) a w := by
 by_cases hz : cs = []
 ·refine wpList_copy_nothing hgd d s dT sT ho elem hu hsz dp sp dLen dCap sLen sCap hd hs (by rw [← hn, hz]; rfl) ?_
  have := h w (h0 hz)
  rw [hz] at this
  exact this
 ·obtain ⟨g, off, ad, cur, t, rfl, rfl, hg, hsrc, hfit, hZ⟩ := h2 hz
  exact wpList_copy_own hgd d s dT sT ho elem hu hsz g off dLen dCap ad sLen sCap hd hs cur t hg cs hn hsrc hfit h1 (h _ hZ)
theorem own_src {v : Value} {xs : List Int} {A : Option Addr} {n cap : Nat} (h : w.ownsRow 0 3 1 v xs.length (nums .i64 xs)) (e : v = .slice A n cap) (hx : xs ≠ []) : ∃ g, A = some ⟨g, 0, none⟩ ∧ v.ownBlock = some g ∧ ∀ j u, (nums .i64 xs)[j]? = some u → w.cell? ((⟨g, 0, none⟩ : Addr).add j) = some u := by
 obtain ⟨A', cap', e', _, _, h⟩ := own_form h
 have hl : 0 < xs.length := List.length_pos_iff.2 hx
 obtain ⟨g, cur, rfl, hc, hs, ht⟩ := h hl
 rw [e] at e'
 obtain rfl : A = some ⟨g, 0, none⟩ := by injection e'
 refine ⟨g, rfl, by rw [e]; rfl, fun j u hj => ?_⟩
 rw [← ht] at hj
 have hj2 : cur.toList[j]? = some u := by
  rw [List.getElem?_take] at hj
  split at hj
  ·exact hj
  ·cases hj
 have hj3 : cur[j]? = some u := by simpa using hj2
 by_cases z : j = 0
 ·subst z; simp [World.cell?, Addr.add, hc, hj3]
 ·simp [World.cell?, Addr.add, z, hc, hj3]
end Go.Proofs.Ytpphpcmbpbppoaa.Mach
end
section
namespace Go.Proofs.Ytpphpcmbpbppoaa.PMirFuel
open Go.RowKit Go.Proofs.YtpphpcmbpbppoaaW.PrintWords Go.Proofs.YtpphpcmbpbppoaaW.PrintLast Go.Proofs.YtpphpcmbpbppoaaW.PrintMore
attribute [local go_sem] max2_int min2_int max_two min_two max_three min_three max_four min_four   
set_option linter.unusedVariables false
set_option linter.unusedSimpArgs false
mutual
def ferruleref10_Same.j0 : Nat → Bool → Int → Int → List Int → Int → Int → List Int → Option (Bool)
 | 0, _, _, _, _, _, _, _ => none
 | k + 1, x26, x199000, x199001, x199002, x200000, x200001, x200002 => if x26 = true then (some false) else (ferruleref10_Same.l0 k 0 x199000 x199001 x199002 x200000 x200001 x200002)
def ferruleref10_Same.l0 : Nat → Int → Int → Int → List Int → Int → Int → List Int → Option (Bool)
 | 0, _, _, _, _, _, _, _ => none
 | k + 1, x5, x199000, x199001, x199002, x200000, x200001, x200002 => if x5 < (x199002.length : Int) then (if 0 ≤ x5 then (if x5 < (x200002.length : Int) then (if (rd x199002 x5) = (rd x200002 x5) then (ferruleref10_Same.l0 k (wrap64 (x5 + 1)) x199000 x199001 x199002 x200000 x200001 x200002) else (some false)) else (none)) else (none)) else (some true)
end
def ferruleref10_Same.f (k : Nat) (a0_0 : Int) (a0_1 : Int) (l0_2 : List Int) (a1_0 : Int) (a1_1 : Int) (l1_2 : List Int) : Option (Bool) := if a0_0 = a1_0 then (if a0_1 = a1_1 then (ferruleref10_Same.j0 k ((l0_2.length : Int) != (l1_2.length : Int)) a0_0 a0_1 l0_2 a1_0 a1_1 l1_2) else (ferruleref10_Same.j0 k true a0_0 a0_1 l0_2 a1_0 a1_1 l1_2)) else (ferruleref10_Same.j0 k true a0_0 a0_1 l0_2 a1_0 a1_1 l1_2)
theorem ferruleref10_Same.mono_l : ∀ k, (∀ y0 y1 y2 y3 y4 y5 y6, LeO (ferruleref10_Same.j0 k y0 y1 y2 y3 y4 y5 y6) (ferruleref10_Same.j0 (k + 1) y0 y1 y2 y3 y4 y5 y6)) ∧ (∀ y0 y1 y2 y3 y4 y5 y6, LeO (ferruleref10_Same.l0 k y0 y1 y2 y3 y4 y5 y6) (ferruleref10_Same.l0 (k + 1) y0 y1 y2 y3 y4 y5 y6))
 | 0 => ⟨fun _ _ _ _ _ _ _ r h => by simp [ferruleref10_Same.j0] at h, fun _ _ _ _ _ _ _ r h => by simp [ferruleref10_Same.l0] at h⟩
 | k + 1 => by
  obtain ⟨ih0, ih1⟩ := ferruleref10_Same.mono_l k
  refine ⟨?_, ?_⟩
  ·intro y0 y1 y2 y3 y4 y5 y6
   unfold ferruleref10_Same.j0
   repeat' first
   | (with_reducible exact ih0 _ _ _ _ _ _ _)
   | (with_reducible exact ih1 _ _ _ _ _ _ _)
   | (with_reducible exact LeO.refl _)
   | (with_reducible exact LeO.none _)
   | (with_reducible refine LeO.ite ?_ ?_)
   | (with_reducible refine LeO.bind ?_ (fun _ => ?_))
   | exact ih0 _ _ _ _ _ _ _
   | exact ih1 _ _ _ _ _ _ _
   | exact LeO.none _
   | refine LeO.ite ?_ ?_
   | refine LeO.bind ?_ (fun _ => ?_)
  ·intro y0 y1 y2 y3 y4 y5 y6
   unfold ferruleref10_Same.l0
   repeat' first
   | (with_reducible exact ih0 _ _ _ _ _ _ _)
   | (with_reducible exact ih1 _ _ _ _ _ _ _)
   | (with_reducible exact LeO.refl _)
   | (with_reducible exact LeO.none _)
   | (with_reducible refine LeO.ite ?_ ?_)
   | (with_reducible refine LeO.bind ?_ (fun _ => ?_))
   | exact ih0 _ _ _ _ _ _ _
   | exact ih1 _ _ _ _ _ _ _
   | exact LeO.none _
   | refine LeO.ite ?_ ?_
   | refine LeO.bind ?_ (fun _ => ?_)
theorem ferruleref10_Same.mono : ∀ a0 a1 a2 a3 a4 a5 k, LeO (ferruleref10_Same.f k a0 a1 a2 a3 a4 a5) (ferruleref10_Same.f (k + 1) a0 a1 a2 a3 a4 a5) := by
 intro a0 a1 a2 a3 a4 a5 k
 obtain ⟨ih0, ih1⟩ := ferruleref10_Same.mono_l k
 unfold ferruleref10_Same.f
 repeat' first
   | (with_reducible exact ih0 _ _ _ _ _ _ _)
   | (with_reducible exact ih1 _ _ _ _ _ _ _)
   | (with_reducible exact LeO.refl _)
   | (with_reducible exact LeO.none _)
   | (with_reducible refine LeO.ite ?_ ?_)
   | (with_reducible refine LeO.bind ?_ (fun _ => ?_))
   | exact ih0 _ _ _ _ _ _ _
   | exact ih1 _ _ _ _ _ _ _
   | exact LeO.none _
   | refine LeO.ite ?_ ?_
   | refine LeO.bind ?_ (fun _ => ?_)
set_option maxHeartbeats 8000000 in
set_option maxRecDepth 100000 in
theorem ferruleref10_Same.calls (k : Nat) (a0_0 : Int) (a0_1 : Int) (A0_2 : Option Addr) (c0_2 : Nat) (l0_2 : List Int) (a1_0 : Int) (a1_1 : Int) (A1_2 : Option Addr) (c1_2 : Nat) (l1_2 : List Int) (r : Bool) (w : World) (hr0_2 : Kd.C (Kd.int .i64) w A0_2 l0_2.length l0_2) (hc0_2 : l0_2.length ≤ c0_2) (hr1_2 : Kd.C (Kd.int .i64) w A1_2 l1_2.length l1_2) (hc1_2 : l1_2.length ≤ c1_2) (h : ferruleref10_Same.f k a0_0 a0_1 l0_2 a1_0 a1_1 l1_2 = some r) :
  Calls Try.prog 11 #[.agg #[.int .i64 a0_0, .int .i64 a0_1, .slice A0_2 l0_2.length c0_2], .agg #[.int .i64 a1_0, .int .i64 a1_1, .slice A1_2 l1_2.length c1_2]] w fun e w' => e = .returned (.bool r) ∧ Below w.heap.size w w' := by
 have hu26 := Try.underlying26
 have HR0_2 := Aside0.mk hr0_2
 have HC0_2 := Aside0.mk hc0_2
 clear hr0_2 hc0_2
 have HR1_2 := Aside0.mk hr1_2
 have HC1_2 := Aside0.mk hc1_2
 clear hr1_2 hc1_2
 have HB := Aside0.mk (Below.refl w.heap.size w)
 have H : (if a0_0 = a1_0 then (if a0_1 = a1_1 then (ferruleref10_Same.j0 k ((l0_2.length : Int) != (l1_2.length : Int)) a0_0 a0_1 l0_2 a1_0 a1_1 l1_2) else (ferruleref10_Same.j0 k true a0_0 a0_1 l0_2 a1_0 a1_1 l1_2)) else (ferruleref10_Same.j0 k true a0_0 a0_1 l0_2 a1_0 a1_1 l1_2)) = some r := h
 clear h
 have HC3 := Aside0.mk H
 clear H
 go_enter Try.func11, Try.ntmps11
 go_upto_region 1 with (first | ((with_reducible refine gate_dst (N := 2) rfl ?_); (try (refine gate_guard (by rfl) ?_; dsimp only)); refine box_event ?hg (N := 2) ?hd (cs := #[.int .i64 a0_0, .int .i64 a0_1, .slice A0_2 l0_2.length c0_2]) (t := 26) ?hr ?_; (case hd => rfl); (case hg => rfl); (case hr => first | (go_simp; done) | (go_simp; rfl)); intro gb198 hg w4 hbox hb; have n0_ := Aside0.mk (below_step (by repeat (first | (with_reducible first | exact HB.out | apply below_alloc | apply pw_below_drewN | apply below_drew1) | exact HB.out)) hb); have n1_ := Aside0.mk (hbox); have n2_ := Aside0.mk ((by rw [hg]; exact (below_size (by repeat (first | (with_reducible first | exact HB.out | apply below_alloc | apply pw_below_drewN | apply below_drew1) | exact HB.out))) : w.heap.size ≤ gb198)); have n3_ := Aside0.mk ((by rw [hg]; exact (below_size (by repeat (first | (with_reducible first | exact HB.out | apply below_alloc | apply pw_below_drewN | apply below_drew1) | exact HB.out))) : w.heap.size ≤ gb198)); clear HB; have HB := n0_; have BK198 := n1_; have GW198 := n2_; have GE198 := n3_; clear n0_ n1_ n2_ n3_; clear hb hbox hg) | ((with_reducible refine gate_dst (N := 3) rfl ?_); (try (refine gate_guard (by rfl) ?_; dsimp only)); refine box_event ?hg (N := 3) ?hd (cs := #[.int .i64 a1_0, .int .i64 a1_1, .slice A1_2 l1_2.length c1_2]) (t := 26) ?hr ?_; (case hd => rfl); (case hg => rfl); (case hr => first | (go_simp; done) | (go_simp; rfl)); intro gb199 hg w5 hbox hb; have n0_ := Aside0.mk (blk_below (g := gb198) (o := .cells #[.int .i64 a0_0, .int .i64 a0_1, .slice A0_2 l0_2.length c0_2] 26 (0, 0)) (by (with_reducible repeat (first | refine blk_drewN ?_ _ | refine blk_drew ?_ | refine blk_alloc ?_ _)); exact BK198.out) hb); have n1_ := Aside0.mk (below_step (by repeat (first | (with_reducible first | exact HB.out | apply below_alloc | apply pw_below_drewN | apply below_drew1 | refine below_set ?_ GE198.out) | exact HB.out)) hb); have n2_ := Aside0.mk (hbox); have n3_ := Aside0.mk ((by rw [hg]; exact (below_size (by repeat (first | (with_reducible first | exact HB.out | apply below_alloc | apply pw_below_drewN | apply below_drew1 | refine below_set ?_ GE198.out) | exact HB.out))) : w.heap.size ≤ gb199)); have n4_ := Aside0.mk ((by rw [hg]; exact (below_size (by repeat (first | (with_reducible first | exact HB.out | apply below_alloc | apply pw_below_drewN | apply below_drew1 | refine below_set ?_ GE198.out) | exact HB.out))) : w.heap.size ≤ gb199)); have n5_ := Aside0.mk ((by rw [hg]; exact Nat.ne_of_lt (blk_lt (g := gb198) (o := .cells #[.int .i64 a0_0, .int .i64 a0_1, .slice A0_2 l0_2.length c0_2] 26 (0, 0)) (by (with_reducible repeat (first | refine blk_drewN ?_ _ | refine blk_drew ?_ | refine blk_alloc ?_ _)); exact BK198.out)) : gb198 ≠ gb199)); have n6_ := Aside0.mk ((by rw [hg]; exact Nat.ne_of_gt (blk_lt (g := gb198) (o := .cells #[.int .i64 a0_0, .int .i64 a0_1, .slice A0_2 l0_2.length c0_2] 26 (0, 0)) (by (with_reducible repeat (first | refine blk_drewN ?_ _ | refine blk_drew ?_ | refine blk_alloc ?_ _)); exact BK198.out)) : gb199 ≠ gb198)); clear BK198; clear HB; have BK198 := n0_; have HB := n1_; have BK199 := n2_; have GW199 := n3_; have GE199 := n4_; have NB198_199 := n5_; have NB199_198 := n6_; clear n0_ n1_ n2_ n3_ n4_ n5_ n6_; clear hb hbox hg))
 repeat (go_quiet (first | ((with_reducible refine gate_dst (N := 2) rfl ?_); (try (refine gate_guard (by rfl) ?_; dsimp only)); refine box_event ?hg (N := 2) ?hd (cs := #[.int .i64 a0_0, .int .i64 a0_1, .slice A0_2 l0_2.length c0_2]) (t := 26) ?hr ?_; (case hd => rfl); (case hg => rfl); (case hr => first | (go_simp; done) | (go_simp; rfl)); intro gb198 hg w4 hbox hb; have n0_ := Aside0.mk (below_step (by repeat (first | (with_reducible first | exact HB.out | apply below_alloc | apply pw_below_drewN | apply below_drew1) | exact HB.out)) hb); have n1_ := Aside0.mk (hbox); have n2_ := Aside0.mk ((by rw [hg]; exact (below_size (by repeat (first | (with_reducible first | exact HB.out | apply below_alloc | apply pw_below_drewN | apply below_drew1) | exact HB.out))) : w.heap.size ≤ gb198)); have n3_ := Aside0.mk ((by rw [hg]; exact (below_size (by repeat (first | (with_reducible first | exact HB.out | apply below_alloc | apply pw_below_drewN | apply below_drew1) | exact HB.out))) : w.heap.size ≤ gb198)); clear HB; have HB := n0_; have BK198 := n1_; have GW198 := n2_; have GE198 := n3_; clear n0_ n1_ n2_ n3_; clear hb hbox hg) | ((with_reducible refine gate_dst (N := 3) rfl ?_); (try (refine gate_guard (by rfl) ?_; dsimp only)); refine box_event ?hg (N := 3) ?hd (cs := #[.int .i64 a1_0, .int .i64 a1_1, .slice A1_2 l1_2.length c1_2]) (t := 26) ?hr ?_; (case hd => rfl); (case hg => rfl); (case hr => first | (go_simp; done) | (go_simp; rfl)); intro gb199 hg w5 hbox hb; have n0_ := Aside0.mk (blk_below (g := gb198) (o := .cells #[.int .i64 a0_0, .int .i64 a0_1, .slice A0_2 l0_2.length c0_2] 26 (0, 0)) (by (with_reducible repeat (first | refine blk_drewN ?_ _ | refine blk_drew ?_ | refine blk_alloc ?_ _)); exact BK198.out) hb); have n1_ := Aside0.mk (below_step (by repeat (first | (with_reducible first | exact HB.out | apply below_alloc | apply pw_below_drewN | apply below_drew1 | refine below_set ?_ GE198.out) | exact HB.out)) hb); have n2_ := Aside0.mk (hbox); have n3_ := Aside0.mk ((by rw [hg]; exact (below_size (by repeat (first | (with_reducible first | exact HB.out | apply below_alloc | apply pw_below_drewN | apply below_drew1 | refine below_set ?_ GE198.out) | exact HB.out))) : w.heap.size ≤ gb199)); have n4_ := Aside0.mk ((by rw [hg]; exact (below_size (by repeat (first | (with_reducible first | exact HB.out | apply below_alloc | apply pw_below_drewN | apply below_drew1 | refine below_set ?_ GE198.out) | exact HB.out))) : w.heap.size ≤ gb199)); have n5_ := Aside0.mk ((by rw [hg]; exact Nat.ne_of_lt (blk_lt (g := gb198) (o := .cells #[.int .i64 a0_0, .int .i64 a0_1, .slice A0_2 l0_2.length c0_2] 26 (0, 0)) (by (with_reducible repeat (first | refine blk_drewN ?_ _ | refine blk_drew ?_ | refine blk_alloc ?_ _)); exact BK198.out)) : gb198 ≠ gb199)); have n6_ := Aside0.mk ((by rw [hg]; exact Nat.ne_of_gt (blk_lt (g := gb198) (o := .cells #[.int .i64 a0_0, .int .i64 a0_1, .slice A0_2 l0_2.length c0_2] 26 (0, 0)) (by (with_reducible repeat (first | refine blk_drewN ?_ _ | refine blk_drew ?_ | refine blk_alloc ?_ _)); exact BK198.out)) : gb199 ≠ gb198)); clear BK198; clear HB; have BK198 := n0_; have HB := n1_; have BK199 := n2_; have GW199 := n3_; have GE199 := n4_; have NB198_199 := n5_; have NB199_198 := n6_; clear n0_ n1_ n2_ n3_ n4_ n5_ n6_; clear hb hbox hg)); go_upto_region 1 with (first | ((with_reducible refine gate_dst (N := 2) rfl ?_); (try (refine gate_guard (by rfl) ?_; dsimp only)); refine box_event ?hg (N := 2) ?hd (cs := #[.int .i64 a0_0, .int .i64 a0_1, .slice A0_2 l0_2.length c0_2]) (t := 26) ?hr ?_; (case hd => rfl); (case hg => rfl); (case hr => first | (go_simp; done) | (go_simp; rfl)); intro gb198 hg w4 hbox hb; have n0_ := Aside0.mk (below_step (by repeat (first | (with_reducible first | exact HB.out | apply below_alloc | apply pw_below_drewN | apply below_drew1) | exact HB.out)) hb); have n1_ := Aside0.mk (hbox); have n2_ := Aside0.mk ((by rw [hg]; exact (below_size (by repeat (first | (with_reducible first | exact HB.out | apply below_alloc | apply pw_below_drewN | apply below_drew1) | exact HB.out))) : w.heap.size ≤ gb198)); have n3_ := Aside0.mk ((by rw [hg]; exact (below_size (by repeat (first | (with_reducible first | exact HB.out | apply below_alloc | apply pw_below_drewN | apply below_drew1) | exact HB.out))) : w.heap.size ≤ gb198)); clear HB; have HB := n0_; have BK198 := n1_; have GW198 := n2_; have GE198 := n3_; clear n0_ n1_ n2_ n3_; clear hb hbox hg) | ((with_reducible refine gate_dst (N := 3) rfl ?_); (try (refine gate_guard (by rfl) ?_; dsimp only)); refine box_event ?hg (N := 3) ?hd (cs := #[.int .i64 a1_0, .int .i64 a1_1, .slice A1_2 l1_2.length c1_2]) (t := 26) ?hr ?_; (case hd => rfl); (case hg => rfl); (case hr => first | (go_simp; done) | (go_simp; rfl)); intro gb199 hg w5 hbox hb; have n0_ := Aside0.mk (blk_below (g := gb198) (o := .cells #[.int .i64 a0_0, .int .i64 a0_1, .slice A0_2 l0_2.length c0_2] 26 (0, 0)) (by (with_reducible repeat (first | refine blk_drewN ?_ _ | refine blk_drew ?_ | refine blk_alloc ?_ _)); exact BK198.out) hb); have n1_ := Aside0.mk (below_step (by repeat (first | (with_reducible first | exact HB.out | apply below_alloc | apply pw_below_drewN | apply below_drew1 | refine below_set ?_ GE198.out) | exact HB.out)) hb); have n2_ := Aside0.mk (hbox); have n3_ := Aside0.mk ((by rw [hg]; exact (below_size (by repeat (first | (with_reducible first | exact HB.out | apply below_alloc | apply pw_below_drewN | apply below_drew1 | refine below_set ?_ GE198.out) | exact HB.out))) : w.heap.size ≤ gb199)); have n4_ := Aside0.mk ((by rw [hg]; exact (below_size (by repeat (first | (with_reducible first | exact HB.out | apply below_alloc | apply pw_below_drewN | apply below_drew1 | refine below_set ?_ GE198.out) | exact HB.out))) : w.heap.size ≤ gb199)); have n5_ := Aside0.mk ((by rw [hg]; exact Nat.ne_of_lt (blk_lt (g := gb198) (o := .cells #[.int .i64 a0_0, .int .i64 a0_1, .slice A0_2 l0_2.length c0_2] 26 (0, 0)) (by (with_reducible repeat (first | refine blk_drewN ?_ _ | refine blk_drew ?_ | refine blk_alloc ?_ _)); exact BK198.out)) : gb198 ≠ gb199)); have n6_ := Aside0.mk ((by rw [hg]; exact Nat.ne_of_gt (blk_lt (g := gb198) (o := .cells #[.int .i64 a0_0, .int .i64 a0_1, .slice A0_2 l0_2.length c0_2] 26 (0, 0)) (by (with_reducible repeat (first | refine blk_drewN ?_ _ | refine blk_drew ?_ | refine blk_alloc ?_ _)); exact BK198.out)) : gb199 ≠ gb198)); clear BK198; clear HB; have BK198 := n0_; have HB := n1_; have BK199 := n2_; have GW199 := n3_; have GE199 := n4_; have NB198_199 := n5_; have NB199_198 := n6_; clear n0_ n1_ n2_ n3_ n4_ n5_ n6_; clear hb hbox hg)))
 (try simp only [Act.put, List.setIfInBounds_toArray, List.set_cons_zero, List.set_cons_succ])
 go_cut [26] (fun v26 wc => ∃ (kq : Nat) (x26_2 : Bool), v26 = .bool x26_2 ∧ Aside0 (ferruleref10_Same.j0 kq x26_2 a0_0 a0_1 l0_2 a1_0 a1_1 l1_2 = some r) ∧ Aside0 (kq ≤ k) ∧ Aside0 (wc.heap[gb198]? = some (.cells #[.int .i64 a0_0, .int .i64 a0_1, (.slice A0_2 l0_2.length c0_2)] 26 (0, 0))) ∧ Aside0 (wc.heap[gb199]? = some (.cells #[.int .i64 a1_0, .int .i64 a1_1, (.slice A1_2 l1_2.length c1_2)] 26 (0, 0))) ∧ Aside0 (Below w.heap.size w wc))
 case first =>
  have H := HC3.out
  clear HC3
  by_cases c6 : a0_0 = a1_0
  ·rw [if_pos c6] at H
   have c6b0 : (a0_0 == a1_0) = true := beq_iff_eq.mpr c6
   have c6b1 : (a0_0 != a1_0) = false := bne_eq_false_iff_eq.mpr c6
   clear c6
   (first | rw [c6b0] | (simp only [i64_w, i32_w]; rw [c6b0]) | skip)
   by_cases c7 : a0_1 = a1_1
   ·rw [if_pos c7] at H
    have c7b0 : (a0_1 == a1_1) = true := beq_iff_eq.mpr c7
    have c7b1 : (a0_1 != a1_1) = false := bne_eq_false_iff_eq.mpr c7
    clear c7
    have H' := Aside0.mk H
    clear H
    have hnb8 := NB198_199.out
    have hnc8 := NB199_198.out
    have hcz9_0 : w5.cell? ⟨gb198, 0, none⟩ = some (.int .i64 a0_0) := (blk_cell BK198.out 0).trans rfl
    have hcz9_1 : w5.cell? ⟨gb198, 1, none⟩ = some (.int .i64 a0_1) := (blk_cell BK198.out 1).trans rfl
    have hcz9_2 : w5.cell? ⟨gb198, 2, none⟩ = some (.slice A0_2 l0_2.length c0_2) := (blk_cell BK198.out 2).trans rfl
    have hfz9_0 := blk_frozen BK198.out 0
    have hfz9_1 := blk_frozen BK198.out 1
    have hfz9_2 := blk_frozen BK198.out 2
    have hcz10_0 : w5.cell? ⟨gb199, 0, none⟩ = some (.int .i64 a1_0) := (blk_cell BK199.out 0).trans rfl
    have hcz10_1 : w5.cell? ⟨gb199, 1, none⟩ = some (.int .i64 a1_1) := (blk_cell BK199.out 1).trans rfl
    have hcz10_2 : w5.cell? ⟨gb199, 2, none⟩ = some (.slice A1_2 l1_2.length c1_2) := (blk_cell BK199.out 2).trans rfl
    have hfz10_0 := blk_frozen BK199.out 0
    have hfz10_1 := blk_frozen BK199.out 1
    have hfz10_2 := blk_frozen BK199.out 2
    go_wp2
    repeat (go_quiet (fail); try go_wp2)
    go_meet
    case rel => exact ⟨_, (((l0_2.length : Int) != (l1_2.length : Int))), (by first | rfl | (simp; done) | (simp [*]; done)), H', ⟨by first | omega | exact Nat.le_refl _⟩, ⟨by (with_reducible repeat (first | refine blk_drewN ?_ _ | refine blk_drew ?_ | refine blk_alloc ?_ _)); exact BK198.out⟩, ⟨by (with_reducible repeat (first | refine blk_drewN ?_ _ | refine blk_drew ?_ | refine blk_alloc ?_ _)); exact BK199.out⟩, ⟨by repeat (first | (with_reducible first | exact HB.out | apply below_alloc | apply pw_below_drewN | apply below_drew1 | refine below_set ?_ GE198.out | refine below_set ?_ GE199.out) | exact HB.out)⟩⟩
   ·rw [if_neg c7] at H
    have c7b0 : (a0_1 == a1_1) = false := beq_eq_false_iff_ne.mpr c7
    have c7b1 : (a0_1 != a1_1) = true := bne_iff_ne.mpr c7
    have H' := Aside0.mk H
    clear H
    have hnb11 := NB198_199.out
    have hnc11 := NB199_198.out
    have hcz12_0 : w5.cell? ⟨gb198, 0, none⟩ = some (.int .i64 a0_0) := (blk_cell BK198.out 0).trans rfl
    have hcz12_1 : w5.cell? ⟨gb198, 1, none⟩ = some (.int .i64 a0_1) := (blk_cell BK198.out 1).trans rfl
    have hcz12_2 : w5.cell? ⟨gb198, 2, none⟩ = some (.slice A0_2 l0_2.length c0_2) := (blk_cell BK198.out 2).trans rfl
    have hfz12_0 := blk_frozen BK198.out 0
    have hfz12_1 := blk_frozen BK198.out 1
    have hfz12_2 := blk_frozen BK198.out 2
    have hcz13_0 : w5.cell? ⟨gb199, 0, none⟩ = some (.int .i64 a1_0) := (blk_cell BK199.out 0).trans rfl
    have hcz13_1 : w5.cell? ⟨gb199, 1, none⟩ = some (.int .i64 a1_1) := (blk_cell BK199.out 1).trans rfl
    have hcz13_2 : w5.cell? ⟨gb199, 2, none⟩ = some (.slice A1_2 l1_2.length c1_2) := (blk_cell BK199.out 2).trans rfl
    have hfz13_0 := blk_frozen BK199.out 0
    have hfz13_1 := blk_frozen BK199.out 1
    have hfz13_2 := blk_frozen BK199.out 2
    go_wp2
    repeat (go_quiet (fail); try go_wp2)
    go_meet
    case rel => exact ⟨_, (true), (by first | rfl | (simp; done) | (simp [*]; done)), H', ⟨by first | omega | exact Nat.le_refl _⟩, ⟨by (with_reducible repeat (first | refine blk_drewN ?_ _ | refine blk_drew ?_ | refine blk_alloc ?_ _)); exact BK198.out⟩, ⟨by (with_reducible repeat (first | refine blk_drewN ?_ _ | refine blk_drew ?_ | refine blk_alloc ?_ _)); exact BK199.out⟩, ⟨by repeat (first | (with_reducible first | exact HB.out | apply below_alloc | apply pw_below_drewN | apply below_drew1 | refine below_set ?_ GE198.out | refine below_set ?_ GE199.out) | exact HB.out)⟩⟩
  ·rw [if_neg c6] at H
   have c6b0 : (a0_0 == a1_0) = false := beq_eq_false_iff_ne.mpr c6
   have c6b1 : (a0_0 != a1_0) = true := bne_iff_ne.mpr c6
   (first | rw [c6b0] | (simp only [i64_w, i32_w]; rw [c6b0]) | skip)
   have H' := Aside0.mk H
   clear H
   have hnb14 := NB198_199.out
   have hnc14 := NB199_198.out
   have hcz15_0 : w5.cell? ⟨gb198, 0, none⟩ = some (.int .i64 a0_0) := (blk_cell BK198.out 0).trans rfl
   have hcz15_1 : w5.cell? ⟨gb198, 1, none⟩ = some (.int .i64 a0_1) := (blk_cell BK198.out 1).trans rfl
   have hcz15_2 : w5.cell? ⟨gb198, 2, none⟩ = some (.slice A0_2 l0_2.length c0_2) := (blk_cell BK198.out 2).trans rfl
   have hfz15_0 := blk_frozen BK198.out 0
   have hfz15_1 := blk_frozen BK198.out 1
   have hfz15_2 := blk_frozen BK198.out 2
   have hcz16_0 : w5.cell? ⟨gb199, 0, none⟩ = some (.int .i64 a1_0) := (blk_cell BK199.out 0).trans rfl
   have hcz16_1 : w5.cell? ⟨gb199, 1, none⟩ = some (.int .i64 a1_1) := (blk_cell BK199.out 1).trans rfl
   have hcz16_2 : w5.cell? ⟨gb199, 2, none⟩ = some (.slice A1_2 l1_2.length c1_2) := (blk_cell BK199.out 2).trans rfl
   have hfz16_0 := blk_frozen BK199.out 0
   have hfz16_1 := blk_frozen BK199.out 1
   have hfz16_2 := blk_frozen BK199.out 2
   go_wp2
   repeat (go_quiet (fail); try go_wp2)
   go_meet
   case rel => exact ⟨_, (true), (by first | rfl | (simp; done) | (simp [*]; done)), H', ⟨by first | omega | exact Nat.le_refl _⟩, ⟨by (with_reducible repeat (first | refine blk_drewN ?_ _ | refine blk_drew ?_ | refine blk_alloc ?_ _)); exact BK198.out⟩, ⟨by (with_reducible repeat (first | refine blk_drewN ?_ _ | refine blk_drew ?_ | refine blk_alloc ?_ _)); exact BK199.out⟩, ⟨by repeat (first | (with_reducible first | exact HB.out | apply below_alloc | apply pw_below_drewN | apply below_drew1 | refine below_set ?_ GE198.out | refine below_set ?_ GE199.out) | exact HB.out)⟩⟩
 case rest =>
  clear HC3
  try clear c1
  try clear p2
  try clear c6
  try clear c6b0
  try clear c6b1
  try clear c7
  try clear c7b0
  try clear c7b1
  try clear c8
  try clear c11
  try clear c14
  try clear hcz10_0
  try clear hcz10_1
  try clear hcz10_2
  try clear hcz12_0
  try clear hcz12_1
  try clear hcz12_2
  try clear hcz13_0
  try clear hcz13_1
  try clear hcz13_2
  try clear hcz15_0
  try clear hcz15_1
  try clear hcz15_2
  try clear hcz16_0
  try clear hcz16_1
  try clear hcz16_2
  try clear hcz9_0
  try clear hcz9_1
  try clear hcz9_2
  try clear hfz10_0
  try clear hfz10_1
  try clear hfz10_2
  try clear hfz12_0
  try clear hfz12_1
  try clear hfz12_2
  try clear hfz13_0
  try clear hfz13_1
  try clear hfz13_2
  try clear hfz15_0
  try clear hfz15_1
  try clear hfz15_2
  try clear hfz16_0
  try clear hfz16_1
  try clear hfz16_2
  try clear hfz9_0
  try clear hfz9_1
  try clear hfz9_2
  obtain ⟨kq, x26_2, rfl, HA, HJ2, BK198, BK199, HB⟩ := hcut
  cases kq with
  | zero => exact absurd HA.out (by simp [ferruleref10_Same.j0])
  | succ kj2 =>
   have H := HA.out
   clear HA
   simp only [ferruleref10_Same.j0] at H
   by_cases c17 : x26_2 = true
   ·subst c17
    have H1 : (some false) = some r := by rw [if_pos rfl] at H; exact H
    clear H
    have H := H1
    clear H1
    obtain rfl := Option.some.inj H
    go_wp2
    repeat (go_quiet (fail); try go_wp2)
    go_ret
    exact ⟨by first | rfl | (simp [errW_none, errW_some] <;> rfl) | (simp [*, errW_none, errW_some] <;> rfl), by repeat (first | (with_reducible first | exact HB.out | apply below_alloc | apply pw_below_drewN | apply below_drew1 | refine below_set ?_ GE198.out | refine below_set ?_ GE199.out) | exact HB.out)⟩
   ·replace c17 := Bool.eq_false_iff.mpr c17
    subst c17
    have H1 : (ferruleref10_Same.l0 kj2 0 a0_0 a0_1 l0_2 a1_0 a1_1 l1_2) = some r := by rw [if_neg (show ¬ (false = true) by decide)] at H; exact H
    clear H
    have H := H1
    clear H1
    have H' := Aside0.mk H
    clear H
    go_wp2
    repeat (go_quiet (fail); try go_wp2)
    go_loopg [5] kj2 (fun kq v5 w' => ∃ (x5_2 : Int), v5 = .int .i64 x5_2 ∧ Aside0 (ferruleref10_Same.l0 kq x5_2 a0_0 a0_1 l0_2 a1_0 a1_1 l1_2 = some r) ∧ Aside0 (kq ≤ kj2) ∧ Aside0 (w'.heap[gb198]? = some (.cells #[.int .i64 a0_0, .int .i64 a0_1, (.slice A0_2 l0_2.length c0_2)] 26 (0, 0))) ∧ Aside0 (w'.heap[gb199]? = some (.cells #[.int .i64 a1_0, .int .i64 a1_1, (.slice A1_2 l1_2.length c1_2)] 26 (0, 0))) ∧ Aside0 (Below w.heap.size w w'))
    case atStart => exact ⟨(0), (by first | rfl | (simp; done) | (simp [*]; done)), H', ⟨Nat.le_refl _⟩, ⟨by (with_reducible repeat (first | refine blk_drewN ?_ _ | refine blk_drew ?_ | refine blk_alloc ?_ _)); exact BK198.out⟩, ⟨by (with_reducible repeat (first | refine blk_drewN ?_ _ | refine blk_drew ?_ | refine blk_alloc ?_ _)); exact BK199.out⟩, ⟨by repeat (first | (with_reducible first | exact HB.out | apply below_alloc | apply pw_below_drewN | apply below_drew1 | refine below_set ?_ GE198.out | refine below_set ?_ GE199.out) | exact HB.out)⟩⟩
    case round =>
     clear H'
     try clear c1
     try clear p2
     try clear c6
     try clear c6b0
     try clear c6b1
     try clear c7
     try clear c7b0
     try clear c7b1
     try clear c8
     try clear c11
     try clear c14
     try clear c17
     try clear hcz10_0
     try clear hcz10_1
     try clear hcz10_2
     try clear hcz12_0
     try clear hcz12_1
     try clear hcz12_2
     try clear hcz13_0
     try clear hcz13_1
     try clear hcz13_2
     try clear hcz15_0
     try clear hcz15_1
     try clear hcz15_2
     try clear hcz16_0
     try clear hcz16_1
     try clear hcz16_2
     try clear hcz9_0
     try clear hcz9_1
     try clear hcz9_2
     try clear hfz10_0
     try clear hfz10_1
     try clear hfz10_2
     try clear hfz12_0
     try clear hfz12_1
     try clear hfz12_2
     try clear hfz13_0
     try clear hfz13_1
     try clear hfz13_2
     try clear hfz15_0
     try clear hfz15_1
     try clear hfz15_2
     try clear hfz16_0
     try clear hfz16_1
     try clear hfz16_2
     try clear hfz9_0
     try clear hfz9_1
     try clear hfz9_2
     try clear p2
     obtain ⟨x5_2, rfl, HA, HK2, BK198, BK199, HB⟩ := hrel
     cases gk with
     | zero => exact absurd HA.out (by simp [ferruleref10_Same.l0])
     | succ k2 =>
      have H := HA.out
      clear HA
      simp only [ferruleref10_Same.l0] at H
      by_cases c18 : x5_2 < (l0_2.length : Int)
      ·rw [if_pos c18] at H
       have c18b0 : decide (x5_2 < (l0_2.length : Int)) = true := decide_eq_true c18
       clear c18
       by_cases c19 : 0 ≤ x5_2
       ·rw [if_pos c19] at H
        have c19b0 : decide (0 ≤ x5_2) = true := decide_eq_true c19
        clear c19
        by_cases c20 : x5_2 < (l1_2.length : Int)
        ·rw [if_pos c20] at H
         have c20b0 : decide (x5_2 < (l1_2.length : Int)) = true := decide_eq_true c20
         clear c20
         by_cases c21 : (rd l0_2 x5_2) = (rd l1_2 x5_2)
         ·rw [if_pos c21] at H
          have c21b0 : ((rd l0_2 x5_2) == (rd l1_2 x5_2)) = true := beq_iff_eq.mpr c21
          have c21b1 : ((rd l0_2 x5_2) != (rd l1_2 x5_2)) = false := bne_eq_false_iff_eq.mpr c21
          clear c21
          have H' := Aside0.mk H
          clear H
          have hnb22 := NB198_199.out
          have hnc22 := NB199_198.out
          have hcz23_0 : wr.cell? ⟨gb198, 0, none⟩ = some (.int .i64 a0_0) := (blk_cell BK198.out 0).trans rfl
          have hcz23_1 : wr.cell? ⟨gb198, 1, none⟩ = some (.int .i64 a0_1) := (blk_cell BK198.out 1).trans rfl
          have hcz23_2 : wr.cell? ⟨gb198, 2, none⟩ = some (.slice A0_2 l0_2.length c0_2) := (blk_cell BK198.out 2).trans rfl
          have hfz23_0 := blk_frozen BK198.out 0
          have hfz23_1 := blk_frozen BK198.out 1
          have hfz23_2 := blk_frozen BK198.out 2
          have p200 : 0 ≤ (x5_2 : Int) := of_decide_eq_true (by first | (with_reducible assumption) | assumption)
          have q200 : x5_2 < (l0_2.length : Int) := of_decide_eq_true (by first | (with_reducible assumption) | assumption)
          obtain ⟨ad200, e200, hx200_0⟩ := Kd.at_int HR0_2.out x5_2 p200 q200
          cases e200
          replace hx200_0 := (HB.out.cell (World.block_lt_of_cell? w _ hx200_0)).trans hx200_0
          replace p200 := eq_true p200
          replace q200 := eq_true q200
          have hcz24_0 : wr.cell? ⟨gb199, 0, none⟩ = some (.int .i64 a1_0) := (blk_cell BK199.out 0).trans rfl
          have hcz24_1 : wr.cell? ⟨gb199, 1, none⟩ = some (.int .i64 a1_1) := (blk_cell BK199.out 1).trans rfl
          have hcz24_2 : wr.cell? ⟨gb199, 2, none⟩ = some (.slice A1_2 l1_2.length c1_2) := (blk_cell BK199.out 2).trans rfl
          have hfz24_0 := blk_frozen BK199.out 0
          have hfz24_1 := blk_frozen BK199.out 1
          have hfz24_2 := blk_frozen BK199.out 2
          have p201 : 0 ≤ (x5_2 : Int) := of_decide_eq_true (by first | (with_reducible assumption) | assumption)
          have q201 : x5_2 < (l1_2.length : Int) := of_decide_eq_true (by first | (with_reducible assumption) | assumption)
          obtain ⟨ad201, e201, hx201_0⟩ := Kd.at_int HR1_2.out x5_2 p201 q201
          cases e201
          replace hx201_0 := (HB.out.cell (World.block_lt_of_cell? w _ hx201_0)).trans hx201_0
          replace p201 := eq_true p201
          replace q201 := eq_true q201
          go_wp2
          repeat (go_quiet (fail); try go_wp2)
          go_roundg k2
          case measure => have := HJ2.out; have := HK2.out; omega
          case rel => exact ⟨(wrap64 (x5_2 + 1)), (by first | rfl | (simp; done) | (simp [*]; done)), H', ⟨by have := HJ2.out; have := HK2.out; omega⟩, ⟨by (with_reducible repeat (first | refine blk_drewN ?_ _ | refine blk_drew ?_ | refine blk_alloc ?_ _)); exact BK198.out⟩, ⟨by (with_reducible repeat (first | refine blk_drewN ?_ _ | refine blk_drew ?_ | refine blk_alloc ?_ _)); exact BK199.out⟩, ⟨by repeat (first | (with_reducible first | exact HB.out | apply below_alloc | apply pw_below_drewN | apply below_drew1 | refine below_set ?_ GE198.out | refine below_set ?_ GE199.out) | exact HB.out)⟩⟩
         ·rw [if_neg c21] at H
          have c21b0 : ((rd l0_2 x5_2) == (rd l1_2 x5_2)) = false := beq_eq_false_iff_ne.mpr c21
          have c21b1 : ((rd l0_2 x5_2) != (rd l1_2 x5_2)) = true := bne_iff_ne.mpr c21
          obtain rfl := Option.some.inj H
          have hnb25 := NB198_199.out
          have hnc25 := NB199_198.out
          have hcz26_0 : wr.cell? ⟨gb198, 0, none⟩ = some (.int .i64 a0_0) := (blk_cell BK198.out 0).trans rfl
          have hcz26_1 : wr.cell? ⟨gb198, 1, none⟩ = some (.int .i64 a0_1) := (blk_cell BK198.out 1).trans rfl
          have hcz26_2 : wr.cell? ⟨gb198, 2, none⟩ = some (.slice A0_2 l0_2.length c0_2) := (blk_cell BK198.out 2).trans rfl
          have hfz26_0 := blk_frozen BK198.out 0
          have hfz26_1 := blk_frozen BK198.out 1
          have hfz26_2 := blk_frozen BK198.out 2
          have p200 : 0 ≤ (x5_2 : Int) := of_decide_eq_true (by first | (with_reducible assumption) | assumption)
          have q200 : x5_2 < (l0_2.length : Int) := of_decide_eq_true (by first | (with_reducible assumption) | assumption)
          obtain ⟨ad200, e200, hx200_0⟩ := Kd.at_int HR0_2.out x5_2 p200 q200
          cases e200
          replace hx200_0 := (HB.out.cell (World.block_lt_of_cell? w _ hx200_0)).trans hx200_0
          replace p200 := eq_true p200
          replace q200 := eq_true q200
          have hcz27_0 : wr.cell? ⟨gb199, 0, none⟩ = some (.int .i64 a1_0) := (blk_cell BK199.out 0).trans rfl
          have hcz27_1 : wr.cell? ⟨gb199, 1, none⟩ = some (.int .i64 a1_1) := (blk_cell BK199.out 1).trans rfl
          have hcz27_2 : wr.cell? ⟨gb199, 2, none⟩ = some (.slice A1_2 l1_2.length c1_2) := (blk_cell BK199.out 2).trans rfl
          have hfz27_0 := blk_frozen BK199.out 0
          have hfz27_1 := blk_frozen BK199.out 1
          have hfz27_2 := blk_frozen BK199.out 2
          have p201 : 0 ≤ (x5_2 : Int) := of_decide_eq_true (by first | (with_reducible assumption) | assumption)
          have q201 : x5_2 < (l1_2.length : Int) := of_decide_eq_true (by first | (with_reducible assumption) | assumption)
          obtain ⟨ad201, e201, hx201_0⟩ := Kd.at_int HR1_2.out x5_2 p201 q201
          cases e201
          replace hx201_0 := (HB.out.cell (World.block_lt_of_cell? w _ hx201_0)).trans hx201_0
          replace p201 := eq_true p201
          replace q201 := eq_true q201
          go_wp2
          repeat (go_quiet (fail); try go_wp2)
          go_ret
          exact ⟨by first | rfl | (simp [errW_none, errW_some] <;> rfl) | (simp [*, errW_none, errW_some] <;> rfl), by repeat (first | (with_reducible first | exact HB.out | apply below_alloc | apply pw_below_drewN | apply below_drew1 | refine below_set ?_ GE198.out | refine below_set ?_ GE199.out) | exact HB.out)⟩
        ·rw [if_neg c20] at H
         exact absurd H (by simp)
       ·rw [if_neg c19] at H
        exact absurd H (by simp)
      ·rw [if_neg c18] at H
       have c18b0 : decide (x5_2 < (l0_2.length : Int)) = false := decide_eq_false c18
       clear c18
       obtain rfl := Option.some.inj H
       have hnb28 := NB198_199.out
       have hnc28 := NB199_198.out
       have hcz29_0 : wr.cell? ⟨gb198, 0, none⟩ = some (.int .i64 a0_0) := (blk_cell BK198.out 0).trans rfl
       have hcz29_1 : wr.cell? ⟨gb198, 1, none⟩ = some (.int .i64 a0_1) := (blk_cell BK198.out 1).trans rfl
       have hcz29_2 : wr.cell? ⟨gb198, 2, none⟩ = some (.slice A0_2 l0_2.length c0_2) := (blk_cell BK198.out 2).trans rfl
       have hfz29_0 := blk_frozen BK198.out 0
       have hfz29_1 := blk_frozen BK198.out 1
       have hfz29_2 := blk_frozen BK198.out 2
       go_wp2
       repeat (go_quiet (fail); try go_wp2)
       go_ret
       exact ⟨by first | rfl | (simp [errW_none, errW_some] <;> rfl) | (simp [*, errW_none, errW_some] <;> rfl), by repeat (first | (with_reducible first | exact HB.out | apply below_alloc | apply pw_below_drewN | apply below_drew1 | refine below_set ?_ GE198.out | refine below_set ?_ GE199.out) | exact HB.out)⟩
def ferrulelaw12_num.f (a0 : Int) : Option (Bool × Int) := some (true, a0)
set_option maxHeartbeats 8000000 in
set_option maxRecDepth 100000 in
theorem ferrulelaw12_num.calls (a0 : Int) (r1 : Bool) (r2 : Int) (w : World) (h : ferrulelaw12_num.f a0 = some (r1, r2)) :
  Calls Try.prog 10 #[.int .i64 a0] w fun e w' => e = .returned (.agg #[.bool r1, .int .i64 r2]) ∧ Below w.heap.size w w' := by
 have hu30 := Try.underlying30
 have HB := Aside0.mk (Below.refl w.heap.size w)
 have H : (some (true, a0)) = some (r1, r2) := h
 clear h
 simp only [Option.some.injEq, Prod.mk.injEq] at H
 obtain ⟨rfl, rfl⟩ := H
 go_enter Try.func10, Try.ntmps10
 go_wp2_with (first | ((with_reducible refine gate_dst (N := 2) rfl ?_); refine box_event ?hg (N := 2) ?hd (cs := #[.bool false, .int .i64 0]) (t := 30) ?hr ?_; (case hd => rfl); (case hg => rfl); (case hr => first | (go_simp; done) | (go_simp; rfl)); intro gb197 hg w2 hbox hb; have n0_ := Aside0.mk (below_step (by repeat (first | (with_reducible first | exact HB.out | apply below_alloc | apply pw_below_drewN | apply below_drew1) | exact HB.out)) hb); have n1_ := Aside0.mk (hbox); have n2_ := Aside0.mk ((by rw [hg]; exact (below_size (by repeat (first | (with_reducible first | exact HB.out | apply below_alloc | apply pw_below_drewN | apply below_drew1) | exact HB.out))) : w.heap.size ≤ gb197)); have n3_ := Aside0.mk ((by rw [hg]; exact (below_size (by repeat (first | (with_reducible first | exact HB.out | apply below_alloc | apply pw_below_drewN | apply below_drew1) | exact HB.out))) : w.heap.size ≤ gb197)); clear HB; have HB := n0_; have BK197 := n1_; have GW197 := n2_; have GE197 := n3_; clear n0_ n1_ n2_ n3_; clear hb hbox hg; have hcz3_0 : w2.cell? ⟨gb197, 0, none⟩ = some (.bool false) := (blk_cell BK197.out 0).trans rfl; have hcz3_1 : w2.cell? ⟨gb197, 1, none⟩ = some (.int .i64 0) := (blk_cell BK197.out 1).trans rfl; have hfz3_0 := blk_frozen BK197.out 0; have hfz3_1 := blk_frozen BK197.out 1))
 refine bodyPost_ret (results_cell_row rfl _ _ gb197 30 #[.bool true, .int .i64 a0] (0, 0) _ rfl (by (with_reducible repeat (first | refine blk_drewN ?_ _ | refine blk_drew ?_ | refine blk_alloc ?_ _)); refine blk_put (cs := #[.bool true, .int .i64 0]) ?_ 1 _ rfl; (with_reducible repeat (first | refine blk_drewN ?_ _ | refine blk_drew ?_ | refine blk_alloc ?_ _)); refine blk_put (cs := #[.bool false, .int .i64 0]) ?_ 0 _ rfl; (with_reducible repeat (first | refine blk_drewN ?_ _ | refine blk_drew ?_ | refine blk_alloc ?_ _)); exact BK197.out) Try.underlying30 rfl (by kernel_rfl)) rfl ?_
 exact ⟨by first | rfl | (simp [errW_none, errW_some] <;> rfl) | (simp [*, errW_none, errW_some] <;> rfl), by repeat (first | (with_reducible first | exact HB.out | apply below_alloc | apply pw_below_drewN | apply below_drew1 | refine below_set ?_ GE197.out) | exact HB.out)⟩
end Go.Proofs.Ytpphpcmbpbppoaa.PMirFuel
end
section
namespace Go.Proofs.Ytpphpcmbpbppoaa.Mach
open Go.RowKit Go.Proofs.YtpphpcmbpbppoaaW.PrintWords Go.Proofs.YtpphpcmbpbppoaaW.PrintLast Go.Proofs.YtpphpcmbpbppoaaW.PrintMore
open Go.Proofs.Ytpphpcmbpbppoaa.Calm
open Go.Proofs.Ytpphpcmbpbppoaa.PMirFuel (S30 S57 S34 S37 S40 S43 S45 S48 k30 k57 k34 k37 k40 k43 k45 k48 rd_T30 rd_T57 rd_T34 rd_T37 rd_T40 rd_T43 rd_T45 rd_T48 at_T30 at_T57 at_T34 at_T40 at_T45 at_T48)
set_option linter.unusedVariables false
set_option linter.unusedSimpArgs false
open Go.Proofs.Ytpphpcmbpbppoaa.PMirFuel (k57_mk k34_mk k30_mk k37_mk k40_mk k43_mk k45_mk k48_mk z30 z34 z37 z40)
theorem ER.go {w : World} {f : FuncId} {args : Array Value} {r : Result Next} (h : r = .ok (.enter f args) w) : ER w f args r := ⟨h⟩
theorem reps_cons {α : Type} {R : α → List Value → Prop} {size : Nat} {p : α} {ps : List α} {c cs : List Value} (hp : R p c) (hc : c.length = size) (h : Reps R size ps cs) : Reps R size (p :: ps) (c ++ cs) := by
 refine ⟨by rw [List.length_append, hc, h.1, List.length_cons, Nat.succ_mul]; omega, fun j q hq => ?_⟩
 cases j with
 | zero =>
  obtain rfl : p = q := by simpa using hq
  rw [Nat.zero_mul, List.drop_zero, ← hc, List.take_left]
  exact hp
 | succ j =>
  rw [Nat.succ_mul, Nat.add_comm, ← hc, ← List.drop_drop, List.drop_left, hc]
  exact h.2 j q (by simpa using hq)
theorem lit_C {α : Type} (d : Kd α) {W : World} {b : Nat} (hb : W.heap.size = b) (e : Nat) {xs : List α} {inner : List Value} (hr : Reps (d.K W) d.sz xs inner) (hm : xs.length ≤ 9223372036854775807) : d.C (W.alloc (.cells inner.toArray e)) (some ⟨b, 0, none⟩) xs.length xs := by
 subst hb
 obtain ⟨A, c, he, hl, hr⟩ := (OwnRow.lit (e := e) W W.heap.size hr (Nat.le_refl _) hm).reads
 injection he with h1 h2 h3
 subst h1
 exact hr.imp_ (Below.refl _ _) (fun p c hp => d.K_below (below_alloc (Below.refl _ _) _) hp)
theorem run_bld {W : World} {a : Act} {o : Oper} {t : TypeId} {parts : Array (Nat × Operand)} {cells : Array Value} (ho : o.op = .build t parts) (hf : Try.prog.built t (parts.map fun (i, x) => (i, a.eval x)).toList = some cells) : (execOp a.eval o).run Try.prog W = .ok (.value (.agg cells)) W := by
 unfold execOp
 simp only [ho, Sem.run_bind, run_build W t _ cells hf, Result.andThen_ok, Sem.run_pure]
theorem ints_reps (W : World) : ∀ xs : List Int, Reps ((Kd.int .i64).K W) 1 xs (xs.map (Value.int .i64))
 | [] => Reps.none _ _
 | x :: r => reps_cons (c := [Value.int .i64 x]) rfl rfl (ints_reps W r)
structure Hold (p : Prop) : Prop where
 mk :: (out : p)
section
variable {P : Program} {ops : Array Oper} {Q : Exit → Act → World → Prop} {a : Act} {w : World} {rest : List Oper} {o : Oper}
theorem list_value {d : Tmp} {v : Value} (hg : o.guard = none) (hd : o.dst = some d) (hr : VW w v w ((execOp a.eval o).run P w)) (h : wpList P ops Q rest { tmps := a.tmps.setIfInBounds d v, defers := a.defers } w) : wpList P ops Q (o :: rest) a w := by
 refine wpList_step fun K hK => ?_
 rw [if_pos (by unfold Region.wanted; rw [hg])]
 unfold Oper.wp
 rw [hr.out, Oper.upon_value, hd]
 exact hK _ _ h
theorem list_alloc {d : Tmp} {v : Value} {b : Obj} (hg : o.guard = none) (hd : o.dst = some d) (hr : VW w v (w.alloc b) ((execOp a.eval o).run P w)) (h : ∀ w1, w.alloc b = w1 → wpList P ops Q rest { tmps := a.tmps.setIfInBounds d v, defers := a.defers } w1) : wpList P ops Q (o :: rest) a w := by
 refine wpList_step fun K hK => ?_
 rw [if_pos (by unfold Region.wanted; rw [hg])]
 unfold Oper.wp
 rw [hr.out, Oper.upon_value, hd]
 exact hK _ _ (h _ rfl)
theorem list_store {w' : World} (hg : o.guard = none) (hd : o.dst = none) (hr : SW w' ((execOp a.eval o).run P w)) (h : wpList P ops Q rest a w') : wpList P ops Q (o :: rest) a w := by
 refine wpList_step fun K hK => ?_
 rw [if_pos (by unfold Region.wanted; rw [hg])]
 unfold Oper.wp
 rw [hr.out, Oper.upon_skip, hd]
 exact hK _ _ h
end
theorem storeN (t : TypeId) (n : Nat) (hi : (Try.prog.info? t).map (·.size) = some n) (W : World) (z c : Array Value) (hz : z.size = n) (hs : c.size = n) (h1 : c.all (·.oneCell') = true) (a : Act) (o : Oper) (x y : Operand) (h : o.op = .store t x y) (hx : a.eval x = .pointer (some ⟨W.heap.size, 0, none⟩)) (hy : a.eval y = .agg c) :
  (execOp a.eval o).run Try.prog (W.alloc (.cells z t)) = .ok .skip (W.alloc (.cells c t)) := by
 have hst := run_storeAt_new (P := Try.prog) W t z c (by rw [hs]; exact hi) (by rw [hz, hs]) h1
 unfold execOp
 simp only [h, hx, hy, Sem.run_bind, hst, Result.andThen_ok, Sem.run_pure]
theorem loadN (t : TypeId) (n : Nat) (hi : (Try.prog.info? t).map (·.size) = some n) {fs : Array Field} (hu : Try.prog.underlying t = some (.struct fs)) (W : World) (g : Nat) (c : Array Value) (hg : Has W g c t) (hs : c.size = n) (a : Act) (o : Oper) (x : Operand) (h : o.op = .load t x) (hx : a.eval x = .pointer (some ⟨g, 0, none⟩)) :
  (execOp a.eval o).run Try.prog W = .ok (.value (.agg c)) W := by
 have hld := run_loadVar_row (P := Try.prog) W g t t c (0, 0) _ hg hu (by first | rfl | simp) (by rw [hs]; exact hi)
 unfold execOp
 simp only [h, hx, Instr.loadAt, Instr.sureAddr, Sem.run_bind, Sem.run_pure, Result.andThen_ok, hld]
def encI (A : Option Addr) (p : S40) : List Value := [.int .i64 p.f0, .int .i64 p.f1, .bool p.f2.f0, .int .i64 p.f2.f1, .bool p.f3.f0, .int .i64 p.f3.f1, .int .i64 p.f4.f0, .slice A p.f4.f1.length p.f4.f1.length, .int .i64 p.f5.f0, .slice none 0 0, .int .i64 p.f6, .string p.f7, .int .i64 p.f8.f0, .string p.f8.f1, .int .i64 p.f8.f2, .slice none 0 0, .slice none 0 0, .slice none 0 0]
theorem encI_K {V : World} {A : Option Addr} (p : S40) (g : k57.C V A p.f4.f1.length p.f4.f1) (h5 : p.f5.f1 = []) (h8 : p.f8.f3 = []) (h9 : p.f9 = []) (h10 : p.f10 = []) : k40.K V p (encI A p) := by
 have h := k40_mk V p (Nat.le_refl _) g (A9 := none) (c9 := 0) (by rw [h5]; exact Nat.le_refl 0) (by rw [h5]; exact Kd.C_nil _ _) (A15 := none) (c15 := 0) (by rw [h8]; exact Nat.le_refl 0) (by rw [h8]; exact Kd.C_nil _ _) (A16 := none) (c16 := 0) (by rw [h9]; exact Nat.le_refl 0) (by rw [h9]; exact Kd.C_nil _ _) (A17 := none) (c17 := 0) (by rw [h10]; exact Nat.le_refl 0) (by rw [h10]; exact Kd.C_nil _ _)
 rw [h5, h8, h9, h10] at h
 exact h
end Go.Proofs.Ytpphpcmbpbppoaa.Mach
end
section
namespace Go.Proofs.Ytpphpcmbpbppoaa.PMirFuel
open Go.RowKit Go.Proofs.YtpphpcmbpbppoaaW.PrintWords Go.Proofs.YtpphpcmbpbppoaaW.PrintLast Go.Proofs.YtpphpcmbpbppoaaW.PrintMore
attribute [local go_sem] max2_int min2_int max_two min_two max_three min_three max_four min_four   
set_option linter.unusedVariables false
set_option linter.unusedSimpArgs false
def types_amount_with.f (a0_0 : Int) (a0_1 : Int) (a0_2 : Bool) (a1_0 : Int) (a1_1 : Int) (a1_2 : Bool) : Option (Int × Int × Bool) := if a0_2 = true then (some (wrap64 (a0_0 + a1_0), wrap64 (a0_1 + a1_1), true)) else (some (wrap64 (a0_0 + a1_0), wrap64 (a0_1 + a1_1), a1_2))
set_option maxHeartbeats 8000000 in
set_option maxRecDepth 100000 in
theorem types_amount_with.calls (a0_0 : Int) (a0_1 : Int) (a0_2 : Bool) (a1_0 : Int) (a1_1 : Int) (a1_2 : Bool) (r1 : Int) (r2 : Int) (r3 : Bool) (w : World) (h : types_amount_with.f a0_0 a0_1 a0_2 a1_0 a1_1 a1_2 = some (r1, r2, r3)) :
  Calls Try.prog 148 #[.agg #[.int .i64 a0_0, .int .i64 a0_1, .bool a0_2], .agg #[.int .i64 a1_0, .int .i64 a1_1, .bool a1_2]] w fun e w' => e = .returned (.agg #[.int .i64 r1, .int .i64 r2, .bool r3]) ∧ Below w.heap.size w w' := by
 have hu217 := Try.underlying217
 have HB := Aside0.mk (Below.refl w.heap.size w)
 have H : (if a0_2 = true then (some (wrap64 (a0_0 + a1_0), wrap64 (a0_1 + a1_1), true)) else (some (wrap64 (a0_0 + a1_0), wrap64 (a0_1 + a1_1), a1_2))) = some (r1, r2, r3) := h
 clear h
 by_cases c3 : a0_2 = true
 ·subst c3
  have H1 : (some (wrap64 (a0_0 + a1_0), wrap64 (a0_1 + a1_1), true)) = some (r1, r2, r3) := by rw [if_pos rfl] at H; exact H
  clear H
  have H := H1
  clear H1
  simp only [Option.some.injEq, Prod.mk.injEq] at H
  obtain ⟨rfl, rfl, rfl⟩ := H
  go_enter Try.func148, Try.ntmps148
  go_wp2_with (first | ((with_reducible refine gate_dst (N := 2) rfl ?_); refine box_event ?hg (N := 2) ?hd (cs := #[.int .i64 a0_0, .int .i64 a0_1, .bool true]) (t := 217) ?hr ?_; (case hd => rfl); (case hg => rfl); (case hr => first | (go_simp; done) | (go_simp; rfl)); intro gb176 hg w4 hbox hb; have n0_ := Aside0.mk (below_step (by repeat (first | (with_reducible first | exact HB.out | apply below_alloc | apply pw_below_drewN | apply below_drew1) | exact HB.out)) hb); have n1_ := Aside0.mk (hbox); have n2_ := Aside0.mk ((by rw [hg]; exact (below_size (by repeat (first | (with_reducible first | exact HB.out | apply below_alloc | apply pw_below_drewN | apply below_drew1) | exact HB.out))) : w.heap.size ≤ gb176)); have n3_ := Aside0.mk ((by rw [hg]; exact (below_size (by repeat (first | (with_reducible first | exact HB.out | apply below_alloc | apply pw_below_drewN | apply below_drew1) | exact HB.out))) : w.heap.size ≤ gb176)); clear HB; have HB := n0_; have BK176 := n1_; have GW176 := n2_; have GE176 := n3_; clear n0_ n1_ n2_ n3_; clear hb hbox hg) | ((with_reducible refine gate_dst (N := 3) rfl ?_); refine box_event ?hg (N := 3) ?hd (cs := #[.int .i64 a1_0, .int .i64 a1_1, .bool a1_2]) (t := 217) ?hr ?_; (case hd => rfl); (case hg => rfl); (case hr => first | (go_simp; done) | (go_simp; rfl)); intro gb177 hg w5 hbox hb; have n0_ := Aside0.mk (blk_below (g := gb176) (o := .cells #[.int .i64 a0_0, .int .i64 a0_1, .bool true] 217 (0, 0)) (by (with_reducible repeat (first | refine blk_drewN ?_ _ | refine blk_drew ?_ | refine blk_alloc ?_ _)); exact BK176.out) hb); have n1_ := Aside0.mk (below_step (by repeat (first | (with_reducible first | exact HB.out | apply below_alloc | apply pw_below_drewN | apply below_drew1 | refine below_set ?_ GE176.out) | exact HB.out)) hb); have n2_ := Aside0.mk (hbox); have n3_ := Aside0.mk ((by rw [hg]; exact (below_size (by repeat (first | (with_reducible first | exact HB.out | apply below_alloc | apply pw_below_drewN | apply below_drew1 | refine below_set ?_ GE176.out) | exact HB.out))) : w.heap.size ≤ gb177)); have n4_ := Aside0.mk ((by rw [hg]; exact (below_size (by repeat (first | (with_reducible first | exact HB.out | apply below_alloc | apply pw_below_drewN | apply below_drew1 | refine below_set ?_ GE176.out) | exact HB.out))) : w.heap.size ≤ gb177)); have n5_ := Aside0.mk ((by rw [hg]; exact Nat.ne_of_lt (blk_lt (g := gb176) (o := .cells #[.int .i64 a0_0, .int .i64 a0_1, .bool true] 217 (0, 0)) (by (with_reducible repeat (first | refine blk_drewN ?_ _ | refine blk_drew ?_ | refine blk_alloc ?_ _)); exact BK176.out)) : gb176 ≠ gb177)); have n6_ := Aside0.mk ((by rw [hg]; exact Nat.ne_of_gt (blk_lt (g := gb176) (o := .cells #[.int .i64 a0_0, .int .i64 a0_1, .bool true] 217 (0, 0)) (by (with_reducible repeat (first | refine blk_drewN ?_ _ | refine blk_drew ?_ | refine blk_alloc ?_ _)); exact BK176.out)) : gb177 ≠ gb176)); clear BK176; clear HB; have BK176 := n0_; have HB := n1_; have BK177 := n2_; have GW177 := n3_; have GE177 := n4_; have NB176_177 := n5_; have NB177_176 := n6_; clear n0_ n1_ n2_ n3_ n4_ n5_ n6_; clear hb hbox hg) | ((with_reducible refine gate_dst (N := 4) rfl ?_); refine box_event ?hg (N := 4) ?hd (cs := #[.int .i64 0, .int .i64 0, .bool false]) (t := 217) ?hr ?_; (case hd => rfl); (case hg => rfl); (case hr => first | (go_simp; done) | (go_simp; rfl)); intro gb178 hg w6 hbox hb; have n0_ := Aside0.mk (blk_below (g := gb176) (o := .cells #[.int .i64 a0_0, .int .i64 a0_1, .bool true] 217 (0, 0)) (by (with_reducible repeat (first | refine blk_drewN ?_ _ | refine blk_drew ?_ | refine blk_alloc ?_ _)); exact BK176.out) hb); have n1_ := Aside0.mk (blk_below (g := gb177) (o := .cells #[.int .i64 a1_0, .int .i64 a1_1, .bool a1_2] 217 (0, 0)) (by (with_reducible repeat (first | refine blk_drewN ?_ _ | refine blk_drew ?_ | refine blk_alloc ?_ _)); exact BK177.out) hb); have n2_ := Aside0.mk (below_step (by repeat (first | (with_reducible first | exact HB.out | apply below_alloc | apply pw_below_drewN | apply below_drew1 | refine below_set ?_ GE176.out | refine below_set ?_ GE177.out) | exact HB.out)) hb); have n3_ := Aside0.mk (hbox); have n4_ := Aside0.mk ((by rw [hg]; exact (below_size (by repeat (first | (with_reducible first | exact HB.out | apply below_alloc | apply pw_below_drewN | apply below_drew1 | refine below_set ?_ GE176.out | refine below_set ?_ GE177.out) | exact HB.out))) : w.heap.size ≤ gb178)); have n5_ := Aside0.mk ((by rw [hg]; exact (below_size (by repeat (first | (with_reducible first | exact HB.out | apply below_alloc | apply pw_below_drewN | apply below_drew1 | refine below_set ?_ GE176.out | refine below_set ?_ GE177.out) | exact HB.out))) : w.heap.size ≤ gb178)); have n6_ := Aside0.mk ((by rw [hg]; exact Nat.ne_of_lt (blk_lt (g := gb176) (o := .cells #[.int .i64 a0_0, .int .i64 a0_1, .bool true] 217 (0, 0)) (by (with_reducible repeat (first | refine blk_drewN ?_ _ | refine blk_drew ?_ | refine blk_alloc ?_ _)); exact BK176.out)) : gb176 ≠ gb178)); have n7_ := Aside0.mk ((by rw [hg]; exact Nat.ne_of_gt (blk_lt (g := gb176) (o := .cells #[.int .i64 a0_0, .int .i64 a0_1, .bool true] 217 (0, 0)) (by (with_reducible repeat (first | refine blk_drewN ?_ _ | refine blk_drew ?_ | refine blk_alloc ?_ _)); exact BK176.out)) : gb178 ≠ gb176)); have n8_ := Aside0.mk ((by rw [hg]; exact Nat.ne_of_lt (blk_lt (g := gb177) (o := .cells #[.int .i64 a1_0, .int .i64 a1_1, .bool a1_2] 217 (0, 0)) (by (with_reducible repeat (first | refine blk_drewN ?_ _ | refine blk_drew ?_ | refine blk_alloc ?_ _)); exact BK177.out)) : gb177 ≠ gb178)); have n9_ := Aside0.mk ((by rw [hg]; exact Nat.ne_of_gt (blk_lt (g := gb177) (o := .cells #[.int .i64 a1_0, .int .i64 a1_1, .bool a1_2] 217 (0, 0)) (by (with_reducible repeat (first | refine blk_drewN ?_ _ | refine blk_drew ?_ | refine blk_alloc ?_ _)); exact BK177.out)) : gb178 ≠ gb177)); clear BK176; clear BK177; clear HB; have BK176 := n0_; have BK177 := n1_; have HB := n2_; have BK178 := n3_; have GW178 := n4_; have GE178 := n5_; have NB176_178 := n6_; have NB178_176 := n7_; have NB177_178 := n8_; have NB178_177 := n9_; clear n0_ n1_ n2_ n3_ n4_ n5_ n6_ n7_ n8_ n9_; clear hb hbox hg; have hnb7 := NB176_177.out; have hnc7 := NB177_176.out; have hnb8 := NB176_178.out; have hnc8 := NB178_176.out; have hcz9_0 : w6.cell? ⟨gb176, 0, none⟩ = some (.int .i64 a0_0) := (blk_cell BK176.out 0).trans rfl; have hcz9_1 : w6.cell? ⟨gb176, 1, none⟩ = some (.int .i64 a0_1) := (blk_cell BK176.out 1).trans rfl; have hcz9_2 : w6.cell? ⟨gb176, 2, none⟩ = some (.bool true) := (blk_cell BK176.out 2).trans rfl; have hfz9_0 := blk_frozen BK176.out 0; have hfz9_1 := blk_frozen BK176.out 1; have hfz9_2 := blk_frozen BK176.out 2; have hnb10 := NB177_178.out; have hnc10 := NB178_177.out; have hcz11_0 : w6.cell? ⟨gb177, 0, none⟩ = some (.int .i64 a1_0) := (blk_cell BK177.out 0).trans rfl; have hcz11_1 : w6.cell? ⟨gb177, 1, none⟩ = some (.int .i64 a1_1) := (blk_cell BK177.out 1).trans rfl; have hcz11_2 : w6.cell? ⟨gb177, 2, none⟩ = some (.bool a1_2) := (blk_cell BK177.out 2).trans rfl; have hfz11_0 := blk_frozen BK177.out 0; have hfz11_1 := blk_frozen BK177.out 1; have hfz11_2 := blk_frozen BK177.out 2; have hcz12_0 : w6.cell? ⟨gb178, 0, none⟩ = some (.int .i64 0) := (blk_cell BK178.out 0).trans rfl; have hcz12_1 : w6.cell? ⟨gb178, 1, none⟩ = some (.int .i64 0) := (blk_cell BK178.out 1).trans rfl; have hcz12_2 : w6.cell? ⟨gb178, 2, none⟩ = some (.bool false) := (blk_cell BK178.out 2).trans rfl; have hfz12_0 := blk_frozen BK178.out 0; have hfz12_1 := blk_frozen BK178.out 1; have hfz12_2 := blk_frozen BK178.out 2))
  refine bodyPost_ret (results_cell_row rfl _ _ gb178 217 #[.int .i64 (wrap64 (a0_0 + a1_0)), .int .i64 (wrap64 (a0_1 + a1_1)), .bool true] (0, 0) _ rfl (by (with_reducible repeat (first | refine blk_drewN ?_ _ | refine blk_drew ?_ | refine blk_alloc ?_ _)); refine blk_put (cs := #[.int .i64 (wrap64 (a0_0 + a1_0)), .int .i64 (wrap64 (a0_1 + a1_1)), .bool false]) ?_ 2 _ rfl; (with_reducible repeat (first | refine blk_drewN ?_ _ | refine blk_drew ?_ | refine blk_alloc ?_ _)); refine blk_put (cs := #[.int .i64 (wrap64 (a0_0 + a1_0)), .int .i64 0, .bool false]) ?_ 1 _ rfl; (with_reducible repeat (first | refine blk_drewN ?_ _ | refine blk_drew ?_ | refine blk_alloc ?_ _)); refine blk_put (cs := #[.int .i64 0, .int .i64 0, .bool false]) ?_ 0 _ rfl; (with_reducible repeat (first | refine blk_drewN ?_ _ | refine blk_drew ?_ | refine blk_alloc ?_ _)); exact BK178.out) Try.underlying217 rfl (by kernel_rfl)) rfl ?_
  exact ⟨by first | rfl | (simp [errW_none, errW_some] <;> rfl) | (simp [*, errW_none, errW_some] <;> rfl), by repeat (first | (with_reducible first | exact HB.out | apply below_alloc | apply pw_below_drewN | apply below_drew1 | refine below_set ?_ GE176.out | refine below_set ?_ GE177.out | refine below_set ?_ GE178.out) | exact HB.out)⟩
 ·replace c3 := Bool.eq_false_iff.mpr c3
  subst c3
  have H1 : (some (wrap64 (a0_0 + a1_0), wrap64 (a0_1 + a1_1), a1_2)) = some (r1, r2, r3) := by rw [if_neg (show ¬ (false = true) by decide)] at H; exact H
  clear H
  have H := H1
  clear H1
  simp only [Option.some.injEq, Prod.mk.injEq] at H
  obtain ⟨rfl, rfl, rfl⟩ := H
  go_enter Try.func148, Try.ntmps148
  go_wp2_with (first | ((with_reducible refine gate_dst (N := 2) rfl ?_); refine box_event ?hg (N := 2) ?hd (cs := #[.int .i64 a0_0, .int .i64 a0_1, .bool false]) (t := 217) ?hr ?_; (case hd => rfl); (case hg => rfl); (case hr => first | (go_simp; done) | (go_simp; rfl)); intro gb176 hg w13 hbox hb; have n0_ := Aside0.mk (below_step (by repeat (first | (with_reducible first | exact HB.out | apply below_alloc | apply pw_below_drewN | apply below_drew1) | exact HB.out)) hb); have n1_ := Aside0.mk (hbox); have n2_ := Aside0.mk ((by rw [hg]; exact (below_size (by repeat (first | (with_reducible first | exact HB.out | apply below_alloc | apply pw_below_drewN | apply below_drew1) | exact HB.out))) : w.heap.size ≤ gb176)); have n3_ := Aside0.mk ((by rw [hg]; exact (below_size (by repeat (first | (with_reducible first | exact HB.out | apply below_alloc | apply pw_below_drewN | apply below_drew1) | exact HB.out))) : w.heap.size ≤ gb176)); clear HB; have HB := n0_; have BK176 := n1_; have GW176 := n2_; have GE176 := n3_; clear n0_ n1_ n2_ n3_; clear hb hbox hg) | ((with_reducible refine gate_dst (N := 3) rfl ?_); refine box_event ?hg (N := 3) ?hd (cs := #[.int .i64 a1_0, .int .i64 a1_1, .bool a1_2]) (t := 217) ?hr ?_; (case hd => rfl); (case hg => rfl); (case hr => first | (go_simp; done) | (go_simp; rfl)); intro gb177 hg w14 hbox hb; have n0_ := Aside0.mk (blk_below (g := gb176) (o := .cells #[.int .i64 a0_0, .int .i64 a0_1, .bool false] 217 (0, 0)) (by (with_reducible repeat (first | refine blk_drewN ?_ _ | refine blk_drew ?_ | refine blk_alloc ?_ _)); exact BK176.out) hb); have n1_ := Aside0.mk (below_step (by repeat (first | (with_reducible first | exact HB.out | apply below_alloc | apply pw_below_drewN | apply below_drew1 | refine below_set ?_ GE176.out) | exact HB.out)) hb); have n2_ := Aside0.mk (hbox); have n3_ := Aside0.mk ((by rw [hg]; exact (below_size (by repeat (first | (with_reducible first | exact HB.out | apply below_alloc | apply pw_below_drewN | apply below_drew1 | refine below_set ?_ GE176.out) | exact HB.out))) : w.heap.size ≤ gb177)); have n4_ := Aside0.mk ((by rw [hg]; exact (below_size (by repeat (first | (with_reducible first | exact HB.out | apply below_alloc | apply pw_below_drewN | apply below_drew1 | refine below_set ?_ GE176.out) | exact HB.out))) : w.heap.size ≤ gb177)); have n5_ := Aside0.mk ((by rw [hg]; exact Nat.ne_of_lt (blk_lt (g := gb176) (o := .cells #[.int .i64 a0_0, .int .i64 a0_1, .bool false] 217 (0, 0)) (by (with_reducible repeat (first | refine blk_drewN ?_ _ | refine blk_drew ?_ | refine blk_alloc ?_ _)); exact BK176.out)) : gb176 ≠ gb177)); have n6_ := Aside0.mk ((by rw [hg]; exact Nat.ne_of_gt (blk_lt (g := gb176) (o := .cells #[.int .i64 a0_0, .int .i64 a0_1, .bool false] 217 (0, 0)) (by (with_reducible repeat (first | refine blk_drewN ?_ _ | refine blk_drew ?_ | refine blk_alloc ?_ _)); exact BK176.out)) : gb177 ≠ gb176)); clear BK176; clear HB; have BK176 := n0_; have HB := n1_; have BK177 := n2_; have GW177 := n3_; have GE177 := n4_; have NB176_177 := n5_; have NB177_176 := n6_; clear n0_ n1_ n2_ n3_ n4_ n5_ n6_; clear hb hbox hg) | ((with_reducible refine gate_dst (N := 4) rfl ?_); refine box_event ?hg (N := 4) ?hd (cs := #[.int .i64 0, .int .i64 0, .bool false]) (t := 217) ?hr ?_; (case hd => rfl); (case hg => rfl); (case hr => first | (go_simp; done) | (go_simp; rfl)); intro gb178 hg w15 hbox hb; have n0_ := Aside0.mk (blk_below (g := gb176) (o := .cells #[.int .i64 a0_0, .int .i64 a0_1, .bool false] 217 (0, 0)) (by (with_reducible repeat (first | refine blk_drewN ?_ _ | refine blk_drew ?_ | refine blk_alloc ?_ _)); exact BK176.out) hb); have n1_ := Aside0.mk (blk_below (g := gb177) (o := .cells #[.int .i64 a1_0, .int .i64 a1_1, .bool a1_2] 217 (0, 0)) (by (with_reducible repeat (first | refine blk_drewN ?_ _ | refine blk_drew ?_ | refine blk_alloc ?_ _)); exact BK177.out) hb); have n2_ := Aside0.mk (below_step (by repeat (first | (with_reducible first | exact HB.out | apply below_alloc | apply pw_below_drewN | apply below_drew1 | refine below_set ?_ GE176.out | refine below_set ?_ GE177.out) | exact HB.out)) hb); have n3_ := Aside0.mk (hbox); have n4_ := Aside0.mk ((by rw [hg]; exact (below_size (by repeat (first | (with_reducible first | exact HB.out | apply below_alloc | apply pw_below_drewN | apply below_drew1 | refine below_set ?_ GE176.out | refine below_set ?_ GE177.out) | exact HB.out))) : w.heap.size ≤ gb178)); have n5_ := Aside0.mk ((by rw [hg]; exact (below_size (by repeat (first | (with_reducible first | exact HB.out | apply below_alloc | apply pw_below_drewN | apply below_drew1 | refine below_set ?_ GE176.out | refine below_set ?_ GE177.out) | exact HB.out))) : w.heap.size ≤ gb178)); have n6_ := Aside0.mk ((by rw [hg]; exact Nat.ne_of_lt (blk_lt (g := gb176) (o := .cells #[.int .i64 a0_0, .int .i64 a0_1, .bool false] 217 (0, 0)) (by (with_reducible repeat (first | refine blk_drewN ?_ _ | refine blk_drew ?_ | refine blk_alloc ?_ _)); exact BK176.out)) : gb176 ≠ gb178)); have n7_ := Aside0.mk ((by rw [hg]; exact Nat.ne_of_gt (blk_lt (g := gb176) (o := .cells #[.int .i64 a0_0, .int .i64 a0_1, .bool false] 217 (0, 0)) (by (with_reducible repeat (first | refine blk_drewN ?_ _ | refine blk_drew ?_ | refine blk_alloc ?_ _)); exact BK176.out)) : gb178 ≠ gb176)); have n8_ := Aside0.mk ((by rw [hg]; exact Nat.ne_of_lt (blk_lt (g := gb177) (o := .cells #[.int .i64 a1_0, .int .i64 a1_1, .bool a1_2] 217 (0, 0)) (by (with_reducible repeat (first | refine blk_drewN ?_ _ | refine blk_drew ?_ | refine blk_alloc ?_ _)); exact BK177.out)) : gb177 ≠ gb178)); have n9_ := Aside0.mk ((by rw [hg]; exact Nat.ne_of_gt (blk_lt (g := gb177) (o := .cells #[.int .i64 a1_0, .int .i64 a1_1, .bool a1_2] 217 (0, 0)) (by (with_reducible repeat (first | refine blk_drewN ?_ _ | refine blk_drew ?_ | refine blk_alloc ?_ _)); exact BK177.out)) : gb178 ≠ gb177)); clear BK176; clear BK177; clear HB; have BK176 := n0_; have BK177 := n1_; have HB := n2_; have BK178 := n3_; have GW178 := n4_; have GE178 := n5_; have NB176_178 := n6_; have NB178_176 := n7_; have NB177_178 := n8_; have NB178_177 := n9_; clear n0_ n1_ n2_ n3_ n4_ n5_ n6_ n7_ n8_ n9_; clear hb hbox hg; have hnb16 := NB176_177.out; have hnc16 := NB177_176.out; have hnb17 := NB176_178.out; have hnc17 := NB178_176.out; have hcz18_0 : w15.cell? ⟨gb176, 0, none⟩ = some (.int .i64 a0_0) := (blk_cell BK176.out 0).trans rfl; have hcz18_1 : w15.cell? ⟨gb176, 1, none⟩ = some (.int .i64 a0_1) := (blk_cell BK176.out 1).trans rfl; have hcz18_2 : w15.cell? ⟨gb176, 2, none⟩ = some (.bool false) := (blk_cell BK176.out 2).trans rfl; have hfz18_0 := blk_frozen BK176.out 0; have hfz18_1 := blk_frozen BK176.out 1; have hfz18_2 := blk_frozen BK176.out 2; have hnb19 := NB177_178.out; have hnc19 := NB178_177.out; have hcz20_0 : w15.cell? ⟨gb177, 0, none⟩ = some (.int .i64 a1_0) := (blk_cell BK177.out 0).trans rfl; have hcz20_1 : w15.cell? ⟨gb177, 1, none⟩ = some (.int .i64 a1_1) := (blk_cell BK177.out 1).trans rfl; have hcz20_2 : w15.cell? ⟨gb177, 2, none⟩ = some (.bool a1_2) := (blk_cell BK177.out 2).trans rfl; have hfz20_0 := blk_frozen BK177.out 0; have hfz20_1 := blk_frozen BK177.out 1; have hfz20_2 := blk_frozen BK177.out 2; have hcz21_0 : w15.cell? ⟨gb178, 0, none⟩ = some (.int .i64 0) := (blk_cell BK178.out 0).trans rfl; have hcz21_1 : w15.cell? ⟨gb178, 1, none⟩ = some (.int .i64 0) := (blk_cell BK178.out 1).trans rfl; have hcz21_2 : w15.cell? ⟨gb178, 2, none⟩ = some (.bool false) := (blk_cell BK178.out 2).trans rfl; have hfz21_0 := blk_frozen BK178.out 0; have hfz21_1 := blk_frozen BK178.out 1; have hfz21_2 := blk_frozen BK178.out 2))
  refine bodyPost_ret (results_cell_row rfl _ _ gb178 217 #[.int .i64 (wrap64 (a0_0 + a1_0)), .int .i64 (wrap64 (a0_1 + a1_1)), .bool a1_2] (0, 0) _ rfl (by (with_reducible repeat (first | refine blk_drewN ?_ _ | refine blk_drew ?_ | refine blk_alloc ?_ _)); refine blk_put (cs := #[.int .i64 (wrap64 (a0_0 + a1_0)), .int .i64 (wrap64 (a0_1 + a1_1)), .bool false]) ?_ 2 _ rfl; (with_reducible repeat (first | refine blk_drewN ?_ _ | refine blk_drew ?_ | refine blk_alloc ?_ _)); refine blk_put (cs := #[.int .i64 (wrap64 (a0_0 + a1_0)), .int .i64 0, .bool false]) ?_ 1 _ rfl; (with_reducible repeat (first | refine blk_drewN ?_ _ | refine blk_drew ?_ | refine blk_alloc ?_ _)); refine blk_put (cs := #[.int .i64 0, .int .i64 0, .bool false]) ?_ 0 _ rfl; (with_reducible repeat (first | refine blk_drewN ?_ _ | refine blk_drew ?_ | refine blk_alloc ?_ _)); exact BK178.out) Try.underlying217 rfl (by kernel_rfl)) rfl ?_
  exact ⟨by first | rfl | (simp [errW_none, errW_some] <;> rfl) | (simp [*, errW_none, errW_some] <;> rfl), by repeat (first | (with_reducible first | exact HB.out | apply below_alloc | apply pw_below_drewN | apply below_drew1 | refine below_set ?_ GE176.out | refine below_set ?_ GE177.out | refine below_set ?_ GE178.out) | exact HB.out)⟩
end Go.Proofs.Ytpphpcmbpbppoaa.PMirFuel
end
section
namespace Go.Proofs.Ytpphpcmbpbppoaa.Calm
open Go
set_option linter.unusedVariables false
section
variable {P : Program} {ops : Array Oper} {a : Act} {w : World} {Fin : Act → World → Prop}
def finQ (Fin : Act → World → Prop) : Exit → Act → World → Prop
 | .normal, a, w => Fin a w
 | _, _, _ => False
def Tree (P : Program) (ops : Array Oper) (Fin : Act → World → Prop) (fuel : Nat) (ls : Array Bool) (a : Act) (w : World) : Prop := wpAnyH P .any ops (finQ Fin) (fun _ => True) fuel ls a w
theorem region_tree {id : Nat} {Q : Exit → Act → World → Prop} {l : List Oper} (hm : P.follows .mixedOrders = true) (Fin : Act → World → Prop) (h : Tree P l.toArray Fin l.length (Array.replicate l.length false) a w.drew) (hQ : ∀ a' w', Fin a' w' → Q .normal a' w') : (Code.region id l.toArray true).wp P Q a w := by
 refine Code.wp_mono (Q := finQ Fin) (fun e a w h => ?_) ?_
 ·cases e <;> first | exact hQ _ _ h | exact (h : False).elim
 ·exact wp_region_held_drew (S := fun _ => True) hm trivial fun _ => by simpa [Tree] using h
theorem tree_h {fuel : Nat} {ls : Array Bool} {i : Nat} {o : Oper} {d : Tmp} (hs : Region.noSelect ops = true) (ho : ops[i]? = some o) (hd : o.dst = some d) (hr : ((Region.ready .any ops ls).contains i && Region.free .any ops ls i) = true) (hw : Region.wanted o (yielded ops a.tmps) = true)
  (h : ∃ v, (∀ w, VR w v ((execOp a.eval o).run P w)) ∧ Tree P ops Fin fuel (ls.setIfInBounds i true) { tmps := a.tmps.setIfInBounds d v, defers := a.defers } w) : Tree P ops Fin (fuel + 1) ls a w := by
 obtain ⟨v, hv, h⟩ := h
 simp only [Bool.and_eq_true] at hr
 refine wpAnyH_take ho hs hr.2 hr.1 (fun c a' w' hq => hq) (v := v) (.inl ⟨hw, fun w _ => (hv w).out⟩) trivial ?_
 rw [hd]; exact h
def Step (P : Program) (ops : Array Oper) (Fin : Act → World → Prop) (fuel : Nat) (ls : Array Bool) (a : Act) (w : World) (i : Nat) : Prop :=
 wpOp P ops (finQ Fin) i (fun a' w' => True ∧ Tree P ops Fin fuel (ls.setIfInBounds i true) a' w') a w
theorem tree_1 {fuel : Nat} {ls : Array Bool} {i : Nat} (hr : Region.ready .any ops ls = [i]) (h : Step P ops Fin fuel ls a w i) : Tree P ops Fin (fuel + 1) ls a w :=
 wpAnyH_all hr (by simp) fun j hj => by
  obtain rfl : j = i := by simpa using hj
  exact h
theorem tree_2 {fuel : Nat} {ls : Array Bool} {i k : Nat} (hr : Region.ready .any ops ls = [i, k]) (h : Step P ops Fin fuel ls a w i) (h2 : Step P ops Fin fuel ls a w k) : Tree P ops Fin (fuel + 1) ls a w :=
 wpAnyH_all hr (by simp) fun j hj => by
  rcases (by simpa using hj : j = i ∨ j = k) with rfl | rfl
  ·exact h
  ·exact h2
theorem tree_3 {fuel : Nat} {ls : Array Bool} {i k m : Nat} (hr : Region.ready .any ops ls = [i, k, m]) (h : Step P ops Fin fuel ls a w i) (h2 : Step P ops Fin fuel ls a w k) (h3 : Step P ops Fin fuel ls a w m) : Tree P ops Fin (fuel + 1) ls a w :=
 wpAnyH_all hr (by simp) fun j hj => by
  rcases (by simpa using hj : j = i ∨ j = k ∨ j = m) with rfl | rfl | rfl
  ·exact h
  ·exact h2
  ·exact h3
theorem tree_end {ls : Array Bool} (hr : Region.ready .any ops ls = []) (h : Fin a w) : Tree P ops Fin 0 ls a w := ⟨hr, h⟩
theorem step_value {fuel : Nat} {ls : Array Bool} {i : Nat} {o : Oper} {d : Tmp} {v : Value} {w' : World} (ho : ops[i]? = some o) (hd : o.dst = some d) (hw : Region.wanted o (yielded ops a.tmps) = true) (hr : VW w v w' ((execOp a.eval o).run P w))
  (h : Tree P ops Fin fuel (ls.setIfInBounds i true) { tmps := a.tmps.setIfInBounds d v, defers := a.defers } w') : Step P ops Fin fuel ls a w i := by
 unfold Step wpOp
 simp only [ho, hw, if_true]
 left
 unfold Oper.wp
 rw [hr.out, Oper.upon_value, hd]
 exact ⟨trivial, h⟩
theorem step_store {fuel : Nat} {ls : Array Bool} {i : Nat} {o : Oper} {w' : World} (ho : ops[i]? = some o) (hd : o.dst = none) (hw : Region.wanted o (yielded ops a.tmps) = true) (hr : SW w' ((execOp a.eval o).run P w))
  (h : Tree P ops Fin fuel (ls.setIfInBounds i true) a w') : Step P ops Fin fuel ls a w i := by
 unfold Step wpOp
 simp only [ho, hw, if_true]
 left
 unfold Oper.wp
 rw [hr.out, Oper.upon_skip, hd]
 exact ⟨trivial, h⟩
theorem step_call {fuel : Nat} {ls : Array Bool} {i : Nat} {o : Oper} {d : Tmp} {f : FuncId} {args : Array Value} (ho : ops[i]? = some o) (hd : o.dst = some d) (hw : Region.wanted o (yielded ops a.tmps) = true) (hr : ER w f args ((execOp a.eval o).run P w))
  (hc : Calls P f args w fun e w' => ∃ v, e = .returned v ∧ Tree P ops Fin fuel (ls.setIfInBounds i true) { tmps := a.tmps.setIfInBounds d v, defers := a.defers } w') : Step P ops Fin fuel ls a w i := by
 unfold Step wpOp
 simp only [ho, hw, if_true]
 left
 unfold Oper.wp
 rw [hr.out, Oper.upon_enter]
 refine hc.mono ?_
 rintro e w' ⟨v, rfl, h⟩
 refine ⟨trivial, ?_⟩
 rw [hd]; exact h
end
end Go.Proofs.Ytpphpcmbpbppoaa.Calm
end
section
namespace Go.Proofs.Ytpphpcmbpbppoaa.Calm
open Go
set_option linter.unusedVariables false
section
variable {P : Program} {ops : Array Oper} {a : Act} {w : World} {Fin : Act → World → Prop} {S : World → Prop}
def TreeS (P : Program) (ops : Array Oper) (S : World → Prop) (Fin : Act → World → Prop) (fuel : Nat) (ls : Array Bool) (a : Act) (w : World) : Prop := wpAnyH P .any ops (finQ Fin) S fuel ls a w
theorem region_treeS {id : Nat} {Q : Exit → Act → World → Prop} {l : List Oper} (hm : P.follows .mixedOrders = true) (S : World → Prop) (Fin : Act → World → Prop) (hS : S w.drew) (h : S w.drew → TreeS P l.toArray S Fin l.length (Array.replicate l.length false) a w.drew) (hQ : ∀ a' w', Fin a' w' → Q .normal a' w') : (Code.region id l.toArray true).wp P Q a w := by
 refine Code.wp_mono (Q := finQ Fin) (fun e a w h => ?_) ?_
 ·cases e <;> first | exact hQ _ _ h | exact (h : False).elim
 ·exact wp_region_held_drew (S := S) hm hS fun hS' => by simpa [TreeS] using h hS'
theorem treeS_h (hS : S w) {fuel : Nat} {ls : Array Bool} {i : Nat} {o : Oper} {d : Tmp} (hs : Region.noSelect ops = true) (ho : ops[i]? = some o) (hd : o.dst = some d) (hr : ((Region.ready .any ops ls).contains i && Region.free .any ops ls i) = true) (hw : Region.wanted o (yielded ops a.tmps) = true)
  (h : ∃ v, (∀ w, S w → VR w v ((execOp a.eval o).run P w)) ∧ TreeS P ops S Fin fuel (ls.setIfInBounds i true) { tmps := a.tmps.setIfInBounds d v, defers := a.defers } w) : TreeS P ops S Fin (fuel + 1) ls a w := by
 obtain ⟨v, hv, h⟩ := h
 simp only [Bool.and_eq_true] at hr
 refine wpAnyH_take ho hs hr.2 hr.1 (fun c a' w' hq => hq) (v := v) (.inl ⟨hw, fun w hw => (hv w hw).out⟩) hS ?_
 rw [hd]; exact h
def StepS (P : Program) (ops : Array Oper) (S : World → Prop) (Fin : Act → World → Prop) (fuel : Nat) (ls : Array Bool) (a : Act) (w : World) (i : Nat) : Prop :=
 wpOp P ops (finQ Fin) i (fun a' w' => S w' ∧ TreeS P ops S Fin fuel (ls.setIfInBounds i true) a' w') a w
theorem tree_1S {fuel : Nat} {ls : Array Bool} {i : Nat} (hr : Region.ready .any ops ls = [i]) (h : StepS P ops S Fin fuel ls a w i) : TreeS P ops S Fin (fuel + 1) ls a w :=
 wpAnyH_all hr (by simp) fun j hj => by
  obtain rfl : j = i := by simpa using hj
  exact h
theorem tree_2S {fuel : Nat} {ls : Array Bool} {i k : Nat} (hr : Region.ready .any ops ls = [i, k]) (h : StepS P ops S Fin fuel ls a w i) (h2 : StepS P ops S Fin fuel ls a w k) : TreeS P ops S Fin (fuel + 1) ls a w :=
 wpAnyH_all hr (by simp) fun j hj => by
  rcases (by simpa using hj : j = i ∨ j = k) with rfl | rfl
  ·exact h
  ·exact h2
theorem tree_endS {ls : Array Bool} (hr : Region.ready .any ops ls = []) (h : Fin a w) : TreeS P ops S Fin 0 ls a w := ⟨hr, h⟩
theorem step_valueS {fuel : Nat} {ls : Array Bool} {i : Nat} {o : Oper} {d : Tmp} {v : Value} {w' : World} (ho : ops[i]? = some o) (hd : o.dst = some d) (hw : Region.wanted o (yielded ops a.tmps) = true) (hr : VW w v w' ((execOp a.eval o).run P w)) (hS : S w')
  (h : TreeS P ops S Fin fuel (ls.setIfInBounds i true) { tmps := a.tmps.setIfInBounds d v, defers := a.defers } w') : StepS P ops S Fin fuel ls a w i := by
 unfold StepS wpOp
 simp only [ho, hw, if_true]
 left
 unfold Oper.wp
 rw [hr.out, Oper.upon_value, hd]
 exact ⟨hS, h⟩
theorem step_storeS {fuel : Nat} {ls : Array Bool} {i : Nat} {o : Oper} {w' : World} (ho : ops[i]? = some o) (hd : o.dst = none) (hw : Region.wanted o (yielded ops a.tmps) = true) (hr : SW w' ((execOp a.eval o).run P w)) (hS : S w')
  (h : TreeS P ops S Fin fuel (ls.setIfInBounds i true) a w') : StepS P ops S Fin fuel ls a w i := by
 unfold StepS wpOp
 simp only [ho, hw, if_true]
 left
 unfold Oper.wp
 rw [hr.out, Oper.upon_skip, hd]
 exact ⟨hS, h⟩
theorem step_callS {fuel : Nat} {ls : Array Bool} {i : Nat} {o : Oper} {d : Tmp} {f : FuncId} {args : Array Value} (ho : ops[i]? = some o) (hd : o.dst = some d) (hw : Region.wanted o (yielded ops a.tmps) = true) (hr : ER w f args ((execOp a.eval o).run P w))
  (hc : Calls P f args w fun e w' => ∃ v, e = .returned v ∧ S w' ∧ TreeS P ops S Fin fuel (ls.setIfInBounds i true) { tmps := a.tmps.setIfInBounds d v, defers := a.defers } w') : StepS P ops S Fin fuel ls a w i := by
 unfold StepS wpOp
 simp only [ho, hw, if_true]
 left
 unfold Oper.wp
 rw [hr.out, Oper.upon_enter]
 refine hc.mono ?_
 rintro e w' ⟨v, rfl, hS, h⟩
 refine ⟨hS, ?_⟩
 rw [hd]; exact h
end
end Go.Proofs.Ytpphpcmbpbppoaa.Calm
end
section
namespace Go.Proofs.Ytpphpcmbpbppoaa.Mach
open Go.RowKit Go.Proofs.YtpphpcmbpbppoaaW.PrintWords Go.Proofs.YtpphpcmbpbppoaaW.PrintLast Go.Proofs.YtpphpcmbpbppoaaW.PrintMore
open Go.Proofs.Ytpphpcmbpbppoaa.Calm
open Go.Proofs.Ytpphpcmbpbppoaa.PMirFuel (S30 S57 S34 S37 S40 S43 S45 S48 k30 k57 k34 k37 k40 k43 k45 k48 rd_T30 rd_T57 rd_T34 rd_T37 rd_T40 rd_T43 rd_T45 rd_T48 at_T30 at_T57 at_T34 at_T40 at_T45 at_T48)
set_option linter.unusedVariables false
set_option linter.unusedSimpArgs false
set_option maxHeartbeats 1000000 in
theorem index_nil (f : Value) (w : World) : Calls Try.prog 143 #[.slice none 0 0, f] w fun e w' => e = .returned (.int .i64 (-1)) ∧ w' = w := by
 go_enter Try.func143, Try.ntmps143
 go_wp2
 refine wp_loop_rounds 1 ?_
 rw [rounds_succ]
 go_wp2
 go_ret
 exact ⟨rfl, rfl⟩
set_option maxHeartbeats 1000000 in
theorem find_nil (k : Int) (s : ByteArray) (w : World) : Calls Try.prog 141 #[.slice none 0 0, .int .i64 k, .string s] w fun e w' => e = .returned (.int .i64 (-1)) ∧ Below w.heap.size w w' := by
 have hmf : ∀ (fn : Fn) (first cap : Array Value) (w : World), (Instr.makeFunc fn first cap).run Try.prog w = .ok (.func fn first cap) w := fun _ _ _ _ => rfl
 go_enter Try.func141, Try.ntmps141
 go_wp2_with (go_at_call 143; refine (index_nil _ _).mono ?_; rintro e w1 ⟨rfl, rfl⟩)
 go_ret
 exact ⟨rfl, below_alloc (below_alloc (Below.refl _ _) _) _⟩
def zs227 : Array Value := #[.int .i64 0, .string ⟨#[]⟩, .int .i64 0, .slice none 0 0, .slice none 0 0, .int .i64 0, .string ⟨#[]⟩, .int .i64 0, .slice none 0 0, .int .i64 0, .int .i64 0, .int .i64 0, .int .i64 0, .string ⟨#[]⟩, .slice none 0 0, .slice none 0 0, .int .i64 0, .string ⟨#[]⟩, .int .i64 0, .slice none 0 0]
set_option maxRecDepth 100000 in
set_option maxHeartbeats 2000000 in
theorem item_nil (k : Int) (s : ByteArray) (n : Int) (v : Value) (w : World) : Calls Try.prog 147 #[.slice none 0 0, .agg #[.int .i64 k, .string s, .int .i64 n, v]] w fun e w' => e = .returned (.tuple #[.agg zs227, .bool false]) ∧ Below w.heap.size w w' := by
 have hmf : ∀ (fn : Fn) (first cap : Array Value) (w : World), (Instr.makeFunc fn first cap).run Try.prog w = .ok (.func fn first cap) w := fun _ _ _ _ => rfl
 have al : ∀ w : World, (Instr.alloc 227 true (.tuple #[])).run Try.prog w = .ok (.pointer (some ⟨w.heap.size, 0, none⟩)) (w.alloc (.cells zs227 227)) := fun w => by kernel_rfl
 by_cases hk : k = 9
 ·subst hk
  go_enter Try.func147, Try.ntmps147
  go_wp2_with (first | (go_at_call 143; refine (index_nil _ _).mono ?_; rintro e w1 ⟨rfl, rfl⟩) | ((with_reducible refine gate_dst (N := 17) rfl ?_); refine Hold.out ?_))
  refine ⟨?_⟩
  obtain ⟨W1, e1⟩ : ∃ V, w.alloc (Obj.cells #[.int .i64 9, .string s, .int .i64 n, v] 37) = V := ⟨_, rfl⟩
  rw [e1]
  have q1 : Below w.heap.size w W1 := e1 ▸ below_alloc (Below.refl _ _) _
  have s1 : W1.heap.size = w.heap.size + 1 := by rw [← e1]; simp
  rw [← s1]
  clear e1 s1
  refine list_value (v := .agg zs227) rfl rfl ⟨run_bld rfl (by kernel_rfl)⟩ ?_
  simp only [List.setIfInBounds_toArray, List.set_cons_zero, List.set_cons_succ]
  refine list_store (w' := W1.alloc (.cells zs227 227)) rfl rfl ⟨storeN 227 20 (by kernel_rfl) _ _ _ rfl rfl (by kernel_rfl) _ _ _ _ rfl rfl rfl⟩ ?_
  obtain ⟨W2, e2⟩ : ∃ V, W1.alloc (Obj.cells zs227 227) = V := ⟨_, rfl⟩
  rw [e2]
  have h2 : Has W2 W1.heap.size zs227 227 := e2 ▸ Has.new W1 _ 227
  have q2 : Below W1.heap.size W1 W2 := e2 ▸ below_alloc (Below.refl _ _) _
  clear e2
  go_wp2_with fail
  refine bodyPost_ret (results_ct rfl _ _ W1.heap.size 227 zs227 (0, 0) _ rfl h2 Try.underlying227 rfl (by kernel_rfl)) rfl ?_
  exact ⟨rfl, below_then q1 q1.size q2⟩
 ·have hk' : (k != 9) = true := by simp [hk]
  go_enter Try.func147, Try.ntmps147
  go_wp2_with (first | (go_at_call 143; refine (index_nil _ _).mono ?_; rintro e w1 ⟨rfl, rfl⟩) | ((with_reducible refine gate_dst (N := 17) rfl ?_); refine Hold.out ?_))
  refine ⟨?_⟩
  obtain ⟨W1, e1⟩ : ∃ V, w.alloc (Obj.cells #[.int .i64 k, .string s, .int .i64 n, v] 37) = V := ⟨_, rfl⟩
  rw [e1]
  have q1 : Below w.heap.size w W1 := e1 ▸ below_alloc (Below.refl _ _) _
  have s1 : W1.heap.size = w.heap.size + 1 := by rw [← e1]; simp
  rw [← s1]
  clear e1 s1
  refine list_value (v := .agg zs227) rfl rfl ⟨run_bld rfl (by kernel_rfl)⟩ ?_
  simp only [List.setIfInBounds_toArray, List.set_cons_zero, List.set_cons_succ]
  refine list_store (w' := W1.alloc (.cells zs227 227)) rfl rfl ⟨storeN 227 20 (by kernel_rfl) _ _ _ rfl rfl (by kernel_rfl) _ _ _ _ rfl rfl rfl⟩ ?_
  obtain ⟨W2, e2⟩ : ∃ V, W1.alloc (Obj.cells zs227 227) = V := ⟨_, rfl⟩
  rw [e2]
  have h2 : Has W2 W1.heap.size zs227 227 := e2 ▸ Has.new W1 _ 227
  have q2 : Below W1.heap.size W1 W2 := e2 ▸ below_alloc (Below.refl _ _) _
  clear e2
  go_wp2_with fail
  refine bodyPost_ret (results_ct rfl _ _ W1.heap.size 227 zs227 (0, 0) _ rfl h2 Try.underlying227 rfl (by kernel_rfl)) rfl ?_
  exact ⟨rfl, below_then q1 q1.size q2⟩
theorem setRow_self {W : World} {b : Nat} {cs : Array Value} {t : TypeId} (h : Has W b cs t) : W.setRow b cs = W := by
 have hb := h.lt
 have he : W.heap[b] = .cells cs t (0, 0) := by
  have := (Array.getElem?_eq_some_iff.1 h).2
  exact this
 unfold World.setRow
 congr 1
 apply Array.ext_getElem?
 intro i
 rw [Array.getElem?_modify]
 by_cases hi : b = i
 ·subst hi
  rw [if_pos rfl]
  have h' : W.heap[b]? = some (.cells cs t (0, 0)) := h
  rw [h']; rfl
 ·rw [if_neg hi]
theorem storeS (t : TypeId) (n : Nat) (hi : (Try.prog.info? t).map (·.size) = some n) (W : World) (b : Nat) (c : Array Value) (hb : Has W b c t) (hs : c.size = n) (h1 : c.all (·.oneCell') = true) (a : Act) (o : Oper) (x y : Operand) (h : o.op = .store t x y) (hx : a.eval x = .pointer (some ⟨b, 0, none⟩)) (hy : a.eval y = .agg c) :
  (execOp a.eval o).run Try.prog W = .ok .skip W := by
 have hst := run_storeVar_row (P := Try.prog) W b t t c c hb (by rw [hs]; exact hi) rfl h1
 rw [setRow_self hb] at hst
 unfold execOp
 simp only [h, hx, hy, Instr.storeAt, Instr.sureAddr, Sem.run_bind, Sem.run_pure, Result.andThen_ok, hst]
abbrev ctr (left : Int) (bad : Bool) : Array Value := #[.slice none 0 0, .int .i64 left, .bool bad]
def CtPost (cb : Nat) (p u : Int) (m : Bool) (left : Int) (bad : Bool) (w : World) (e : Ending) (w' : World) : Prop :=
 e = .returned (.agg #[.int .i64 p, .int .i64 u, .bool m]) ∧ Kept (fun b => b = cb) w w' ∧ Has w' cb (ctr left bad) 234
set_option maxRecDepth 100000 in
set_option maxHeartbeats 2000000 in
theorem named_nil (cb : Nat) (left : Int) (bad : Bool) (k : Int) (s : ByteArray) (n : Int) (v : Value) (w : World) (hc : Has w cb (ctr left bad) 234) : Calls Try.prog 145 #[.pointer (some ⟨cb, 0, none⟩), .agg #[.int .i64 k, .string s, .int .i64 n, v]] w (CtPost cb 0 0 false left true w) := by
 have hu37 := Try.underlying37
 have hu217 := Try.underlying217
 go_enter Try.func145, Try.ntmps145
 go_wp2
 obtain ⟨tb, htb⟩ : ∃ b, w.heap.size = b := ⟨_, rfl⟩
 obtain ⟨w1, e1⟩ : ∃ V, w.alloc (Obj.cells #[.int .i64 k, .string s, .int .i64 n, v] 37) = V := ⟨_, rfl⟩
 have s1 : w1.heap.size = w.heap.size + 1 := by rw [← e1]; simp
 have b1 : Below w.heap.size w w1 := e1 ▸ below_alloc (Below.refl _ _) _
 have t1 : Has w1 tb #[.int .i64 k, .string s, .int .i64 n, v] 37 := by rw [← e1, ← htb]; exact Has.new w _ 37
 obtain ⟨rb, hrb⟩ : ∃ b, w1.heap.size = b := ⟨_, rfl⟩
 rw [e1, ← s1, htb, hrb]
 clear e1 s1
 obtain ⟨w2, e2⟩ : ∃ V, w1.alloc (Obj.cells #[.int .i64 0, .int .i64 0, .bool false] 217) = V := ⟨_, rfl⟩
 rw [e2]
 have b2 : Below w1.heap.size w1 w2 := e2 ▸ below_alloc (Below.refl _ _) _
 have t2 : Has w2 rb #[.int .i64 0, .int .i64 0, .bool false] 217 := by rw [← e2, ← hrb]; exact Has.new w1 _ 217
 clear e2
 obtain ⟨W, hW⟩ : ∃ V, w2.drew = V := ⟨_, rfl⟩
 have hcW : Has W cb (ctr left bad) 234 := hW ▸ ((hc.belowS b1).belowS b2).drewN 1
 have htW : Has W tb #[.int .i64 k, .string s, .int .i64 n, v] 37 := hW ▸ (t1.belowS b2).drewN 1
 have hrW : Has W rb #[.int .i64 0, .int .i64 0, .bool false] 217 := hW ▸ t2.drewN 1
 have hbW : Below w.heap.size w W := hW ▸ below_drew (below_then b1 b1.size b2)
 have S0 : W.cell? ⟨cb, 0, none⟩ = some (.slice none 0 0) ∧ W.cell? ⟨tb, 0, none⟩ = some (.int .i64 k) ∧ W.cell? ⟨tb, 1, none⟩ = some (.string s) ∧ W.cell? ⟨tb, 2, none⟩ = some (.int .i64 n) ∧ W.cell? ⟨tb, 3, none⟩ = some v := ⟨hcW.cell 0, htW.cell 0, htW.cell 1, htW.cell 2, htW.cell 3⟩
 clear t1 t2 b1 b2
 refine region_treeS (by kernel_rfl) (fun w' => w'.cell? ⟨cb, 0, none⟩ = some (.slice none 0 0) ∧ w'.cell? ⟨tb, 0, none⟩ = some (.int .i64 k) ∧ w'.cell? ⟨tb, 1, none⟩ = some (.string s) ∧ w'.cell? ⟨tb, 2, none⟩ = some (.int .i64 n) ∧ w'.cell? ⟨tb, 3, none⟩ = some v) (fun a' w' => ∃ p : Nat, a' = { tmps := #[.pointer (some ⟨cb, 0, none⟩), .agg #[.int .i64 k, .string s, .int .i64 n, v], undef, .pointer (some ⟨tb, 0, none⟩), .pointer (some ⟨rb, 0, none⟩), .pointer (some ⟨p, 0, none⟩), .bool false, undef, undef, undef, undef, undef, undef, undef, .tuple #[.agg zs227, .bool false], .pointer (some ⟨cb, 0, none⟩), .pointer (some ⟨cb, 0, none⟩), .pointer (some ⟨cb, 0, none⟩), .slice none 0 0, .agg #[.int .i64 k, .string s, .int .i64 n, v], .tuple #[.agg zs227, .bool false], .agg zs227, .bool false, undef, undef, undef, undef, undef, undef, undef, undef, undef, undef, undef, undef, undef, undef, undef, undef, undef, undef, undef, undef, undef, undef, undef, undef, undef, undef, undef, undef, undef, undef, undef, undef, undef, undef, undef, undef, undef, undef, undef, undef, undef, undef, undef, undef, undef, undef, undef, undef], defers := [] } ∧ Below W.heap.size W w') (hW.symm ▸ S0) (fun hS' => ?_) ?_
 ·clear hS'
  rw [hW]
  clear hW
  clear hcW hrW htW hbW
  refine treeS_h S0 (i := 0) (by kernel_rfl) (by rfl) (by rfl) (by kernel_rfl) (by rfl) ?_
  apply Exists.intro
  apply And.intro
  ·rintro w' ⟨k0, k1, k2, k3, k4⟩
   apply VR.mk
   go_simp
   with_reducible rfl
  simp only [List.setIfInBounds_toArray, List.set_cons_zero, List.set_cons_succ]
  refine treeS_h S0 (i := 1) (by kernel_rfl) (by rfl) (by rfl) (by kernel_rfl) (by rfl) ?_
  apply Exists.intro
  apply And.intro
  ·rintro w' ⟨k0, k1, k2, k3, k4⟩
   apply VR.mk
   go_simp
   with_reducible rfl
  simp only [List.setIfInBounds_toArray, List.set_cons_zero, List.set_cons_succ]
  refine treeS_h S0 (i := 2) (by kernel_rfl) (by rfl) (by rfl) (by kernel_rfl) (by rfl) ?_
  apply Exists.intro
  apply And.intro
  ·rintro w' ⟨k0, k1, k2, k3, k4⟩
   apply VR.mk
   go_simp
   with_reducible rfl
  simp only [List.setIfInBounds_toArray, List.set_cons_zero, List.set_cons_succ]
  refine treeS_h S0 (i := 3) (by kernel_rfl) (by rfl) (by rfl) (by kernel_rfl) (by rfl) ?_
  apply Exists.intro
  apply And.intro
  ·rintro w' ⟨k0, k1, k2, k3, k4⟩
   apply VR.mk
   go_simp
   with_reducible rfl
  simp only [List.setIfInBounds_toArray, List.set_cons_zero, List.set_cons_succ]
  refine treeS_h S0 (i := 4) (by kernel_rfl) (by rfl) (by rfl) (by kernel_rfl) (by rfl) ?_
  apply Exists.intro
  apply And.intro
  ·rintro w' ⟨k0, k1, k2, k3, k4⟩
   apply VR.mk
   go_simp
   with_reducible rfl
  simp only [List.setIfInBounds_toArray, List.set_cons_zero, List.set_cons_succ]
  refine tree_2S (i := 5) (k := 9) (by kernel_rfl) ?_ ?_
  ·refine step_callS (by rfl) (by rfl) (by rfl) (ER.go (by go_simp; with_reducible exact ⟨rfl, rfl⟩)) ?_
   refine (item_nil k s n v W).mono ?_
   rintro e W1 ⟨rfl, q1⟩
   have S1 : W1.cell? ⟨cb, 0, none⟩ = some (.slice none 0 0) ∧ W1.cell? ⟨tb, 0, none⟩ = some (.int .i64 k) ∧ W1.cell? ⟨tb, 1, none⟩ = some (.string s) ∧ W1.cell? ⟨tb, 2, none⟩ = some (.int .i64 n) ∧ W1.cell? ⟨tb, 3, none⟩ = some v := ⟨pwcb q1 S0.1, pwcb q1 S0.2.1, pwcb q1 S0.2.2.1, pwcb q1 S0.2.2.2.1, pwcb q1 S0.2.2.2.2⟩
   refine ⟨_, rfl, S1, ?_⟩
   simp only [List.setIfInBounds_toArray, List.set_cons_zero, List.set_cons_succ]
   refine treeS_h S1 (i := 6) (by kernel_rfl) (by rfl) (by rfl) (by kernel_rfl) (by rfl) ?_
   apply Exists.intro
   apply And.intro
   ·rintro w' ⟨k0, k1, k2, k3, k4⟩
    apply VR.mk
    go_simp
    with_reducible rfl
   simp only [List.setIfInBounds_toArray, List.set_cons_zero, List.set_cons_succ]
   refine treeS_h S1 (i := 7) (by kernel_rfl) (by rfl) (by rfl) (by kernel_rfl) (by rfl) ?_
   apply Exists.intro
   apply And.intro
   ·rintro w' ⟨k0, k1, k2, k3, k4⟩
    apply VR.mk
    go_simp
    with_reducible rfl
   simp only [List.setIfInBounds_toArray, List.set_cons_zero, List.set_cons_succ]
   refine treeS_h S1 (i := 8) (by kernel_rfl) (by rfl) (by rfl) (by kernel_rfl) (by rfl) ?_
   apply Exists.intro
   apply And.intro
   ·rintro w' ⟨k0, k1, k2, k3, k4⟩
    apply VR.mk
    go_simp
    with_reducible rfl
   simp only [List.setIfInBounds_toArray, List.set_cons_zero, List.set_cons_succ]
   refine tree_1S (i := 9) (by kernel_rfl) ?_
   refine step_valueS (v := .pointer (some ⟨W1.heap.size, 0, none⟩)) (w' := W1.alloc (.cells zs227 227)) (by rfl) (by rfl) (by rfl) ⟨by kernel_rfl⟩ ⟨pwcb (below_alloc (Below.refl _ _) _) S1.1, pwcb (below_alloc (Below.refl _ _) _) S1.2.1, pwcb (below_alloc (Below.refl _ _) _) S1.2.2.1, pwcb (below_alloc (Below.refl _ _) _) S1.2.2.2.1, pwcb (below_alloc (Below.refl _ _) _) S1.2.2.2.2⟩ ?_
   simp only [List.setIfInBounds_toArray, List.set_cons_zero, List.set_cons_succ]
   have hW2 : Has (W1.alloc (.cells zs227 227)) W1.heap.size zs227 227 := Has.new W1 _ 227
   have q2 : Below W1.heap.size W1 (W1.alloc (.cells zs227 227)) := below_alloc (Below.refl _ _) _
   have S2 : (W1.alloc (.cells zs227 227)).cell? ⟨cb, 0, none⟩ = some (.slice none 0 0) ∧ (W1.alloc (.cells zs227 227)).cell? ⟨tb, 0, none⟩ = some (.int .i64 k) ∧ (W1.alloc (.cells zs227 227)).cell? ⟨tb, 1, none⟩ = some (.string s) ∧ (W1.alloc (.cells zs227 227)).cell? ⟨tb, 2, none⟩ = some (.int .i64 n) ∧ (W1.alloc (.cells zs227 227)).cell? ⟨tb, 3, none⟩ = some v := ⟨pwcb q2 S1.1, pwcb q2 S1.2.1, pwcb q2 S1.2.2.1, pwcb q2 S1.2.2.2.1, pwcb q2 S1.2.2.2.2⟩
   generalize W1.alloc (.cells zs227 227) = W2 at *
   refine tree_1S (i := 10) (by kernel_rfl) ?_
   refine step_storeS (by rfl) (by rfl) (by rfl) ⟨storeS 227 20 (by kernel_rfl) W2 W1.heap.size zs227 hW2 rfl (by kernel_rfl) _ _ _ _ rfl rfl rfl⟩ S2 ?_
   refine treeS_h S2 (i := 11) (by kernel_rfl) (by rfl) (by rfl) (by kernel_rfl) (by rfl) ?_
   apply Exists.intro
   apply And.intro
   ·rintro w' ⟨k0, k1, k2, k3, k4⟩
    apply VR.mk
    go_simp
    with_reducible rfl
   simp only [List.setIfInBounds_toArray, List.set_cons_zero, List.set_cons_succ]
   refine tree_endS (by kernel_rfl) ?_
   exact ⟨_, rfl, below_then q1 q1.size q2⟩
  ·refine step_valueS (v := .pointer (some ⟨W.heap.size, 0, none⟩)) (w' := W.alloc (.cells zs227 227)) (by rfl) (by rfl) (by rfl) ⟨by kernel_rfl⟩ ⟨pwcb (below_alloc (Below.refl _ _) _) S0.1, pwcb (below_alloc (Below.refl _ _) _) S0.2.1, pwcb (below_alloc (Below.refl _ _) _) S0.2.2.1, pwcb (below_alloc (Below.refl _ _) _) S0.2.2.2.1, pwcb (below_alloc (Below.refl _ _) _) S0.2.2.2.2⟩ ?_
   simp only [List.setIfInBounds_toArray, List.set_cons_zero, List.set_cons_succ]
   have hW1 : Has (W.alloc (.cells zs227 227)) W.heap.size zs227 227 := Has.new W _ 227
   have q1 : Below W.heap.size W (W.alloc (.cells zs227 227)) := below_alloc (Below.refl _ _) _
   have S1 : (W.alloc (.cells zs227 227)).cell? ⟨cb, 0, none⟩ = some (.slice none 0 0) ∧ (W.alloc (.cells zs227 227)).cell? ⟨tb, 0, none⟩ = some (.int .i64 k) ∧ (W.alloc (.cells zs227 227)).cell? ⟨tb, 1, none⟩ = some (.string s) ∧ (W.alloc (.cells zs227 227)).cell? ⟨tb, 2, none⟩ = some (.int .i64 n) ∧ (W.alloc (.cells zs227 227)).cell? ⟨tb, 3, none⟩ = some v := ⟨pwcb q1 S0.1, pwcb q1 S0.2.1, pwcb q1 S0.2.2.1, pwcb q1 S0.2.2.2.1, pwcb q1 S0.2.2.2.2⟩
   generalize W.alloc (.cells zs227 227) = W1 at *
   refine tree_1S (i := 5) (by kernel_rfl) ?_
   refine step_callS (by rfl) (by rfl) (by rfl) (ER.go (by go_simp; with_reducible exact ⟨rfl, rfl⟩)) ?_
   refine (item_nil k s n v W1).mono ?_
   rintro e W2 ⟨rfl, q2⟩
   have S2 : W2.cell? ⟨cb, 0, none⟩ = some (.slice none 0 0) ∧ W2.cell? ⟨tb, 0, none⟩ = some (.int .i64 k) ∧ W2.cell? ⟨tb, 1, none⟩ = some (.string s) ∧ W2.cell? ⟨tb, 2, none⟩ = some (.int .i64 n) ∧ W2.cell? ⟨tb, 3, none⟩ = some v := ⟨pwcb q2 S1.1, pwcb q2 S1.2.1, pwcb q2 S1.2.2.1, pwcb q2 S1.2.2.2.1, pwcb q2 S1.2.2.2.2⟩
   refine ⟨_, rfl, S2, ?_⟩
   simp only [List.setIfInBounds_toArray, List.set_cons_zero, List.set_cons_succ]
   refine treeS_h S2 (i := 6) (by kernel_rfl) (by rfl) (by rfl) (by kernel_rfl) (by rfl) ?_
   apply Exists.intro
   apply And.intro
   ·rintro w' ⟨k0, k1, k2, k3, k4⟩
    apply VR.mk
    go_simp
    with_reducible rfl
   simp only [List.setIfInBounds_toArray, List.set_cons_zero, List.set_cons_succ]
   refine treeS_h S2 (i := 7) (by kernel_rfl) (by rfl) (by rfl) (by kernel_rfl) (by rfl) ?_
   apply Exists.intro
   apply And.intro
   ·rintro w' ⟨k0, k1, k2, k3, k4⟩
    apply VR.mk
    go_simp
    with_reducible rfl
   simp only [List.setIfInBounds_toArray, List.set_cons_zero, List.set_cons_succ]
   refine treeS_h S2 (i := 8) (by kernel_rfl) (by rfl) (by rfl) (by kernel_rfl) (by rfl) ?_
   apply Exists.intro
   apply And.intro
   ·rintro w' ⟨k0, k1, k2, k3, k4⟩
    apply VR.mk
    go_simp
    with_reducible rfl
   simp only [List.setIfInBounds_toArray, List.set_cons_zero, List.set_cons_succ]
   have hW2 := hW1.belowS q2
   refine tree_1S (i := 10) (by kernel_rfl) ?_
   refine step_storeS (by rfl) (by rfl) (by rfl) ⟨storeS 227 20 (by kernel_rfl) W2 W.heap.size zs227 hW2 rfl (by kernel_rfl) _ _ _ _ rfl rfl rfl⟩ S2 ?_
   refine treeS_h S2 (i := 11) (by kernel_rfl) (by rfl) (by rfl) (by kernel_rfl) (by rfl) ?_
   apply Exists.intro
   apply And.intro
   ·rintro w' ⟨k0, k1, k2, k3, k4⟩
    apply VR.mk
    go_simp
    with_reducible rfl
   simp only [List.setIfInBounds_toArray, List.set_cons_zero, List.set_cons_succ]
   refine tree_endS (by kernel_rfl) ?_
   exact ⟨_, rfl, below_then q1 q1.size q2⟩
 ·rintro a' w' ⟨p, rfl, hb⟩
  have hbW' := below_then hbW hbW.size hb
  have h1 := hcW.belowS hb
  have h2 := hrW.belowS hb
  clear hcW htW hrW hbW S0 hW
  have c1 := h1.cell 1
  have c2 := h1.cell 2
  have f2 := h1.frozen 2
  have r0 := h2.cell 0
  have r1 := h2.cell 1
  have r2 := h2.cell 2
  simp only [List.getElem?_toArray, List.getElem?_cons_zero, List.getElem?_cons_succ] at c1 c2 r0 r1 r2
  go_wp2_with ((with_reducible refine gate_dst (N := 28) rfl ?_); refine Hold.out ?_)
  refine ⟨?_⟩
  have hK : Kept (fun b => b = cb) w (w'.setCell ⟨cb, 2, none⟩ (.bool true)) := (Kept.of_below (S := fun b => b = cb) hbW').setCell (a := ⟨cb, 2, none⟩) rfl _
  have hC : Has (w'.setCell ⟨cb, 2, none⟩ (.bool true)) cb (ctr left true) 234 := h1.set_ 2 (.bool true)
  have hR : Has (w'.setCell ⟨cb, 2, none⟩ (.bool true)) rb #[.int .i64 0, .int .i64 0, .bool false] 217 := h2.other (a := ⟨cb, 2, none⟩) (h2.ne h1 (by decide)) _
  generalize w'.setCell ⟨cb, 2, none⟩ (.bool true) = W3 at *
  clear c1 c2 f2 r0 r1 r2 h1 h2
  refine list_value (v := .agg #[.int .i64 0, .int .i64 0, .bool false]) rfl rfl ⟨run_bld rfl (by kernel_rfl)⟩ ?_
  simp only [List.setIfInBounds_toArray, List.set_cons_zero, List.set_cons_succ]
  refine list_store (w' := W3) rfl rfl ⟨storeS 217 3 (by kernel_rfl) W3 rb #[.int .i64 0, .int .i64 0, .bool false] hR rfl (by kernel_rfl) _ _ _ _ rfl rfl rfl⟩ ?_
  go_wp2_with fail
  refine bodyPost_ret (results_cell_row rfl _ _ rb 217 #[.int .i64 0, .int .i64 0, .bool false] (0, 0) _ rfl hR Try.underlying217 rfl (by kernel_rfl)) rfl ⟨rfl, hK, hC⟩
abbrev Am := Int × Int × Bool
def cz : Am := (0, 0, false)
def withP (a b : Am) : Am := (wrap64 (a.1 + b.1), wrap64 (a.2.1 + b.2.1), a.2.2 || b.2.2)
def loopP (f : Int → Am × Int × Bool) : Nat → Am → Int → Bool → Am × Int × Bool
 | 0, own, l, b => (own, l, b)
 | n + 1, own, l, b => if b = true then (own, l, b) else loopP f n (withP own (f l).1) (f l).2.1 (f l).2.2
def addP : S37 → Int → Am × Int × Bool
 | ⟨k, _, n, es⟩, left =>
  if left = 0 then (cz, -1, true)
  else if k = 1 then ((1, 0, false), left - 1, false)
  else if 2 ≤ k ∧ k ≤ 8 then ((1, 1, false), left - 1, false)
  else if k = 9 then (cz, left - 1, true)
  else if k < 10 ∨ 13 < k then ((1, 1, false), left - 1, true)
  else match es with
   | [] => ((1, 1, false), left - 1, true)
   | e :: _ => if k = 10 then loopP (addP e) n.toNat (1, 0, false) (left - 1) false else ((1, 1, decide (k ≠ 12)), left - 1, false)
def Fine (r : Am × Int × Bool) : Prop := -1 ≤ r.2.1 ∧ r.2.1 ≤ 512 ∧ (r.2.2 = false → 0 ≤ r.2.1)
theorem loop_fine {f : Int → Am × Int × Bool} (hf : ∀ l, 0 ≤ l → l ≤ 512 → Fine (f l)) : ∀ (n : Nat) (own : Am) (l : Int) (b : Bool), Fine (own, l, b) → Fine (loopP f n own l b)
 | 0, own, l, b, h => h
 | n + 1, own, l, b, h => by
  unfold loopP
  split
  ·exact h
  ·rename_i hb
   have hb' : b = false := by simpa using hb
   exact loop_fine hf n _ _ _ (hf l (h.2.2 hb') h.2.1)
theorem add_fine : ∀ (t : S37) (l : Int), 0 ≤ l → l ≤ 512 → Fine (addP t l)
 | ⟨k, _, n, es⟩, l, h0, h1 => by
  unfold addP
  split
  ·exact ⟨by decide, by decide, fun h => by cases h⟩
  have hl : Fine (cz, l - 1, false) := ⟨by show -1 ≤ l - 1; omega, by show l - 1 ≤ 512; omega, fun _ => by show 0 ≤ l - 1; omega⟩
  split
  ·exact hl
  split
  ·exact hl
  split
  ·exact ⟨hl.1, hl.2.1, fun h => by cases h⟩
  split
  ·exact ⟨hl.1, hl.2.1, fun h => by cases h⟩
  cases es with
  | nil => exact ⟨hl.1, hl.2.1, fun h => by cases h⟩
  | cons e r =>
   dsimp only
   split
   ·exact loop_fine (fun l h0 h1 => add_fine e l h0 h1) _ _ _ _ hl
   ·exact hl
theorem loop_less {f : Int → Am × Int × Bool} (hf : ∀ l, 0 ≤ l → l ≤ 512 → Fine (f l) ∧ (f l).2.1 ≤ l - 1) : ∀ (n : Nat) (own : Am) (l : Int) (b : Bool), Fine (own, l, b) → (loopP f n own l b).2.1 ≤ l
 | 0, own, l, b, h => Int.le_refl _
 | n + 1, own, l, b, h => by
  unfold loopP
  split
  ·exact Int.le_refl _
  ·rename_i hb
   have hb' : b = false := by simpa using hb
   have h1 := hf l (h.2.2 hb') h.2.1
   have h2 := loop_less hf n (withP own (f l).1) (f l).2.1 (f l).2.2 h1.1
   omega
theorem add_less : ∀ (t : S37) (l : Int), 0 ≤ l → l ≤ 512 → (addP t l).2.1 ≤ l - 1
 | ⟨k, _, n, es⟩, l, h0, h1 => by
  unfold addP
  split
  ·show (-1 : Int) ≤ l - 1; omega
  split
  ·exact Int.le_refl _
  split
  ·exact Int.le_refl _
  split
  ·exact Int.le_refl _
  split
  ·exact Int.le_refl _
  cases es with
  | nil => exact Int.le_refl _
  | cons e r =>
   dsimp only
   split
   ·exact loop_less (fun l h0 h1 => ⟨add_fine e l h0 h1, add_less e l h0 h1⟩) _ _ _ _ ⟨by show -1 ≤ l - 1; omega, by show l - 1 ≤ 512; omega, fun _ => by show 0 ≤ l - 1; omega⟩
   ·exact Int.le_refl _
theorem with_ok (a b : Am) (w : World) : Calls Try.prog 148 #[.agg #[.int .i64 a.1, .int .i64 a.2.1, .bool a.2.2], .agg #[.int .i64 b.1, .int .i64 b.2.1, .bool b.2.2]] w fun e w' => e = .returned (.agg #[.int .i64 (withP a b).1, .int .i64 (withP a b).2.1, .bool (withP a b).2.2]) ∧ Below w.heap.size w w' :=
 PMirFuel.types_amount_with.calls _ _ _ _ _ _ _ _ _ w (by
  unfold PMirFuel.types_amount_with.f withP
  cases a.2.2 <;> rfl)
theorem row_block (w : World) (g b : Nat) (cs : Array Value) (h : b ≠ g) : (w.setRow g cs).heap[b]? = w.heap[b]? := by
 unfold World.setRow
 dsimp only
 rw [Array.getElem?_modify, if_neg (fun e => h e.symm)]
theorem row_size (w : World) (g : Nat) (cs : Array Value) : (w.setRow g cs).heap.size = w.heap.size := by simp [World.setRow]
theorem has_row {w : World} {b : Nat} {cs : Array Value} {t : TypeId} (h : Has w b cs t) (cs' : Array Value) : Has (w.setRow b cs') b cs' t := setRow_heap w b cs cs' t (0, 0) h
theorem has_row_other {w : World} {b g : Nat} {cs cs' : Array Value} {t : TypeId} (h : Has w b cs t) (hne : b ≠ g) : Has (w.setRow g cs') b cs t := h.of_block (row_block w g b cs' hne)
theorem kept_row {S : Nat → Prop} {w w1 : World} (h : Kept S w w1) {g : Nat} (hg : w.heap.size ≤ g) (cs : Array Value) : Kept S w (w1.setRow g cs) :=
 ⟨h.os, h.tape, h.output, by rw [row_size]; exact h.size, fun k hk hn => by rw [row_block w1 g k cs (by omega)]; exact h.block k hk hn⟩
theorem chain_call {P : Program} {ops : Array Oper} {Q : Exit → Act → World → Prop} {S : World → Prop} {o : Oper} {r : List Oper} {a : Act} {w : World} {d : Tmp} {f : FuncId} {args : Array Value} (hg : o.guard = none) (hd : o.dst = some d) (hr : ER w f args ((execOp a.eval o).run P w))
  (hc : Calls P f args w fun e w'' => ∃ v, e = .returned v ∧ S w'' ∧ chainS P ops Q S r { tmps := a.tmps.setIfInBounds d v, defers := a.defers } w'') : chainS P ops Q S (o :: r) a w := by
 refine ⟨hg, ?_⟩
 unfold Oper.wp
 rw [hr.out, Oper.upon_enter]
 refine hc.mono ?_
 rintro e w'' ⟨v, rfl, hS, h⟩
 exact ⟨hS, by rw [hd]; exact h⟩
theorem storeR (t : TypeId) (n : Nat) (hi : (Try.prog.info? t).map (·.size) = some n) (W : World) (b : Nat) (c c' : Array Value) (hb : Has W b c t) (ho : c.size = n) (hs : c'.size = n) (h1 : c'.all (·.oneCell') = true) (a : Act) (o : Oper) (x y : Operand) (h : o.op = .store t x y) (hx : a.eval x = .pointer (some ⟨b, 0, none⟩)) (hy : a.eval y = .agg c') :
  (execOp a.eval o).run Try.prog W = .ok .skip (W.setRow b c') := by
 have hst := run_storeVar_row (P := Try.prog) W b t t c c' hb (by rw [hs]; exact hi) (by rw [ho, hs]) h1
 unfold execOp
 simp only [h, hx, hy, Instr.storeAt, Instr.sureAddr, Sem.run_bind, Sem.run_pure, Result.andThen_ok, hst]
def CtR (cb : Nat) (r : Am × Int × Bool) (w : World) (e : Ending) (w' : World) : Prop := CtPost cb r.1.1 r.1.2.1 r.1.2.2 r.2.1 r.2.2 w e w'
def AddOK (t : S37) : Prop := ∀ (left : Int) (cb : Nat) (A3 : Option Addr) (c3 : Nat) (w0 w : World), 0 ≤ left → left ≤ 512 → Has w cb (ctr left false) 234 → k37.C w0 A3 t.f3.length t.f3 → t.f3.length ≤ c3 → Below w0.heap.size w0 w → w0.heap.size ≤ cb →
 Calls Try.prog 142 #[.pointer (some ⟨cb, 0, none⟩), .agg #[.int .i64 t.f0, .string t.f1, .int .i64 t.f2, .slice A3 t.f3.length c3]] w (CtR cb (addP t left) w)
abbrev am (a : Am) : Array Value := #[.int .i64 a.1, .int .i64 a.2.1, .bool a.2.2]
set_option maxRecDepth 100000 in
set_option maxHeartbeats 4000000 in
theorem array_ok (k : Int) (s : ByteArray) (n : Int) (e : S37) (es : List S37) (hes : rd_T37 es 0 = e) (hpos : 0 < es.length) (IH : AddOK e) (left : Int) (cb : Nat) (A3 : Option Addr) (c3 : Nat) (w0 w : World) (h0 : 0 ≤ left) (h1 : left ≤ 512) (hc : Has w cb (ctr left false) 234) (H : k37.C w0 A3 es.length es) (hl : es.length ≤ c3) (B0 : Below w0.heap.size w0 w) (hcb : w0.heap.size ≤ cb) :
  Calls Try.prog 146 #[.pointer (some ⟨cb, 0, none⟩), .agg #[.int .i64 k, .string s, .int .i64 n, .slice A3 es.length c3]] w (CtR cb (loopP (addP e) n.toNat (1, 0, false) left false) w) := by
 have hu37 := Try.underlying37
 have hu217 := Try.underlying217
 have HIH := Aside0.mk IH
 have HH := Aside0.mk H
 have HC := Aside0.mk hc
 have HB0 := Aside0.mk B0
 have hsz0 := B0.size
 clear IH H hc B0
 go_enter Try.func146, Try.ntmps146
 go_wp2
 have C1 : Has ((w.alloc (Obj.cells #[.int .i64 k, .string s, .int .i64 n, .slice A3 es.length c3] 37)).alloc (Obj.cells #[.int .i64 0, .int .i64 0, .bool false] 217)) w.heap.size #[.int .i64 k, .string s, .int .i64 n, .slice A3 es.length c3] 37 := (Has.new w _ 37).alloc _
 obtain ⟨w1, e1⟩ : ∃ V, w.alloc (Obj.cells #[.int .i64 k, .string s, .int .i64 n, .slice A3 es.length c3] 37) = V := ⟨_, rfl⟩
 have s1 : w1.heap.size = w.heap.size + 1 := by rw [← e1]; simp
 have b1 : Below w.heap.size w w1 := e1 ▸ below_alloc (Below.refl _ _) _
 have t1 : Has w1 w.heap.size #[.int .i64 k, .string s, .int .i64 n, .slice A3 es.length c3] 37 := by rw [← e1]; exact Has.new w _ 37
 rw [e1, ← s1]
 clear C1 e1
 obtain ⟨w2, e2⟩ : ∃ V, w1.alloc (Obj.cells #[.int .i64 0, .int .i64 0, .bool false] 217) = V := ⟨_, rfl⟩
 have s2 : w2.heap.size = w1.heap.size + 1 := by rw [← e2]; simp
 have b2 : Below w1.heap.size w1 w2 := e2 ▸ below_alloc (Below.refl _ _) _
 have t2 : Has w2 w1.heap.size (am cz) 217 := by rw [← e2]; exact Has.new w1 _ 217
 rw [e2, ← s2]
 clear e2
 obtain ⟨w3, e3⟩ : ∃ V, w2.alloc (Obj.cells #[.int .i64 1, .int .i64 0, .bool false] 217) = V := ⟨_, rfl⟩
 have b3 : Below w2.heap.size w2 w3 := e3 ▸ below_alloc (Below.refl _ _) _
 have t3 : Has w3 w2.heap.size (am (1, 0, false)) 217 := by rw [← e3]; exact Has.new w2 _ 217
 rw [e3]
 clear e3
 have b13 := below_then b1 b1.size (below_then b2 b2.size b3)
 have HW := Aside0.mk (And.intro (HC.out.belowS b13) (And.intro (t1.belowS (below_then b2 b2.size b3)) (And.intro (t2.belowS b3) t3)))
 have HK := Aside0.mk (Kept.of_below (S := fun b => b = cb) b13)
 have HB1 := Aside0.mk (below_then HB0.out hsz0 b13)
 have ow : w.heap.size ≤ w2.heap.size := by omega
 have orb : w.heap.size ≤ w1.heap.size := by omega
 have n1 : w.heap.size ≠ w2.heap.size := by omega
 have n2 : w1.heap.size ≠ w2.heap.size := by omega
 have hlt := HC.out.lt
 have n3 : cb ≠ w2.heap.size := by omega
 clear b1 b2 b3 b13 t1 t2 t3 s1 s2
 generalize htb : w.heap.size = tb at *
 have HTB := Aside0.mk htb
 clear htb
 generalize w1.heap.size = rb at *
 generalize w2.heap.size = ob at *
 have hR : Aside0 (loopP (addP e) (n - 0).toNat (1, 0, false) left false = loopP (addP e) n.toNat (1, 0, false) left false) := ⟨by rw [Int.sub_zero]⟩
 generalize loopP (addP e) n.toNat (1, 0, false) left false = R at *
 go_loopw [6] (fun v6 wr => ∃ (i : Int) (own : Am) (l : Int) (b : Bool), v6 = .int .i64 i ∧ 0 ≤ i ∧ i + l ≤ 512 ∧ Fine (own, l, b) ∧ Aside0 (loopP (addP e) (n - i).toNat own l b = R) ∧ Aside0 (Has wr cb (ctr l b) 234 ∧ Has wr tb #[.int .i64 k, .string s, .int .i64 n, .slice A3 es.length c3] 37 ∧ Has wr rb (am cz) 217 ∧ Has wr ob (am own) 217) ∧ Aside0 (Kept (fun b => b = cb) w wr) ∧ Aside0 (Below w0.heap.size w0 wr)) (fun v6 _ => (n - intOf v6).toNat)
 case atStart => exact ⟨0, (1, 0, false), left, false, rfl, by omega, by omega, ⟨by show -1 ≤ left; omega, h1, fun _ => h0⟩, hR, HW, HK, HB1⟩
 case round =>
  clear HW HK HB1 hR
  obtain ⟨i, own, l, b, rfl, hi0, hin, hF, HL, HW, HK, HB⟩ := hrel
  obtain ⟨hc, ht, hr, ho⟩ := HW.out
  have c2 := hc.cell 2
  have q2 := ht.cell 2
  simp only [List.getElem?_toArray, List.getElem?_cons_zero, List.getElem?_cons_succ] at c2 q2
  by_cases hlt : i < n ∧ b = false
  ·obtain ⟨hlt, rfl⟩ := hlt
   have hd : decide (i < n) = true := decide_eq_true hlt
   go_wp2
   obtain ⟨ad, E3, d3, eA, r0, r1, r2, r3, rl, rg⟩ := PMirFuel.at_T37 HH.out 0 (by omega) (by omega)
   rw [hes] at r0 r1 r2 r3 rl rg
   rw [show ad.add ((0 : Int).toNat * 4) = ad by simp [Addr.add]] at r0 r1 r2 r3
   subst eA
   clear c2 q2
   obtain ⟨V0, hV⟩ : ∃ V, wr.drew = V := ⟨_, rfl⟩
   have hc0 : Has V0 cb (ctr l false) 234 := hV ▸ hc.drewN 1
   have ht0 : Has V0 tb #[.int .i64 k, .string s, .int .i64 n, .slice (some ad) es.length c3] 37 := hV ▸ ht.drewN 1
   have hr0 : Has V0 rb (am cz) 217 := hV ▸ hr.drewN 1
   have ho0 : Has V0 ob (am own) 217 := hV ▸ ho.drewN 1
   have hK0 : Kept (fun b => b = cb) w V0 := hV ▸ HK.out.drewN 1
   have hB0' : Below w0.heap.size w0 V0 := hV ▸ below_drew HB.out
   have S0 : V0.cell? ⟨ob, 0, none⟩ = some (.int .i64 own.1) ∧ V0.cell? ⟨ob, 1, none⟩ = some (.int .i64 own.2.1) ∧ V0.cell? ⟨ob, 2, none⟩ = some (.bool own.2.2) ∧ V0.cell? ⟨tb, 3, none⟩ = some (.slice (some ad) es.length c3) ∧ V0.cell? ad = some (.int .i64 e.f0) ∧ V0.cell? ⟨ad.block, ad.off + 1, none⟩ = some (.string e.f1) ∧ V0.cell? ⟨ad.block, ad.off + 2, none⟩ = some (.int .i64 e.f2) ∧ V0.cell? ⟨ad.block, ad.off + 3, none⟩ = some (.slice E3 e.f3.length d3) := ⟨ho0.cell 0, ho0.cell 1, ho0.cell 2, ht0.cell 3, pwcb hB0' r0, pwcb hB0' r1, pwcb hB0' r2, pwcb hB0' r3⟩
   have hl0 : 0 ≤ l := hF.2.2 rfl
   have hl1 : l ≤ 512 := hF.2.1
   refine region_heads 6 8 (fun w' => w'.cell? ⟨ob, 0, none⟩ = some (.int .i64 own.1) ∧ w'.cell? ⟨ob, 1, none⟩ = some (.int .i64 own.2.1) ∧ w'.cell? ⟨ob, 2, none⟩ = some (.bool own.2.2) ∧ w'.cell? ⟨tb, 3, none⟩ = some (.slice (some ad) es.length c3) ∧ w'.cell? ad = some (.int .i64 e.f0) ∧ w'.cell? ⟨ad.block, ad.off + 1, none⟩ = some (.string e.f1) ∧ w'.cell? ⟨ad.block, ad.off + 2, none⟩ = some (.int .i64 e.f2) ∧ w'.cell? ⟨ad.block, ad.off + 3, none⟩ = some (.slice E3 e.f3.length d3)) (by kernel_rfl) (by kernel_rfl) (by kernel_rfl) (hV.symm ▸ S0) (by intro c a a' w1 hd h; simp +zetaDelta only [Exit.then, Exit.inBlock, bodyPost] at h ⊢; have h2 := h.2.1; cases h2) ?_
   rw [hV]
   clear hV hc ht hr ho HW HK HB
   ·refine heads_ex (by rfl) (by rfl) (by rfl) ?_
    apply Exists.intro
    apply And.intro
    ·rintro w' ⟨k0, k1, k2, k3, k4, k5, k6, k7⟩
     apply VR.mk
     go_simp
     with_reducible rfl
    simp only [List.setIfInBounds_toArray, List.set_cons_zero, List.set_cons_succ]
    refine heads_ex (by rfl) (by rfl) (by rfl) ?_
    apply Exists.intro
    apply And.intro
    ·rintro w' ⟨k0, k1, k2, k3, k4, k5, k6, k7⟩
     apply VR.mk
     go_simp
     with_reducible rfl
    simp only [List.setIfInBounds_toArray, List.set_cons_zero, List.set_cons_succ]
    refine heads_ex (by rfl) (by rfl) (by rfl) ?_
    apply Exists.intro
    apply And.intro
    ·rintro w' ⟨k0, k1, k2, k3, k4, k5, k6, k7⟩
     apply VR.mk
     go_simp
     with_reducible rfl
    simp only [List.setIfInBounds_toArray, List.set_cons_zero, List.set_cons_succ]
    refine heads_ex (by rfl) (by rfl) (by rfl) ?_
    apply Exists.intro
    apply And.intro
    ·rintro w' ⟨k0, k1, k2, k3, k4, k5, k6, k7⟩
     apply VR.mk
     go_simp
     with_reducible rfl
    simp only [List.setIfInBounds_toArray, List.set_cons_zero, List.set_cons_succ]
    refine heads_ex (by rfl) (by rfl) (by rfl) ?_
    apply Exists.intro
    apply And.intro
    ·rintro w' ⟨k0, k1, k2, k3, k4, k5, k6, k7⟩
     apply VR.mk
     go_simp
     with_reducible rfl
    simp only [List.setIfInBounds_toArray, List.set_cons_zero, List.set_cons_succ]
    refine heads_ex (by rfl) (by rfl) (by rfl) ?_
    apply Exists.intro
    apply And.intro
    ·rintro w' ⟨k0, k1, k2, k3, k4, k5, k6, k7⟩
     apply VR.mk
     go_simp
     with_reducible rfl
    simp only [List.setIfInBounds_toArray, List.set_cons_zero, List.set_cons_succ]
    refine heads_nil ?_
    refine chain_call (by rfl) (by rfl) (ER.go (by go_simp; with_reducible exact ⟨rfl, rfl⟩)) ?_
    refine (HIH.out l cb E3 d3 w0 V0 hl0 hl1 hc0 rg rl hB0' hcb).mono ?_
    rintro e1 V1 ⟨rfl, K1, hc1⟩
    have hK1 := hK0.then_ K1
    have hB1 : Below w0.heap.size w0 V1 := HB0.out.trans (hK1.below_of (fun b h => h ▸ hcb) (by rw [HTB.out]; exact hsz0))
    have ho1 := K1.has ho0 (fun e => n3 e.symm)
    have ht1 := K1.has ht0 (ht0.ne hc0 (by decide))
    have hr1 := K1.has hr0 (hr0.ne hc0 (by decide))
    have S1 : V1.cell? ⟨ob, 0, none⟩ = some (.int .i64 own.1) ∧ V1.cell? ⟨ob, 1, none⟩ = some (.int .i64 own.2.1) ∧ V1.cell? ⟨ob, 2, none⟩ = some (.bool own.2.2) ∧ V1.cell? ⟨tb, 3, none⟩ = some (.slice (some ad) es.length c3) ∧ V1.cell? ad = some (.int .i64 e.f0) ∧ V1.cell? ⟨ad.block, ad.off + 1, none⟩ = some (.string e.f1) ∧ V1.cell? ⟨ad.block, ad.off + 2, none⟩ = some (.int .i64 e.f2) ∧ V1.cell? ⟨ad.block, ad.off + 3, none⟩ = some (.slice E3 e.f3.length d3) := ⟨ho1.cell 0, ho1.cell 1, ho1.cell 2, ht1.cell 3, pwcb hB1 r0, pwcb hB1 r1, pwcb hB1 r2, pwcb hB1 r3⟩
    refine ⟨_, rfl, S1, ?_⟩
    simp only [List.setIfInBounds_toArray, List.set_cons_zero, List.set_cons_succ]
    refine chain_call (by rfl) (by rfl) (ER.go (by go_simp; with_reducible exact ⟨rfl, rfl⟩)) ?_
    refine (with_ok own (addP e l).1 V1).mono ?_
    rintro e2 V2 ⟨rfl, q2⟩
    have hK2 := hK1.below q2
    have hB2 : Below w0.heap.size w0 V2 := HB0.out.trans (hK2.below_of (fun b h => h ▸ hcb) (by rw [HTB.out]; exact hsz0))
    have ho2 := ho1.belowS q2
    have ht2 := ht1.belowS q2
    have hr2 := hr1.belowS q2
    have hc2 := hc1.belowS q2
    have S2 : V2.cell? ⟨ob, 0, none⟩ = some (.int .i64 own.1) ∧ V2.cell? ⟨ob, 1, none⟩ = some (.int .i64 own.2.1) ∧ V2.cell? ⟨ob, 2, none⟩ = some (.bool own.2.2) ∧ V2.cell? ⟨tb, 3, none⟩ = some (.slice (some ad) es.length c3) ∧ V2.cell? ad = some (.int .i64 e.f0) ∧ V2.cell? ⟨ad.block, ad.off + 1, none⟩ = some (.string e.f1) ∧ V2.cell? ⟨ad.block, ad.off + 2, none⟩ = some (.int .i64 e.f2) ∧ V2.cell? ⟨ad.block, ad.off + 3, none⟩ = some (.slice E3 e.f3.length d3) := ⟨ho2.cell 0, ho2.cell 1, ho2.cell 2, ht2.cell 3, pwcb hB2 r0, pwcb hB2 r1, pwcb hB2 r2, pwcb hB2 r3⟩
    refine ⟨_, rfl, S2, ?_⟩
    simp only [List.setIfInBounds_toArray, List.set_cons_zero, List.set_cons_succ]
    refine chain_done ?_
    simp only [List.drop_succ_cons, List.drop_zero]
    refine list_store (w' := V2.setRow ob (am (withP own (addP e l).1))) rfl rfl ⟨storeR 217 3 (by kernel_rfl) V2 ob (am own) (am (withP own (addP e l).1)) ho2 rfl rfl (by first | kernel_rfl | simp [Value.oneCell']) _ _ _ _ rfl rfl rfl⟩ ?_
    have hK3 := kept_row hK2 (by rw [HTB.out]; exact ow) (am (withP own (addP e l).1))
    have hc3 := has_row_other (cs' := am (withP own (addP e l).1)) hc2 n3
    have ht3 := has_row_other (cs' := am (withP own (addP e l).1)) ht2 n1
    have hr3 := has_row_other (cs' := am (withP own (addP e l).1)) hr2 n2
    have ho3 := has_row ho2 (am (withP own (addP e l).1))
    have hF' := add_fine e l hl0 hl1
    have hL' := add_less e l hl0 hl1
    have HL' : loopP (addP e) (n - (i + 1)).toNat (withP own (addP e l).1) (addP e l).2.1 (addP e l).2.2 = R := by
     have h := HL.out
     rw [show (n - i).toNat = (n - (i + 1)).toNat + 1 by omega] at h
     unfold loopP at h
     rw [if_neg (by simp)] at h
     exact h
    generalize V2.setRow ob (am (withP own (addP e l).1)) = V3 at *
    have HB3 := Aside0.mk (HB0.out.trans (hK3.below_of (fun b h => h ▸ hcb) (by rw [HTB.out]; exact hsz0)))
    have HK3 := Aside0.mk hK3
    have HW3 := Aside0.mk (And.intro hc3 (And.intro ht3 (And.intro hr3 ho3)))
    have HLL := Aside0.mk HL'
    clear S0 S1 S2 ho0 ho1 ho2 ht0 ht1 ht2 hr0 hr1 hr2 hc0 hc1 hc2 hK0 hK1 hK2 hK3 hB0' hB1 hB2 q2 K1 hc3 ht3 hr3 ho3 HL HL' r0 r1 r2 r3 rl rg
    go_wp2_with fail
    exact ⟨⟨i + 1, withP own (addP e l).1, (addP e l).2.1, (addP e l).2.2, rfl, by omega, by omega, hF', HLL, HW3, HK3, HB3⟩, by simp [intOf]; omega⟩
  ·have hR : R = (own, l, b) := by
    rw [← HL.out]
    by_cases hi : i < n
    ·have hb : b = true := by cases b with
      | true => rfl
      | false => exact absurd ⟨hi, rfl⟩ hlt
     rw [show (n - i).toNat = ((n - i).toNat - 1) + 1 by omega]
     unfold loopP
     rw [if_pos hb]
    ·rw [show (n - i).toNat = 0 by omega]
     rfl
   subst hR
   by_cases hi : i < n
   ·have hd : decide (i < n) = true := decide_eq_true hi
    obtain rfl : b = true := by cases b with
     | true => rfl
     | false => exact absurd ⟨hi, rfl⟩ hlt
    go_wp2_with ((with_reducible refine gate_dst (N := 29) rfl ?_); refine Hold.out ?_)
    refine ⟨?_⟩
    refine list_value (v := .agg (am own)) rfl rfl ⟨loadN 217 3 (by kernel_rfl) Try.underlying217 _ _ _ ho rfl _ _ _ rfl rfl⟩ ?_
    simp only [List.setIfInBounds_toArray, List.set_cons_zero, List.set_cons_succ]
    refine list_store (w' := wr.setRow rb (am own)) rfl rfl ⟨storeR 217 3 (by kernel_rfl) wr rb (am cz) (am own) hr rfl rfl (by first | kernel_rfl | simp [Value.oneCell']) _ _ _ _ rfl rfl rfl⟩ ?_
    have hC := has_row_other (cs' := am own) hc (hc.ne hr (by decide))
    have hRr := has_row hr (am own)
    have hKr := kept_row HK.out (g := rb) (by rw [HTB.out]; exact orb) (am own)
    generalize wr.setRow rb (am own) = W9 at *
    clear c2 q2 hc ht hr ho
    go_wp2_with fail
    refine bodyPost_ret (results_cell_row rfl _ _ rb 217 (am own) (0, 0) _ rfl hRr Try.underlying217 rfl (by rfl)) rfl ⟨rfl, hKr, hC⟩
   ·have hd : decide (i < n) = false := decide_eq_false hi
    go_wp2_with ((with_reducible refine gate_dst (N := 29) rfl ?_); refine Hold.out ?_)
    refine ⟨?_⟩
    refine list_value (v := .agg (am own)) rfl rfl ⟨loadN 217 3 (by kernel_rfl) Try.underlying217 _ _ _ ho rfl _ _ _ rfl rfl⟩ ?_
    simp only [List.setIfInBounds_toArray, List.set_cons_zero, List.set_cons_succ]
    refine list_store (w' := wr.setRow rb (am own)) rfl rfl ⟨storeR 217 3 (by kernel_rfl) wr rb (am cz) (am own) hr rfl rfl (by first | kernel_rfl | simp [Value.oneCell']) _ _ _ _ rfl rfl rfl⟩ ?_
    have hC := has_row_other (cs' := am own) hc (hc.ne hr (by decide))
    have hRr := has_row hr (am own)
    have hKr := kept_row HK.out (g := rb) (by rw [HTB.out]; exact orb) (am own)
    generalize wr.setRow rb (am own) = W9 at *
    clear c2 q2 hc ht hr ho
    go_wp2_with fail
    refine bodyPost_ret (results_cell_row rfl _ _ rb 217 (am own) (0, 0) _ rfl hRr Try.underlying217 rfl (by rfl)) rfl ⟨rfl, hKr, hC⟩
set_option maxRecDepth 100000 in
set_option maxHeartbeats 4000000 in
theorem add_step (k : Int) (s : ByteArray) (n : Int) (es : List S37) (IH : 0 < es.length → AddOK (rd_T37 es 0)) (left : Int) (cb : Nat) (A3 : Option Addr) (c3 : Nat) (w0 w : World) (h0 : 0 ≤ left) (h1 : left ≤ 512) (hc : Has w cb (ctr left false) 234) (H : k37.C w0 A3 es.length es) (hl : es.length ≤ c3) (B0 : Below w0.heap.size w0 w) (hcb : w0.heap.size ≤ cb) :
  Calls Try.prog 142 #[.pointer (some ⟨cb, 0, none⟩), .agg #[.int .i64 k, .string s, .int .i64 n, .slice A3 es.length c3]] w (CtR cb (addP ⟨k, s, n, es⟩ left) w) := by
 have HIH := Aside0.mk IH
 have HH := Aside0.mk H
 have HB0 := Aside0.mk B0
 have hsz0 := B0.size
 clear IH H B0
 have hu37 := Try.underlying37
 have hu217 := Try.underlying217
 go_enter Try.func142, Try.ntmps142
 go_wp2_with ((with_reducible refine gate_dst (N := 9) rfl ?_); refine Hold.out ?_)
 refine ⟨?_⟩
 obtain ⟨w1, e1⟩ : ∃ V, w.alloc (Obj.cells #[.int .i64 k, .string s, .int .i64 n, .slice A3 es.length c3] 37) = V := ⟨_, rfl⟩
 have s1 : w1.heap.size = w.heap.size + 1 := by rw [← e1]; simp
 have b1 : Below w.heap.size w w1 := e1 ▸ below_alloc (Below.refl _ _) _
 have t1 : Has w1 w.heap.size #[.int .i64 k, .string s, .int .i64 n, .slice A3 es.length c3] 37 := by rw [← e1]; exact Has.new w _ 37
 rw [e1, ← s1]
 clear e1
 obtain ⟨w2, e2⟩ : ∃ V, w1.alloc (Obj.cells #[.int .i64 0, .int .i64 0, .bool false] 217) = V := ⟨_, rfl⟩
 have s2 : w2.heap.size = w1.heap.size + 1 := by rw [← e2]; simp
 have b2 : Below w1.heap.size w1 w2 := e2 ▸ below_alloc (Below.refl _ _) _
 have HR : Has w2 w1.heap.size (am cz) 217 := by rw [← e2]; exact Has.new w1 _ 217
 rw [e2]
 clear e2
 have b12 := below_then b1 b1.size b2
 have HT := t1.belowS b2
 have HCB := hc.belowS b12
 have HK := Kept.of_below (S := fun b => b = cb) b12
 have hrb : w.heap.size ≤ w1.heap.size := by omega
 clear b1 b2 b12 t1 hc s1 s2
 generalize w1.heap.size = rb at *
 generalize htb : w.heap.size = tb at *
 have HTB := Aside0.mk htb
 clear htb
 have c1 := HCB.cell 1
 have f1 := HCB.frozen 1
 simp only [List.getElem?_toArray, List.getElem?_cons_zero, List.getElem?_cons_succ] at c1
 go_wp2_with ((with_reducible refine gate_dst (N := 17) rfl ?_); refine Hold.out ?_)
 refine ⟨?_⟩
 have HCB1 : Has (w2.setCell ⟨cb, 1, none⟩ (.int .i64 (left - 1))) cb (ctr (left - 1) false) 234 := HCB.set_ 1 _
 have HK1 : Kept (fun b => b = cb) w (w2.setCell ⟨cb, 1, none⟩ (.int .i64 (left - 1))) := HK.setCell (a := ⟨cb, 1, none⟩) rfl _
 have HT1 : Has (w2.setCell ⟨cb, 1, none⟩ (.int .i64 (left - 1))) tb #[.int .i64 k, .string s, .int .i64 n, .slice A3 es.length c3] 37 := HT.other (a := ⟨cb, 1, none⟩) (HT.ne HCB (by decide)) _
 have HR1 : Has (w2.setCell ⟨cb, 1, none⟩ (.int .i64 (left - 1))) rb (am cz) 217 := HR.other (a := ⟨cb, 1, none⟩) (HR.ne HCB (by decide)) _
 generalize w2.setCell ⟨cb, 1, none⟩ (.int .i64 (left - 1)) = w3 at *
 clear HCB HK HT HR c1 f1
 have c1 := HCB1.cell 1
 have c2 := HCB1.cell 2
 have f2 := HCB1.frozen 2
 simp only [List.getElem?_toArray, List.getElem?_cons_zero, List.getElem?_cons_succ] at c1 c2
 obtain ⟨b, hb⟩ : ∃ b, decide (left - 1 < 0) = b := ⟨_, rfl⟩
 go_wp2_with ((with_reducible refine gate_dst (N := 30) rfl ?_); refine Hold.out ?_)
 refine ⟨?_⟩
 have HCB : Has (w3.setCell ⟨cb, 2, none⟩ (.bool b)) cb (ctr (left - 1) b) 234 := HCB1.set_ 2 _
 have HK : Kept (fun b => b = cb) w (w3.setCell ⟨cb, 2, none⟩ (.bool b)) := HK1.setCell (a := ⟨cb, 2, none⟩) rfl _
 have HT : Has (w3.setCell ⟨cb, 2, none⟩ (.bool b)) tb #[.int .i64 k, .string s, .int .i64 n, .slice A3 es.length c3] 37 := HT1.other (a := ⟨cb, 2, none⟩) (HT1.ne HCB1 (by decide)) _
 have HR : Has (w3.setCell ⟨cb, 2, none⟩ (.bool b)) rb (am cz) 217 := HR1.other (a := ⟨cb, 2, none⟩) (HR1.ne HCB1 (by decide)) _
 generalize w3.setCell ⟨cb, 2, none⟩ (.bool b) = w4 at *
 clear HCB1 HK1 HT1 HR1 c1 c2 f2
 have c2 := HCB.cell 2
 simp only [List.getElem?_toArray, List.getElem?_cons_zero, List.getElem?_cons_succ] at c2
 cases b with
 | true =>
  have hz : left = 0 := by simp at hb; omega
  have HP : addP ⟨k, s, n, es⟩ left = (cz, -1, true) := by unfold addP; rw [if_pos hz]
  go_wp2_with ((with_reducible refine gate_dst (N := 31) rfl ?_); refine Hold.out ?_)
  refine ⟨?_⟩
  refine list_value (v := .agg (am cz)) rfl rfl ⟨run_bld rfl (by kernel_rfl)⟩ ?_
  simp only [List.setIfInBounds_toArray, List.set_cons_zero, List.set_cons_succ]
  refine list_store (w' := w4) rfl rfl ⟨storeS 217 3 (by kernel_rfl) w4 rb (am cz) HR rfl (by kernel_rfl) _ _ _ _ rfl rfl rfl⟩ ?_
  clear c2
  go_wp2_with fail
  refine bodyPost_ret (results_cell_row rfl _ _ rb 217 (am cz) (0, 0) _ rfl HR Try.underlying217 rfl (by rfl)) rfl ?_
  show CtR cb (addP ⟨k, s, n, es⟩ left) w _ _
  rw [HP]
  rw [hz] at HCB
  exact ⟨rfl, HK, HCB⟩
 | false =>
  have hz : ¬ left = 0 := by simp at hb; omega
  go_wp2_with ((with_reducible refine gate_dst (N := 32) rfl ?_); refine Hold.out ?_)
  refine ⟨?_⟩
  clear c2 hb
  refine list_value (v := .agg (am (1, 1, false))) rfl rfl ⟨run_bld rfl (by kernel_rfl)⟩ ?_
  simp only [List.setIfInBounds_toArray, List.set_cons_zero, List.set_cons_succ]
  refine list_alloc (v := .pointer (some ⟨w4.heap.size, 0, none⟩)) (b := Obj.cells (am cz) 217) rfl rfl ⟨rfl⟩ ?_
  intro Z eZ
  simp only [List.setIfInBounds_toArray, List.set_cons_zero, List.set_cons_succ]
  subst eZ
  refine list_store (w' := w4.alloc (Obj.cells (am (1, 1, false)) 217)) rfl rfl ⟨storeN 217 3 (by kernel_rfl) _ _ _ rfl rfl (by kernel_rfl) _ _ _ _ rfl rfl rfl⟩ ?_
  obtain ⟨w5, e5⟩ : ∃ V, w4.alloc (Obj.cells (am (1, 1, false)) 217) = V := ⟨_, rfl⟩
  rw [e5]
  have q5 : Below w4.heap.size w4 w5 := e5 ▸ below_alloc (Below.refl _ _) _
  have HO : Has w5 w4.heap.size (am (1, 1, false)) 217 := by rw [← e5]; exact Has.new w4 _ 217
  replace HCB := HCB.belowS q5
  replace HT := HT.belowS q5
  have hro : rb ≠ w4.heap.size := by have := HR.lt; omega
  replace HR := HR.belowS q5
  have how : w.heap.size ≤ w4.heap.size := HK.size
  replace HK := HK.below q5
  clear e5 q5
  generalize w4.heap.size = ob at *
  have z0 := HT.cell 0
  have z1 := HT.cell 1
  have z2 := HT.cell 2
  have z3 := HT.cell 3
  simp only [List.getElem?_toArray, List.getElem?_cons_zero, List.getElem?_cons_succ] at z0 z1 z2 z3
  by_cases k1 : k = 1
  ·have HP : addP ⟨k, s, n, es⟩ left = ((1, 0, false), left - 1, false) := by unfold addP; rw [if_neg hz, if_pos k1]
   have d1 : decide (k = 1) = true := decide_eq_true k1
   have o1 := HO.cell 1
   have g1 := HO.frozen 1
   simp only [List.getElem?_toArray, List.getElem?_cons_zero, List.getElem?_cons_succ] at o1
   go_wp2_with ((with_reducible refine gate_dst (N := 83) rfl ?_); refine Hold.out ?_)
   replace HCB := HCB.other (a := ⟨ob, 1, none⟩) (HCB.ne HO (by decide)) (.int .i64 0)
   replace HR := HR.other (a := ⟨ob, 1, none⟩) hro (.int .i64 0)
   replace HK := HK.setCellG (a := ⟨ob, 1, none⟩) how (.int .i64 0)
   replace HO : Has (w5.setCell ⟨ob, 1, none⟩ (.int .i64 0)) ob (am (1, 0, false)) 217 := HO.set_ 1 (.int .i64 0)
   clear z0 z1 z2 z3 HT o1 g1
   generalize w5.setCell ⟨ob, 1, none⟩ (.int .i64 0) = w6 at *
   refine ⟨?_⟩
   refine list_value (v := .agg (am (1, 0, false))) rfl rfl ⟨loadN 217 3 (by kernel_rfl) Try.underlying217 _ _ _ HO rfl _ _ _ rfl rfl⟩ ?_
   simp only [List.setIfInBounds_toArray, List.set_cons_zero, List.set_cons_succ]
   refine list_store (w' := w6.setRow rb (am (1, 0, false))) rfl rfl ⟨storeR 217 3 (by kernel_rfl) w6 rb (am cz) (am (1, 0, false)) HR rfl rfl (by first | kernel_rfl | simp [Value.oneCell']) _ _ _ _ rfl rfl rfl⟩ ?_
   have hC := has_row_other (cs' := am (1, 0, false)) HCB (HCB.ne HR (by decide))
   have hRr := has_row HR (am (1, 0, false))
   have hKr := kept_row HK (g := rb) (by rw [HTB.out]; exact hrb) (am (1, 0, false))
   generalize w6.setRow rb (am (1, 0, false)) = W9 at *
   clear HCB HR HK HO
   go_wp2_with fail
   refine bodyPost_ret (results_cell_row rfl _ _ rb 217 (am (1, 0, false)) (0, 0) _ rfl hRr Try.underlying217 rfl (by rfl)) rfl ?_
   show CtR cb (addP ⟨k, s, n, es⟩ left) w _ _
   rw [HP]
   exact ⟨rfl, hKr, hC⟩
  have d1 : decide (k = 1) = false := decide_eq_false k1
  by_cases k28 : 2 ≤ k ∧ k ≤ 8
  ·have HP : addP ⟨k, s, n, es⟩ left = ((1, 1, false), left - 1, false) := by unfold addP; rw [if_neg hz, if_neg k1, if_pos k28]
   have d2 : decide (k ≥ 2) = true := decide_eq_true (by omega)
   have d8 : decide (k ≤ 8) = true := decide_eq_true (by omega)
   go_wp2_with ((with_reducible refine gate_dst (N := 83) rfl ?_); refine Hold.out ?_)
   clear z0 z1 z2 z3 HT
   refine ⟨?_⟩
   refine list_value (v := .agg (am (1, 1, false))) rfl rfl ⟨loadN 217 3 (by kernel_rfl) Try.underlying217 _ _ _ HO rfl _ _ _ rfl rfl⟩ ?_
   simp only [List.setIfInBounds_toArray, List.set_cons_zero, List.set_cons_succ]
   refine list_store (w' := w5.setRow rb (am (1, 1, false))) rfl rfl ⟨storeR 217 3 (by kernel_rfl) w5 rb (am cz) (am (1, 1, false)) HR rfl rfl (by first | kernel_rfl | simp [Value.oneCell']) _ _ _ _ rfl rfl rfl⟩ ?_
   have hC := has_row_other (cs' := am (1, 1, false)) HCB (HCB.ne HR (by decide))
   have hRr := has_row HR (am (1, 1, false))
   have hKr := kept_row HK (g := rb) (by rw [HTB.out]; exact hrb) (am (1, 1, false))
   generalize w5.setRow rb (am (1, 1, false)) = W9 at *
   clear HCB HR HK HO
   go_wp2_with fail
   refine bodyPost_ret (results_cell_row rfl _ _ rb 217 (am (1, 1, false)) (0, 0) _ rfl hRr Try.underlying217 rfl (by rfl)) rfl ?_
   show CtR cb (addP ⟨k, s, n, es⟩ left) w _ _
   rw [HP]
   exact ⟨rfl, hKr, hC⟩
  by_cases k9 : k = 9
  ·have HP : addP ⟨k, s, n, es⟩ left = (cz, left - 1, true) := by unfold addP; rw [if_neg hz, if_neg k1, if_neg k28, if_pos k9]
   subst k9
   go_wp2_with (first | (go_at_call 145; refine (named_nil cb (left - 1) false 9 s n _ _ HCB).mono ?_; rintro e w7 ⟨rfl, K7, H7⟩) | ((with_reducible refine gate_store (t := 217) (p := 4) rfl ?_); refine Hold.out ?_))
   refine ⟨?_⟩
   have hcr : rb ≠ cb := HR.ne HCB (by decide)
   have HR7 := K7.has HR hcr
   have HK7 := HK.then_ K7
   clear z0 z1 z2 z3 HT HCB HR HK HO K7
   refine list_store (w' := w7) rfl rfl ⟨storeS 217 3 (by kernel_rfl) w7 rb (am cz) HR7 rfl (by kernel_rfl) _ _ _ _ rfl rfl rfl⟩ ?_
   go_wp2_with fail
   refine bodyPost_ret (results_cell_row rfl _ _ rb 217 (am cz) (0, 0) _ rfl HR7 Try.underlying217 rfl (by rfl)) rfl ?_
   show CtR cb (addP ⟨9, s, n, es⟩ left) w _ _
   rw [HP]
   exact ⟨rfl, HK7, H7⟩
  have d9 : decide (k = 9) = false := decide_eq_false k9
  by_cases ko : k < 10 ∨ 13 < k
  ·have HP : addP ⟨k, s, n, es⟩ left = ((1, 1, false), left - 1, true) := by unfold addP; rw [if_neg hz, if_neg k1, if_neg k28, if_neg k9, if_pos ko]
   have c2 := HCB.cell 2
   have f2 := HCB.frozen 2
   simp only [List.getElem?_toArray, List.getElem?_cons_zero, List.getElem?_cons_succ] at c2
   go_wp2_with ((with_reducible refine gate_dst (N := 83) rfl ?_); refine Hold.out ?_)
   all_goals
    replace HK : Kept (fun b => b = cb) w (w5.setCell ⟨cb, 2, none⟩ (.bool true)) := HK.setCell (a := ⟨cb, 2, none⟩) rfl _
    replace HR : Has (w5.setCell ⟨cb, 2, none⟩ (.bool true)) rb (am cz) 217 := HR.other (a := ⟨cb, 2, none⟩) (HR.ne HCB (by decide)) _
    replace HO : Has (w5.setCell ⟨cb, 2, none⟩ (.bool true)) ob (am (1, 1, false)) 217 := HO.other (a := ⟨cb, 2, none⟩) (HO.ne HCB (by decide)) _
    replace HCB : Has (w5.setCell ⟨cb, 2, none⟩ (.bool true)) cb (ctr (left - 1) true) 234 := HCB.set_ 2 _
    clear z0 z1 z2 z3 HT c2 f2
    generalize w5.setCell ⟨cb, 2, none⟩ (.bool true) = w6 at *
    refine ⟨?_⟩
    refine list_value (v := .agg (am (1, 1, false))) rfl rfl ⟨loadN 217 3 (by kernel_rfl) Try.underlying217 _ _ _ HO rfl _ _ _ rfl rfl⟩ ?_
    simp only [List.setIfInBounds_toArray, List.set_cons_zero, List.set_cons_succ]
    refine list_store (w' := w6.setRow rb (am (1, 1, false))) rfl rfl ⟨storeR 217 3 (by kernel_rfl) w6 rb (am cz) (am (1, 1, false)) HR rfl rfl (by first | kernel_rfl | simp [Value.oneCell']) _ _ _ _ rfl rfl rfl⟩ ?_
    have hC := has_row_other (cs' := am (1, 1, false)) HCB (HCB.ne HR (by decide))
    have hRr := has_row HR (am (1, 1, false))
    have hKr := kept_row HK (g := rb) (by rw [HTB.out]; exact hrb) (am (1, 1, false))
    generalize w6.setRow rb (am (1, 1, false)) = W9 at *
    clear HCB HR HK HO
    go_wp2_with fail
    refine bodyPost_ret (results_cell_row rfl _ _ rb 217 (am (1, 1, false)) (0, 0) _ rfl hRr Try.underlying217 rfl (by rfl)) rfl ?_
    show CtR cb (addP ⟨k, s, n, es⟩ left) w _ _
    rw [HP]
    exact ⟨rfl, hKr, hC⟩
  have hk : 10 ≤ k ∧ k ≤ 13 := by omega
  have d10 : decide (k < 10) = false := decide_eq_false (by omega)
  have d13 : decide (k > 13) = false := decide_eq_false (by omega)
  by_cases hlen : es.length = 0
  ·have HP : addP ⟨k, s, n, es⟩ left = ((1, 1, false), left - 1, true) := by
    obtain rfl := List.length_eq_zero_iff.1 hlen
    unfold addP; rw [if_neg hz, if_neg k1, if_neg k28, if_neg k9, if_neg ko]
   have c2 := HCB.cell 2
   have f2 := HCB.frozen 2
   simp only [List.getElem?_toArray, List.getElem?_cons_zero, List.getElem?_cons_succ] at c2
   have dl : decide ((es.length : Int) = 0) = true := decide_eq_true (by omega)
   go_wp2_with ((with_reducible refine gate_dst (N := 83) rfl ?_); refine Hold.out ?_)
   all_goals
    replace HK : Kept (fun b => b = cb) w (w5.setCell ⟨cb, 2, none⟩ (.bool true)) := HK.setCell (a := ⟨cb, 2, none⟩) rfl _
    replace HR : Has (w5.setCell ⟨cb, 2, none⟩ (.bool true)) rb (am cz) 217 := HR.other (a := ⟨cb, 2, none⟩) (HR.ne HCB (by decide)) _
    replace HO : Has (w5.setCell ⟨cb, 2, none⟩ (.bool true)) ob (am (1, 1, false)) 217 := HO.other (a := ⟨cb, 2, none⟩) (HO.ne HCB (by decide)) _
    replace HCB : Has (w5.setCell ⟨cb, 2, none⟩ (.bool true)) cb (ctr (left - 1) true) 234 := HCB.set_ 2 _
    clear z0 z1 z2 z3 HT c2 f2
    generalize w5.setCell ⟨cb, 2, none⟩ (.bool true) = w6 at *
    refine ⟨?_⟩
    refine list_value (v := .agg (am (1, 1, false))) rfl rfl ⟨loadN 217 3 (by kernel_rfl) Try.underlying217 _ _ _ HO rfl _ _ _ rfl rfl⟩ ?_
    simp only [List.setIfInBounds_toArray, List.set_cons_zero, List.set_cons_succ]
    refine list_store (w' := w6.setRow rb (am (1, 1, false))) rfl rfl ⟨storeR 217 3 (by kernel_rfl) w6 rb (am cz) (am (1, 1, false)) HR rfl rfl (by first | kernel_rfl | simp [Value.oneCell']) _ _ _ _ rfl rfl rfl⟩ ?_
    have hC := has_row_other (cs' := am (1, 1, false)) HCB (HCB.ne HR (by decide))
    have hRr := has_row HR (am (1, 1, false))
    have hKr := kept_row HK (g := rb) (by rw [HTB.out]; exact hrb) (am (1, 1, false))
    generalize w6.setRow rb (am (1, 1, false)) = W9 at *
    clear HCB HR HK HO
    go_wp2_with fail
    refine bodyPost_ret (results_cell_row rfl _ _ rb 217 (am (1, 1, false)) (0, 0) _ rfl hRr Try.underlying217 rfl (by rfl)) rfl ?_
    show CtR cb (addP ⟨k, s, n, es⟩ left) w _ _
    rw [HP]
    exact ⟨rfl, hKr, hC⟩
  have hpos : 0 < es.length := by omega
  have dl : decide ((es.length : Int) = 0) = false := decide_eq_false (by omega)
  by_cases k10 : k = 10
  ·have HP : addP ⟨k, s, n, es⟩ left = loopP (addP (rd_T37 es 0)) n.toNat (1, 0, false) (left - 1) false := by
    cases es with
    | nil => exact absurd hpos (Nat.lt_irrefl 0)
    | cons e r => unfold addP; rw [if_neg hz, if_neg k1, if_neg k28, if_neg k9, if_neg ko]; dsimp only; rw [if_pos k10]; rfl
   subst k10
   have hB5 : Below w0.heap.size w0 w5 := HB0.out.trans (HK.below_of (fun b h => h ▸ hcb) (by rw [HTB.out]; exact hsz0))
   go_wp2_with (first | (go_at_call 146; refine (array_ok 10 s n (rd_T37 es 0) es rfl hpos (HIH.out hpos) (left - 1) cb A3 c3 w0 w5 (by omega) (by omega) HCB HH.out hl hB5 hcb).mono ?_; rintro e w7 ⟨rfl, K7, H7⟩) | ((with_reducible refine gate_store (t := 217) (p := 4) rfl ?_); refine Hold.out ?_))
   refine ⟨?_⟩
   have hcr : rb ≠ cb := HR.ne HCB (by decide)
   have HR7 := K7.has HR hcr
   have HK7 := HK.then_ K7
   clear z0 z1 z2 z3 HT HCB HR HK HO K7 hB5
   generalize loopP (addP (rd_T37 es 0)) n.toNat (1, 0, false) (left - 1) false = R at *
   obtain ⟨own, l', b'⟩ := R
   refine list_store (w' := w7.setRow rb (am own)) rfl rfl ⟨storeR 217 3 (by kernel_rfl) w7 rb (am cz) (am own) HR7 rfl rfl (by first | kernel_rfl | simp [Value.oneCell']) _ _ _ _ rfl rfl rfl⟩ ?_
   have hC := has_row_other (cs' := am own) H7 hcr.symm
   have hRr := has_row HR7 (am own)
   have hKr := kept_row HK7 (g := rb) (by rw [HTB.out]; exact hrb) (am own)
   generalize w7.setRow rb (am own) = W9 at *
   clear H7 HR7 HK7
   go_wp2_with fail
   refine bodyPost_ret (results_cell_row rfl _ _ rb 217 (am own) (0, 0) _ rfl hRr Try.underlying217 rfl (by rfl)) rfl ?_
   exact ⟨rfl, hKr, hC⟩
  have d10' : decide (k = 10) = false := decide_eq_false k10
  have HP : addP ⟨k, s, n, es⟩ left = ((1, 1, decide (k ≠ 12)), left - 1, false) := by
   cases es with
   | nil => exact absurd hpos (Nat.lt_irrefl 0)
   | cons e r => unfold addP; rw [if_neg hz, if_neg k1, if_neg k28, if_neg k9, if_neg ko]; dsimp only; rw [if_neg k10]
  have o2 := HO.cell 2
  have g2 := HO.frozen 2
  simp only [List.getElem?_toArray, List.getElem?_cons_zero, List.getElem?_cons_succ] at o2
  obtain ⟨mv, hmv⟩ : ∃ b, decide (k ≠ 12) = b := ⟨_, rfl⟩
  rw [hmv] at HP
  have hmv' : (k != 12) = mv := by rw [← hmv]; by_cases h : k = 12 <;> simp [h]
  go_wp2_with ((with_reducible refine gate_dst (N := 83) rfl ?_); refine Hold.out ?_)
  replace HCB := HCB.other (a := ⟨ob, 2, none⟩) (HCB.ne HO (by decide)) (.bool mv)
  replace HR := HR.other (a := ⟨ob, 2, none⟩) hro (.bool mv)
  replace HK := HK.setCellG (a := ⟨ob, 2, none⟩) how (.bool mv)
  replace HO : Has (w5.setCell ⟨ob, 2, none⟩ (.bool mv)) ob (am (1, 1, mv)) 217 := HO.set_ 2 (.bool mv)
  clear z0 z1 z2 z3 HT o2 g2
  generalize w5.setCell ⟨ob, 2, none⟩ (.bool mv) = w6 at *
  refine ⟨?_⟩
  refine list_value (v := .agg (am (1, 1, mv))) rfl rfl ⟨loadN 217 3 (by kernel_rfl) Try.underlying217 _ _ _ HO rfl _ _ _ rfl rfl⟩ ?_
  simp only [List.setIfInBounds_toArray, List.set_cons_zero, List.set_cons_succ]
  refine list_store (w' := w6.setRow rb (am (1, 1, mv))) rfl rfl ⟨storeR 217 3 (by kernel_rfl) w6 rb (am cz) (am (1, 1, mv)) HR rfl rfl (by first | kernel_rfl | simp [Value.oneCell']) _ _ _ _ rfl rfl rfl⟩ ?_
  have hC := has_row_other (cs' := am (1, 1, mv)) HCB (HCB.ne HR (by decide))
  have hRr := has_row HR (am (1, 1, mv))
  have hKr := kept_row HK (g := rb) (by rw [HTB.out]; exact hrb) (am (1, 1, mv))
  generalize w6.setRow rb (am (1, 1, mv)) = W9 at *
  clear HCB HR HK HO
  go_wp2_with fail
  refine bodyPost_ret (results_cell_row rfl _ _ rb 217 (am (1, 1, mv)) (0, 0) _ rfl hRr Try.underlying217 rfl (by rfl)) rfl ?_
  show CtR cb (addP ⟨k, s, n, es⟩ left) w _ _
  rw [HP]
  exact ⟨rfl, hKr, hC⟩
theorem add_ok : ∀ t : S37, AddOK t
 | ⟨k, s, n, []⟩ => fun left cb A3 c3 w0 w h0 h1 hc H hl B0 hcb => add_step k s n [] (fun h => absurd h (Nat.lt_irrefl 0)) left cb A3 c3 w0 w h0 h1 hc H hl B0 hcb
 | ⟨k, s, n, e :: r⟩ => fun left cb A3 c3 w0 w h0 h1 hc H hl B0 hcb => add_step k s n (e :: r) (fun _ => add_ok e) left cb A3 c3 w0 w h0 h1 hc H hl B0 hcb
def nz (a : Am) : Bool := decide (¬ (a.1 = 0 ∧ a.2.1 = 0 ∧ a.2.2 = false))
def measureP (t : S37) : Am × Bool := if (addP t 512).2.2 = true then (cz, false) else ((addP t 512).1, nz (addP t 512).1)
def tyCopyP (t : S37) : Bool := (measureP t).2 && !(measureP t).1.2.2
def tyWordsP (t : S37) : Int × Bool := if (measureP t).2 = false ∨ (measureP t).1.2.1 > 128 then (0, false) else ((measureP t).1.2.1, true)
set_option maxRecDepth 100000 in
set_option maxHeartbeats 4000000 in
theorem measure_nil (t : S37) (A3 : Option Addr) (c3 : Nat) (w : World) (H : k37.C w A3 t.f3.length t.f3) (hl : t.f3.length ≤ c3) :
  Calls Try.prog 140 #[.slice none 0 0, .agg #[.int .i64 t.f0, .string t.f1, .int .i64 t.f2, .slice A3 t.f3.length c3]] w fun e w' => e = .returned (.tuple #[.agg (am (measureP t).1), .bool (measureP t).2]) ∧ Below w.heap.size w w' := by
 have hu37 := Try.underlying37
 have hu217 := Try.underlying217
 have hu234 := Try.underlying234
 have HH := Aside0.mk H
 clear H
 go_enter Try.func140, Try.ntmps140
 go_wp2_with ((with_reducible refine gate_dst (N := 10) rfl ?_); refine Hold.out ?_)
 refine ⟨?_⟩
 obtain ⟨w1, e1⟩ : ∃ V, w.alloc (Obj.cells #[.int .i64 t.f0, .string t.f1, .int .i64 t.f2, .slice A3 t.f3.length c3] 37) = V := ⟨_, rfl⟩
 have s1 : w1.heap.size = w.heap.size + 1 := by rw [← e1]; simp
 have b1 : Below w.heap.size w w1 := e1 ▸ below_alloc (Below.refl _ _) _
 have t1 : Has w1 w.heap.size #[.int .i64 t.f0, .string t.f1, .int .i64 t.f2, .slice A3 t.f3.length c3] 37 := by rw [← e1]; exact Has.new w _ 37
 rw [e1, ← s1]
 clear e1
 obtain ⟨w2, e2⟩ : ∃ V, w1.alloc (Obj.cells #[.int .i64 0, .int .i64 0, .bool false] 217) = V := ⟨_, rfl⟩
 have s2 : w2.heap.size = w1.heap.size + 1 := by rw [← e2]; simp
 have b2 : Below w1.heap.size w1 w2 := e2 ▸ below_alloc (Below.refl _ _) _
 have HR : Has w2 w1.heap.size (am cz) 217 := by rw [← e2]; exact Has.new w1 _ 217
 rw [e2]
 clear e2
 have b12 := below_then b1 b1.size b2
 have HT := t1.belowS b2
 have hrb : w.heap.size ≤ w1.heap.size := by omega
 clear b1 b2 t1 s1 s2
 generalize w1.heap.size = rb at *
 go_wp2_with ((with_reducible refine gate_dst (N := 12) rfl ?_); refine Hold.out ?_)
 refine ⟨?_⟩
 obtain ⟨w3, e3⟩ : ∃ V, w2.alloc (Obj.cells #[.slice none 0 0, .int .i64 512, .bool false] 234) = V := ⟨_, rfl⟩
 have q3 : Below w2.heap.size w2 w3 := e3 ▸ below_alloc (Below.refl _ _) _
 have HC : Has w3 w2.heap.size (ctr 512 false) 234 := by rw [← e3]; exact Has.new w2 _ 234
 rw [e3]
 clear e3
 replace HT := HT.belowS q3
 replace HR := HR.belowS q3
 have hcb : w.heap.size ≤ w2.heap.size := b12.size
 have b3 := below_then b12 hcb q3
 clear b12 q3
 generalize w2.heap.size = cb at *
 have HK := Kept.of_below (S := fun b => b = cb) b3
 have z0 := HT.cell 0
 have z1 := HT.cell 1
 have z2 := HT.cell 2
 have z3 := HT.cell 3
 simp only [List.getElem?_toArray, List.getElem?_cons_zero, List.getElem?_cons_succ] at z0 z1 z2 z3
 have HA := add_ok t 512 cb A3 c3 w w3 (by decide) (by decide) HC HH.out hl b3 hcb
 obtain ⟨R, hR⟩ : ∃ R, addP t 512 = R := ⟨_, rfl⟩
 rw [hR] at HA
 have HM : measureP t = (if R.2.2 = true then (cz, false) else (R.1, nz R.1)) := by unfold measureP; rw [hR]
 clear hR
 replace HM := Aside0.mk HM
 obtain ⟨own, l, b⟩ := R
 go_wp2_with (first | (go_at_call 142; refine HA.mono ?_; rintro e w4 ⟨rfl, K4, H4⟩) | ((with_reducible refine gate_dst (N := 17) rfl ?_); refine Hold.out ?_))
 refine ⟨?_⟩
 obtain ⟨w5, e5⟩ : ∃ V, w4.alloc (Obj.cells #[.int .i64 own.1, .int .i64 own.2.1, .bool own.2.2] 217) = V := ⟨_, rfl⟩
 have q5 : Below w4.heap.size w4 w5 := e5 ▸ below_alloc (Below.refl _ _) _
 have HO : Has w5 w4.heap.size (am own) 217 := by rw [← e5]; exact Has.new w4 _ 217
 rw [e5]
 clear e5 HA z0 z1 z2 z3
 have HR4 := K4.has HR (HR.ne HC (by decide))
 have hro : rb ≠ w4.heap.size := by have := HR4.lt; omega
 replace HR := HR4.belowS q5
 replace HC := H4.belowS q5
 replace HK := (HK.then_ K4).below q5
 clear HR4 H4 K4 q5 HT b3
 generalize w4.heap.size = ob at *
 have c2 := HC.cell 2
 simp only [List.getElem?_toArray, List.getElem?_cons_zero, List.getElem?_cons_succ] at c2
 cases b with
 | true =>
  go_wp2_with ((with_reducible refine gate_dst (N := 18) rfl ?_); refine Hold.out ?_)
  refine ⟨?_⟩
  refine list_value (v := .agg (am cz)) rfl rfl ⟨run_bld rfl (by kernel_rfl)⟩ ?_
  simp only [List.setIfInBounds_toArray, List.set_cons_zero, List.set_cons_succ]
  refine list_store (w' := w5) rfl rfl ⟨storeS 217 3 (by kernel_rfl) w5 rb (am cz) HR rfl (by kernel_rfl) _ _ _ _ rfl rfl rfl⟩ ?_
  clear c2
  go_wp2_with fail
  exact bodyPost_ret (results_ct rfl _ _ rb 217 (am cz) (0, 0) _ rfl HR Try.underlying217 rfl (by rfl)) rfl ⟨by rw [HM.out]; rfl, HK.below_of (fun b h => h ▸ hcb) (Nat.le_refl _)⟩
 | false =>
  go_wp2
  obtain ⟨V0, hV⟩ : ∃ V, w5.drew = V := ⟨_, rfl⟩
  have HR0 : Has V0 rb (am cz) 217 := hV ▸ HR.drewN 1
  have HO0 : Has V0 ob (am own) 217 := hV ▸ HO.drewN 1
  have HC0 : Has V0 cb (ctr l false) 234 := hV ▸ HC.drewN 1
  have HK0 : Kept (fun b => b = cb) w V0 := hV ▸ HK.drewN 1
  clear HR HO HC HK c2
  refine region_mix [.h 0, .h 1, .h 2, .h 3, .c 4, .h 5] (fun w' => w'.cell? ⟨ob, 0, none⟩ = some (.int .i64 own.1) ∧ w'.cell? ⟨ob, 1, none⟩ = some (.int .i64 own.2.1) ∧ w'.cell? ⟨ob, 2, none⟩ = some (.bool own.2.2)) (by kernel_rfl) (by kernel_rfl) (hV.symm ▸ ⟨HO0.cell 0, HO0.cell 1, HO0.cell 2⟩) (by intro c a a' w1 hd h; simp +zetaDelta only [Exit.then, Exit.inBlock, bodyPost] at h ⊢; have h2 := h.2.1; cases h2) ?_
  rw [hV]
  clear hV
  refine mix_h (by rfl) (by rfl) (by rfl) ?_
  apply Exists.intro
  apply And.intro
  ·rintro w' ⟨k0, k1, k2⟩
   apply VR.mk
   go_simp
   with_reducible rfl
  simp only [List.setIfInBounds_toArray, List.set_cons_zero, List.set_cons_succ]
  refine mix_h (by rfl) (by rfl) (by rfl) ?_
  apply Exists.intro
  apply And.intro
  ·rintro w' ⟨k0, k1, k2⟩
   apply VR.mk
   go_simp
   with_reducible rfl
  simp only [List.setIfInBounds_toArray, List.set_cons_zero, List.set_cons_succ]
  refine mix_h (by rfl) (by rfl) (by rfl) ?_
  apply Exists.intro
  apply And.intro
  ·rintro w' ⟨k0, k1, k2⟩
   apply VR.mk
   go_simp
   with_reducible rfl
  simp only [List.setIfInBounds_toArray, List.set_cons_zero, List.set_cons_succ]
  refine mix_h (by rfl) (by rfl) (by rfl) ⟨.bool (nz own), ?_, ?_⟩
  ·rintro w' ⟨k0, k1, k2⟩
   apply VR.mk
   go_simp
   unfold nz
   by_cases h1 : own.1 = 0 <;> by_cases h2 : own.2.1 = 0 <;> cases h3 : own.2.2 <;> simp [h1, h2]
  simp only [List.setIfInBounds_toArray, List.set_cons_zero, List.set_cons_succ]
  have hS : (V0.setRow rb (am own)).cell? ⟨ob, 0, none⟩ = some (.int .i64 own.1) ∧ (V0.setRow rb (am own)).cell? ⟨ob, 1, none⟩ = some (.int .i64 own.2.1) ∧ (V0.setRow rb (am own)).cell? ⟨ob, 2, none⟩ = some (.bool own.2.2) := by
   have h := has_row_other (cs' := am own) HO0 hro.symm
   exact ⟨h.cell 0, h.cell 1, h.cell 2⟩
  refine mix_store (w' := V0.setRow rb (am own)) (by rfl) (by rfl) (by rfl) ⟨storeR 217 3 (by kernel_rfl) V0 rb (am cz) (am own) HR0 rfl rfl (by first | kernel_rfl | simp [Value.oneCell']) _ _ _ _ rfl rfl rfl⟩ hS ?_
  refine mix_h (by rfl) (by rfl) (by rfl) ?_
  apply Exists.intro
  apply And.intro
  ·rintro w' ⟨k0, k1, k2⟩
   apply VR.mk
   go_simp
   with_reducible rfl
  simp only [List.setIfInBounds_toArray, List.set_cons_zero, List.set_cons_succ]
  refine mix_nil ?_
  have hRr := has_row HR0 (am own)
  have hKr := kept_row HK0 (g := rb) hrb (am own)
  generalize V0.setRow rb (am own) = W9 at *
  clear HR0 HO0 HC0 HK0 hS
  go_wp2_with fail
  refine bodyPost_ret (results_ct rfl _ _ rb 217 (am own) (0, 0) _ rfl hRr Try.underlying217 rfl (by rfl)) rfl ⟨?_, hKr.below_of (fun b h => h ▸ hcb) (Nat.le_refl _)⟩
  rw [HM.out]
  rfl
theorem copy_of {t : S37} {a : Am} {ok : Bool} (h : measureP t = (a, ok)) : tyCopyP t = (ok && !a.2.2) := by unfold tyCopyP; rw [h]
theorem words_of {t : S37} {a : Am} {ok : Bool} (h : measureP t = (a, ok)) : tyWordsP t = if ok = false ∨ a.2.1 > 128 then (0, false) else (a.2.1, true) := by unfold tyWordsP; rw [h]
set_option maxRecDepth 100000 in
set_option maxHeartbeats 4000000 in
theorem copy_nil (t : S37) (A3 : Option Addr) (c3 : Nat) (w : World) (H : k37.C w A3 t.f3.length t.f3) (hl : t.f3.length ≤ c3) :
  Calls Try.prog 135 #[.slice none 0 0, .agg #[.int .i64 t.f0, .string t.f1, .int .i64 t.f2, .slice A3 t.f3.length c3]] w fun e w' => e = .returned (.bool (tyCopyP t)) ∧ Below w.heap.size w w' := by
 have hu37 := Try.underlying37
 have hu217 := Try.underlying217
 have HH := Aside0.mk H
 clear H
 go_enter Try.func135, Try.ntmps135
 go_wp2_with ((with_reducible refine gate_dst (N := 9) rfl ?_); refine Hold.out ?_)
 refine ⟨?_⟩
 obtain ⟨w1, e1⟩ : ∃ V, w.alloc (Obj.cells #[.int .i64 t.f0, .string t.f1, .int .i64 t.f2, .slice A3 t.f3.length c3] 37) = V := ⟨_, rfl⟩
 have b1 : Below w.heap.size w w1 := e1 ▸ below_alloc (Below.refl _ _) _
 have t1 : Has w1 w.heap.size #[.int .i64 t.f0, .string t.f1, .int .i64 t.f2, .slice A3 t.f3.length c3] 37 := by rw [← e1]; exact Has.new w _ 37
 rw [e1]
 clear e1
 have z0 := t1.cell 0
 have z1 := t1.cell 1
 have z2 := t1.cell 2
 have z3 := t1.cell 3
 simp only [List.getElem?_toArray, List.getElem?_cons_zero, List.getElem?_cons_succ] at z0 z1 z2 z3
 have HA := measure_nil t A3 c3 w1 (Kd.C_below HH.out b1) hl
 obtain ⟨R, hR⟩ : ∃ R, measureP t = R := ⟨_, rfl⟩
 rw [hR] at HA
 have HQ := Aside0.mk hR
 clear hR
 obtain ⟨a, ok⟩ := R
 cases ok
 all_goals
  go_wp2_with (go_at_call 140; refine HA.mono ?_; rintro e w2 ⟨rfl, q2⟩)
  go_ret
  refine ⟨?_, below_then b1 b1.size (below_alloc q2 _)⟩
  rw [copy_of HQ.out]
  simp only [Bool.true_and, Bool.false_and]
  rfl
set_option maxRecDepth 100000 in
set_option maxHeartbeats 4000000 in
theorem words_nil (t : S37) (A3 : Option Addr) (c3 : Nat) (w : World) (H : k37.C w A3 t.f3.length t.f3) (hl : t.f3.length ≤ c3) :
  Calls Try.prog 136 #[.slice none 0 0, .agg #[.int .i64 t.f0, .string t.f1, .int .i64 t.f2, .slice A3 t.f3.length c3]] w fun e w' => e = .returned (.tuple #[.int .i64 (tyWordsP t).1, .bool (tyWordsP t).2]) ∧ Below w.heap.size w w' := by
 have hu37 := Try.underlying37
 have hu217 := Try.underlying217
 have HH := Aside0.mk H
 clear H
 go_enter Try.func136, Try.ntmps136
 go_wp2_with ((with_reducible refine gate_dst (N := 10) rfl ?_); refine Hold.out ?_)
 refine ⟨?_⟩
 obtain ⟨w1, e1⟩ : ∃ V, w.alloc (Obj.cells #[.int .i64 t.f0, .string t.f1, .int .i64 t.f2, .slice A3 t.f3.length c3] 37) = V := ⟨_, rfl⟩
 have b1 : Below w.heap.size w w1 := e1 ▸ below_alloc (Below.refl _ _) _
 have t1 : Has w1 w.heap.size #[.int .i64 t.f0, .string t.f1, .int .i64 t.f2, .slice A3 t.f3.length c3] 37 := by rw [← e1]; exact Has.new w _ 37
 rw [e1]
 clear e1
 have z0 := t1.cell 0
 have z1 := t1.cell 1
 have z2 := t1.cell 2
 have z3 := t1.cell 3
 simp only [List.getElem?_toArray, List.getElem?_cons_zero, List.getElem?_cons_succ] at z0 z1 z2 z3
 have HA := measure_nil t A3 c3 w1 (Kd.C_below HH.out b1) hl
 obtain ⟨R, hR⟩ : ∃ R, measureP t = R := ⟨_, rfl⟩
 rw [hR] at HA
 have HQ := Aside0.mk hR
 clear hR
 obtain ⟨a, ok⟩ := R
 cases ok with
 | false =>
  go_wp2_with (go_at_call 140; refine HA.mono ?_; rintro e w2 ⟨rfl, q2⟩)
  go_ret2
  exact ⟨by rw [(words_of HQ.out).trans (if_pos (.inl rfl))]; rfl, below_then b1 b1.size (below_alloc q2 _)⟩
 | true =>
  by_cases hb : a.2.1 > 128
  ·have hd : decide (a.2.1 > 128) = true := decide_eq_true hb
   go_wp2_with (go_at_call 140; refine HA.mono ?_; rintro e w2 ⟨rfl, q2⟩)
   go_ret2
   exact ⟨by rw [(words_of HQ.out).trans (if_pos (.inr hb))]; rfl, below_then b1 b1.size (below_alloc q2 _)⟩
  ·have hd : decide (a.2.1 > 128) = false := decide_eq_false hb
   go_wp2_with (go_at_call 140; refine HA.mono ?_; rintro e w2 ⟨rfl, q2⟩)
   go_ret2
   exact ⟨by rw [(words_of HQ.out).trans (if_neg (by simp; omega))]; rfl, below_then b1 b1.size (below_alloc q2 _)⟩
set_option maxRecDepth 100000 in
set_option maxHeartbeats 4000000 in
theorem parts_nil (m : Nat) (k : Int) (s : ByteArray) (n : Int) (v : Value) (a : Int) (w : World) (hm : w.cell? ⟨m, 0, none⟩ = some (.slice none 0 0)) :
  Calls Try.prog 137 #[.pointer (some ⟨m, 0, none⟩), .agg #[.int .i64 k, .string s, .int .i64 n, v], .int .i64 a] w fun e w' => e = .returned (.tuple #[]) ∧ Below w.heap.size w w' := by
 have hu37 := Try.underlying37
 go_enter Try.func137, Try.ntmps137
 go_wp2
 obtain ⟨V, eV⟩ : ∃ V, w.alloc (Obj.cells #[.int .i64 k, .string s, .int .i64 n, v] 37) = V := ⟨_, rfl⟩
 have qV : Below w.heap.size w V := eV ▸ below_alloc (Below.refl _ _) _
 have mV : Has V w.heap.size #[.int .i64 k, .string s, .int .i64 n, v] 37 := by rw [← eV]; exact Has.new w _ 37
 have cV := pwcb qV hm
 rw [eV]
 clear eV
 obtain ⟨tb, htb⟩ : ∃ b, w.heap.size = b := ⟨_, rfl⟩
 rw [htb] at mV ⊢
 clear htb
 obtain ⟨W1, eW1⟩ : ∃ Z, V.drew = Z := ⟨_, rfl⟩
 have mW1 : Has W1 tb #[.int .i64 k, .string s, .int .i64 n, v] 37 := eW1 ▸ mV.drewN 1
 have cW1 : W1.cell? ⟨m, 0, none⟩ = some (.slice none 0 0) := eW1 ▸ cV
 have qW1 : Below w.heap.size w W1 := eW1 ▸ below_drew qV
 refine region_mix [.h 0, .h 1, .h 2, .h 3, .h 4, .h 5, .c 6, .h 7] (fun w' => w'.cell? ⟨m, 0, none⟩ = some (.slice none 0 0) ∧ w'.cell? ⟨tb, 1, none⟩ = some (.string s)) (by kernel_rfl) (by kernel_rfl) (eW1.symm ▸ ⟨cW1, mW1.cell 1⟩) (by intro c a a' w1 hd h; simp +zetaDelta only [Exit.then, Exit.inBlock, bodyPost] at h ⊢; have h2 := h.2.1; cases h2) ?_
 rw [eW1]
 clear eW1
 refine mix_h (by rfl) (by rfl) (by rfl) ?_
 apply Exists.intro
 apply And.intro
 ·rintro w' ⟨k0, k1⟩
  apply VR.mk
  go_simp
  with_reducible rfl
 simp only [List.setIfInBounds_toArray, List.set_cons_zero, List.set_cons_succ]
 refine mix_h (by rfl) (by rfl) (by rfl) ?_
 apply Exists.intro
 apply And.intro
 ·rintro w' ⟨k0, k1⟩
  apply VR.mk
  go_simp
  with_reducible rfl
 simp only [List.setIfInBounds_toArray, List.set_cons_zero, List.set_cons_succ]
 refine mix_h (by rfl) (by rfl) (by rfl) ?_
 apply Exists.intro
 apply And.intro
 ·rintro w' ⟨k0, k1⟩
  apply VR.mk
  go_simp
  with_reducible rfl
 simp only [List.setIfInBounds_toArray, List.set_cons_zero, List.set_cons_succ]
 refine mix_h (by rfl) (by rfl) (by rfl) ?_
 apply Exists.intro
 apply And.intro
 ·rintro w' ⟨k0, k1⟩
  apply VR.mk
  go_simp
  with_reducible rfl
 simp only [List.setIfInBounds_toArray, List.set_cons_zero, List.set_cons_succ]
 refine mix_h (by rfl) (by rfl) (by rfl) ?_
 apply Exists.intro
 apply And.intro
 ·rintro w' ⟨k0, k1⟩
  apply VR.mk
  go_simp
  with_reducible rfl
 simp only [List.setIfInBounds_toArray, List.set_cons_zero, List.set_cons_succ]
 refine mix_h (by rfl) (by rfl) (by rfl) ?_
 apply Exists.intro
 apply And.intro
 ·rintro w' ⟨k0, k1⟩
  apply VR.mk
  go_simp
  with_reducible rfl
 simp only [List.setIfInBounds_toArray, List.set_cons_zero, List.set_cons_succ]
 refine mix_call (by rfl) (by rfl) (by rfl) (ER.go (by go_simp; with_reducible exact ⟨rfl, rfl⟩)) ?_
 refine (find_nil 2 s W1).mono ?_
 rintro e W1b ⟨rfl, bW1⟩
 have mW1b := mW1.belowS bW1
 have cW1b := pwcb bW1 cW1
 have qW1b := below_then qW1 qW1.size bW1
 refine .inl ⟨_, rfl, ⟨cW1b, mW1b.cell 1⟩, ?_⟩
 simp only [List.setIfInBounds_toArray, List.set_cons_zero, List.set_cons_succ]
 refine mix_h (by rfl) (by rfl) (by rfl) ?_
 apply Exists.intro
 apply And.intro
 ·rintro w' ⟨k0, k1⟩
  apply VR.mk
  go_simp
  with_reducible rfl
 simp only [List.setIfInBounds_toArray, List.set_cons_zero, List.set_cons_succ]
 refine mix_nil ?_
 go_wp2
 obtain ⟨W2, eW2⟩ : ∃ Z, W1b.drew = Z := ⟨_, rfl⟩
 have mW2 : Has W2 tb #[.int .i64 k, .string s, .int .i64 n, v] 37 := eW2 ▸ mW1b.drewN 1
 have cW2 : W2.cell? ⟨m, 0, none⟩ = some (.slice none 0 0) := eW2 ▸ cW1b
 have qW2 : Below w.heap.size w W2 := eW2 ▸ below_drew qW1b
 refine region_mix [.h 0, .h 1, .h 2, .h 3, .h 4, .h 5, .c 6, .h 7] (fun w' => w'.cell? ⟨m, 0, none⟩ = some (.slice none 0 0) ∧ w'.cell? ⟨tb, 1, none⟩ = some (.string s)) (by kernel_rfl) (by kernel_rfl) (eW2.symm ▸ ⟨cW2, mW2.cell 1⟩) (by intro c a a' w1 hd h; simp +zetaDelta only [Exit.then, Exit.inBlock, bodyPost] at h ⊢; have h2 := h.2.1; cases h2) ?_
 rw [eW2]
 clear eW2
 refine mix_h (by rfl) (by rfl) (by rfl) ?_
 apply Exists.intro
 apply And.intro
 ·rintro w' ⟨k0, k1⟩
  apply VR.mk
  go_simp
  with_reducible rfl
 simp only [List.setIfInBounds_toArray, List.set_cons_zero, List.set_cons_succ]
 refine mix_h (by rfl) (by rfl) (by rfl) ?_
 apply Exists.intro
 apply And.intro
 ·rintro w' ⟨k0, k1⟩
  apply VR.mk
  go_simp
  with_reducible rfl
 simp only [List.setIfInBounds_toArray, List.set_cons_zero, List.set_cons_succ]
 refine mix_h (by rfl) (by rfl) (by rfl) ?_
 apply Exists.intro
 apply And.intro
 ·rintro w' ⟨k0, k1⟩
  apply VR.mk
  go_simp
  with_reducible rfl
 simp only [List.setIfInBounds_toArray, List.set_cons_zero, List.set_cons_succ]
 refine mix_h (by rfl) (by rfl) (by rfl) ?_
 apply Exists.intro
 apply And.intro
 ·rintro w' ⟨k0, k1⟩
  apply VR.mk
  go_simp
  with_reducible rfl
 simp only [List.setIfInBounds_toArray, List.set_cons_zero, List.set_cons_succ]
 refine mix_h (by rfl) (by rfl) (by rfl) ?_
 apply Exists.intro
 apply And.intro
 ·rintro w' ⟨k0, k1⟩
  apply VR.mk
  go_simp
  with_reducible rfl
 simp only [List.setIfInBounds_toArray, List.set_cons_zero, List.set_cons_succ]
 refine mix_h (by rfl) (by rfl) (by rfl) ?_
 apply Exists.intro
 apply And.intro
 ·rintro w' ⟨k0, k1⟩
  apply VR.mk
  go_simp
  with_reducible rfl
 simp only [List.setIfInBounds_toArray, List.set_cons_zero, List.set_cons_succ]
 refine mix_call (by rfl) (by rfl) (by rfl) (ER.go (by go_simp; with_reducible exact ⟨rfl, rfl⟩)) ?_
 refine (find_nil 3 s W2).mono ?_
 rintro e W2b ⟨rfl, bW2⟩
 have mW2b := mW2.belowS bW2
 have cW2b := pwcb bW2 cW2
 have qW2b := below_then qW2 qW2.size bW2
 refine .inl ⟨_, rfl, ⟨cW2b, mW2b.cell 1⟩, ?_⟩
 simp only [List.setIfInBounds_toArray, List.set_cons_zero, List.set_cons_succ]
 refine mix_h (by rfl) (by rfl) (by rfl) ?_
 apply Exists.intro
 apply And.intro
 ·rintro w' ⟨k0, k1⟩
  apply VR.mk
  go_simp
  with_reducible rfl
 simp only [List.setIfInBounds_toArray, List.set_cons_zero, List.set_cons_succ]
 refine mix_nil ?_
 go_wp2
 refine wp_loop_rounds 1 ?_
 rw [rounds_succ]
 go_wp2
 refine bodyPost_end (results_none rfl _ _ _) rfl ?_
 exact ⟨rfl, qW2b⟩
end Go.Proofs.Ytpphpcmbpbppoaa.Mach
end
section
namespace Go.Proofs.Ytpphpcmbpbppoaa.CalmD
open Go Go.RowKit
set_option linter.unusedVariables false
section
variable {P : Program} {ops : Array Oper} {C : World → Prop} {B : List PanicEntry → World → Prop} {D : Option Nat} {E : Act → Prop}
def calmR (P : Program) (C : World → Prop) (B : List PanicEntry → World → Prop) (w : World) (v : Value) : Result Next → Prop
 | .ok (.value u) w' => w' = w ∧ u = v
 | .ok .skip w' => w' = w ∧ undef = v
 | .ok (.enter f args) w' => w' = w ∧ Calls P f args w fun e w'' => (e = .returned v ∧ C w'') ∨ ∃ ch, e = .panicked ch ∧ B ch w''
 | _ => False
def calmAt (P : Program) (C : World → Prop) (B : List PanicEntry → World → Prop) (o : Oper) (a : Act) (v : Value) (w : World) : Prop := calmR P C B w v ((execOp a.eval o).run P w)
def Gives (P : Program) (ops : Array Oper) (C : World → Prop) (B : List PanicEntry → World → Prop) (o : Oper) (v : Value) (a : Act) : Prop :=
 (Region.wanted o (yielded ops a.tmps) = true ∧ ∀ w, C w → calmAt P C B o a v w) ∨ (Region.wanted o (yielded ops a.tmps) = false ∧ v = undef)
def doomR (P : Program) (B : List PanicEntry → World → Prop) (w : World) : Result Next → Prop
 | .ok (.enter f args) w' => w' = w ∧ Calls P f args w fun e w'' => ∃ ch, e = .panicked ch ∧ B ch w''
 | .halt (.panic v) w' => B [{ v, recovered := false }] w'
 | _ => False
def Doomed (P : Program) (ops : Array Oper) (C : World → Prop) (B : List PanicEntry → World → Prop) (o : Oper) (a : Act) : Prop :=
 Region.wanted o (yielded ops a.tmps) = true ∧ ∀ w, C w → doomR P B w ((execOp a.eval o).run P w)
def DoomAt (P : Program) (ops : Array Oper) (C : World → Prop) (B : List PanicEntry → World → Prop) (i : Nat) (a : Act) : Prop := ∃ o, ops[i]? = some o ∧ Doomed P ops C B o a
def anyC (P : Program) (ops : Array Oper) (C : World → Prop) (B : List PanicEntry → World → Prop) (D : Option Nat) (E : Act → Prop) : Nat → Array Bool → Act → Prop
 | 0, ls, a => Region.ready .any ops ls = [] ∧ E a
 | n + 1, ls, a => (Region.ready .any ops ls = [] → E a) ∧ ∀ i ∈ Region.ready .any ops ls,
   (D = some i ∧ DoomAt P ops C B i a) ∨ (D ≠ some i ∧ ∃ o, ops[i]? = some o ∧ ∃ v, Gives P ops C B o v a ∧ anyC P ops C B D E n (ls.setIfInBounds i true) (a.put o.dst v))
theorem put_defers (a : Act) (d : Option Tmp) (v : Value) : (a.put d v).defers = a.defers := by cases d <;> rfl
theorem any_sound {Q : Exit → Act → World → Prop} {df : List Deferred} (hE : ∀ a w, C w → E a → Q .normal a w) (hB : ∀ ch a w, a.defers = df → B ch w → Q (.panic ch) a w) :
  ∀ (n : Nat) (ls : Array Bool) (a : Act) (w : World), a.defers = df → C w → anyC P ops C B D E n ls a → wpAny P .any ops Q n ls a w
 | 0, _, _, _, _, hw, h => ⟨h.1, hE _ _ hw h.2⟩
 | n + 1, ls, a, w, hdf, hw, h => by
  refine ⟨fun h0 => hE _ _ hw (h.1 h0), fun i hi => ?_⟩
  unfold wpOp
  rcases h.2 i hi with ⟨_, o, ho, hwant, hd⟩ | ⟨_, o, ho, v, hg, hn⟩
  ·simp only [ho, hwant, if_true]
   refine .inl ?_
   have hdw := hd w hw
   unfold Oper.wp
   generalize (execOp a.eval o).run P w = r at *
   cases r with
   | halt x w' =>
    cases x with
    | panic v => exact hB _ _ _ hdf hdw
    | _ => exact hdw.elim
   | ok nx w' =>
    cases nx with
    | enter f args =>
     obtain ⟨e1, hc⟩ := hdw
     simp only [Oper.upon]
     rw [e1]
     refine hc.mono fun e w'' ⟨ch, he, hb⟩ => ?_
     subst he
     exact hB ch _ _ hdf hb
    | _ => exact hdw.elim
  ·simp only [ho]
   rcases hg with ⟨hwant, hv⟩ | ⟨hwant, rfl⟩
   ·simp only [hwant, if_true]
    refine .inl ?_
    have hvw := hv w hw
    unfold calmAt at hvw
    unfold Oper.wp
    generalize (execOp a.eval o).run P w = r at *
    cases r with
    | halt x w' => exact hvw.elim
    | ok nx w' =>
     cases nx with
     | value u =>
      obtain ⟨e1, e2⟩ := hvw
      simp only [Oper.upon]
      rw [e1, e2]
      exact any_sound hE hB n _ _ _ ((put_defers _ _ _).trans hdf) hw hn
     | skip =>
      obtain ⟨e1, e2⟩ := hvw
      simp only [Oper.upon]
      rw [e1, e2]
      exact any_sound hE hB n _ _ _ ((put_defers _ _ _).trans hdf) hw hn
     | enter f args =>
      obtain ⟨e1, hc⟩ := hvw
      simp only [Oper.upon]
      rw [e1]
      refine hc.mono fun e w'' hh => ?_
      rcases hh with ⟨he, hw''⟩ | ⟨ch, he, hb⟩
      ·subst he
       exact any_sound hE hB n _ _ _ ((put_defers _ _ _).trans hdf) hw'' hn
      ·subst he
       exact hB ch _ _ hdf hb
     | _ => exact hvw.elim
   ·simp only [hwant, Bool.false_eq_true, if_false]
    exact any_sound hE hB n _ _ _ ((put_defers _ _ _).trans hdf) hw hn
theorem Gives.put {o o' : Oper} {a : Act} {v u : Value} (hs : ∀ cs b, o.op ≠ .select cs b) (h : ∀ d, o'.dst = some d → d ∉ o.looksAt ops) :
  Gives P ops C B o v (a.put o'.dst u) ↔ Gives P ops C B o v a := by
 unfold Gives calmAt
 rw [execOp_put o hs a o'.dst u h, wanted_put o a o'.dst u h]
theorem Doomed.put {o o' : Oper} {a : Act} {u : Value} (hs : ∀ cs b, o.op ≠ .select cs b) (h : ∀ d, o'.dst = some d → d ∉ o.looksAt ops) :
  Doomed P ops C B o (a.put o'.dst u) ↔ Doomed P ops C B o a := by
 unfold Doomed
 rw [execOp_put o hs a o'.dst u h, wanted_put o a o'.dst u h]
theorem any_first {i : Nat} {oi : Oper} {v : Value} (hi : ops[i]? = some oi) (hD : D ≠ some i) (hsel : ∀ (j : Nat) (o : Oper) cs b, ops[j]? = some o → o.op ≠ .select cs b) :
  ∀ (n : Nat) (ls : Array Bool) (a : Act),
   (∀ j oj, ops[j]? = some oj → j ≠ i → ls.getD j true = false → (∀ e ∈ oj.after, Region.binds .any e = true → e.on ≠ i) → oi.apart ops oj = true) →
   i ∈ Region.ready .any ops ls → Gives P ops C B oi v a → anyC P ops C B D E n (ls.setIfInBounds i true) (a.put oi.dst v) → anyC P ops C B D E (n + 1) ls a := by
 intro n
 induction n with
 | zero =>
  intro ls a _ hr hy H
  refine ⟨fun h => (by rw [h] at hr; cases hr), fun j hj => ?_⟩
  by_cases hji : j = i
  ·subst hji; exact .inr ⟨hD, oi, hi, v, hy, H⟩
  ·have := ready_mono hj hji
   rw [H.1] at this
   cases this
 | succ n ih =>
  intro ls a hfree hr hy H
  refine ⟨fun h => (by rw [h] at hr; cases hr), fun j hj => ?_⟩
  by_cases hji : j = i
  ·subst hji; exact .inr ⟨hD, oi, hi, v, hy, H⟩
  obtain ⟨hjun, oj, hoj, hall⟩ := mem_ready.1 hj
  have hnot : ∀ e ∈ oj.after, Region.binds .any e = true → e.on ≠ i := by
   intro e he hb heq
   have h1 := hall e he hb
   have h0 := (mem_ready.1 hr).1
   rw [heq] at h1
   rcases Nat.lt_or_ge i ls.size with h' | h'
   ·simp [h'] at h0 h1; rw [h0] at h1; cases h1
   ·simp [Array.getElem?_eq_none h'] at h1
  obtain ⟨a1, a2, a3⟩ := Oper.apart_spec (hfree j oj hoj hji hjun hnot)
  have si := fun cs b => hsel i oi cs b hi
  have sj := fun cs b => hsel j oj cs b hoj
  rcases H.2 j (ready_mono hj hji) with ⟨hd, o, ho, hdo⟩ | ⟨hd, o, ho, u, hu, hn⟩
  ·obtain rfl : o = oj := Option.some.inj (ho.symm.trans hoj)
   exact .inl ⟨hd, o, ho, (Doomed.put sj a1).1 hdo⟩
  ·obtain rfl : o = oj := Option.some.inj (ho.symm.trans hoj)
   refine .inr ⟨hd, o, ho, u, (Gives.put sj a1).1 hu, ih (ls.setIfInBounds j true) (a.put o.dst u) ?_ (ready_mono hr (Ne.symm hji)) ((Gives.put si a3).2 hy) ?_⟩
   ·intro k ok hk hki hun hno
    refine hfree k ok hk hki ?_ hno
    by_cases hjk : j = k
    ·subst hjk; exact hjun
    ·rwa [getD_set_ne true hjk] at hun
   ·rw [Array.setIfInBounds_comm _ _ hji, ← Act.put_comm a v u a2]
    exact hn
def walk (P : Program) (ops : Array Oper) (C : World → Prop) (B : List PanicEntry → World → Prop) (Q : Act → Prop) : List Nat → Act → Prop
 | [], a => Q a
 | k :: ks, a => ∃ o, ops[k]? = some o ∧ ∃ v, Gives P ops C B o v a ∧ walk P ops C B Q ks (a.put o.dst v)
def lexK (ops : Array Oper) (D : Option Nat) : List Nat → Array Bool → Bool
 | [], ls => match D with | none => (Region.ready .any ops ls).isEmpty | some d => (Region.ready .any ops ls) == [d]
 | k :: ks, ls => (Region.ready .any ops ls).contains k && Region.free .any ops ls k && (D != some k) && lexK ops D ks (ls.setIfInBounds k true)
def Behind (P : Program) (ops : Array Oper) (C : World → Prop) (B : List PanicEntry → World → Prop) (D : Option Nat) (E : Act → Prop) (a : Act) : Prop :=
 match D with | none => E a | some d => DoomAt P ops C B d a
theorem any_lex (hs : Region.noSelect ops = true) (hE : D ≠ none → ∀ a, E a → False) : ∀ (ks : List Nat) (n : Nat) (ls : Array Bool) (a : Act), ks.length ≤ n → (D ≠ none → ks.length < n) →
  lexK ops D ks ls = true → walk P ops C B (Behind P ops C B D E) ks a → anyC P ops C B D E n ls a
 | [], n, ls, a, hn, hn', hB, h => by
  unfold lexK at hB
  simp only [walk, Behind] at h
  cases D with
  | none =>
   simp only [List.isEmpty_iff] at hB
   cases n with
   | zero => exact ⟨hB, h⟩
   | succ n => exact ⟨fun _ => h, fun i hi => (by rw [hB] at hi; cases hi)⟩
  | some d =>
   have hr : Region.ready .any ops ls = [d] := by simpa using hB
   cases n with
   | zero => exact absurd (hn' (by simp)) (by simp)
   | succ n =>
    refine ⟨fun h0 => (by rw [hr] at h0; cases h0), fun i hi => ?_⟩
    rw [hr] at hi
    obtain rfl : i = d := by simpa using hi
    exact .inl ⟨rfl, h⟩
 | k :: ks, n, ls, a, hn, hn', hB, h => by
  simp only [lexK, Bool.and_eq_true, bne_iff_ne] at hB
  obtain ⟨⟨⟨hr, hf⟩, hd⟩, hB'⟩ := hB
  obtain ⟨o, ho, v, hg, hw⟩ := h
  cases n with
  | zero => simp at hn
  | succ n =>
   exact any_first ho hd (Region.noSelect_spec hs) n ls a (Region.free_spec ho hf) (by simpa using hr) hg
    (any_lex hs hE ks n _ _ (by simpa using hn) (fun h0 => by have := hn' h0; simpa using this) hB' hw)
theorem region_calm {id : Nat} {Q : Exit → Act → World → Prop} {a : Act} {w : World} {l : List Oper} (C : World → Prop) (B : List PanicEntry → World → Prop) (hm : P.follows .mixedOrders = true) (hs : Region.noSelect l.toArray = true)
  (hB : lexK l.toArray none (List.range l.length) (Array.replicate l.length false) = true) (hC : C w.drew) (hP : ∀ ch a' w, a'.defers = a.defers → B ch w → Q (.panic ch) a' w)
  (h : walk P l.toArray C B (fun a' => ∀ w', C w' → Q .normal a' w') (List.range l.length) a) : (Code.region id l.toArray true).wp P Q a w := by
 refine wp_region_any hm ?_
 refine any_sound (D := none) (E := fun a' => ∀ w', C w' → Q .normal a' w') (fun a' w' hw h' => h' w' hw) hP _ _ _ _ rfl hC ?_
 exact any_lex hs (fun h0 => absurd rfl h0) (List.range l.length) l.length _ a (by simp) (fun h0 => absurd rfl h0) (by simpa using hB) h
theorem region_doomed {id : Nat} {Q : Exit → Act → World → Prop} {a : Act} {w : World} {l : List Oper} (C : World → Prop) (B : List PanicEntry → World → Prop) (d : Nat) (ks : List Nat) (hm : P.follows .mixedOrders = true) (hs : Region.noSelect l.toArray = true)
  (hB : (lexK l.toArray (some d) ks (Array.replicate l.length false) && decide (ks.length < l.length)) = true) (hC : C w.drew) (hP : ∀ ch a' w, a'.defers = a.defers → B ch w → Q (.panic ch) a' w)
  (h : walk P l.toArray C B (DoomAt P l.toArray C B d) ks a) : (Code.region id l.toArray true).wp P Q a w := by
 refine wp_region_any hm ?_
 simp only [Bool.and_eq_true, decide_eq_true_eq] at hB
 refine any_sound (D := some d) (E := fun _ => False) (fun _ _ _ h' => h'.elim) hP _ _ _ _ rfl hC ?_
 refine any_lex hs (fun _ _ h' => h') ks l.toArray.size _ a (by simpa using Nat.le_of_lt hB.2) (fun _ => by simpa using hB.2) (by simpa using hB.1) ?_
 exact h
structure R (P : Program) (C : World → Prop) (B : List PanicEntry → World → Prop) (w : World) (v : Value) (r : Result Next) : Prop where
 mk :: (out : calmR P C B w v r)
structure DR (P : Program) (B : List PanicEntry → World → Prop) (w : World) (r : Result Next) : Prop where
 mk :: (out : doomR P B w r)
theorem walk_nil {Q : Act → Prop} {a : Act} (h : Q a) : walk P ops C B Q [] a := h
theorem walk_ex {Q : Act → Prop} {a : Act} {k : Nat} {ks : List Nat} {o : Oper} {d : Tmp} (ho : ops[k]? = some o) (hd : o.dst = some d) (hw : Region.wanted o (yielded ops a.tmps) = true)
  (h : ∃ v, (∀ w, C w → R P C B w v ((execOp a.eval o).run P w)) ∧ walk P ops C B Q ks { tmps := a.tmps.setIfInBounds d v, defers := a.defers }) : walk P ops C B Q (k :: ks) a :=
 let ⟨v, h1, h2⟩ := h; ⟨o, ho, v, .inl ⟨hw, fun w hw => (h1 w hw).out⟩, by rw [hd]; exact h2⟩
theorem walk_doom {a : Act} {d : Nat} {o : Oper} (ho : ops[d]? = some o) (hw : Region.wanted o (yielded ops a.tmps) = true) (h : ∀ w, C w → DR P B w ((execOp a.eval o).run P w)) : walk P ops C B (DoomAt P ops C B d) [] a :=
 ⟨o, ho, hw, fun w hw => (h w hw).out⟩
theorem calm_value {w : World} {v : Value} {r : Result Next} (h : r = .ok (.value v) w) : R P C B w v r := by rw [h]; exact ⟨⟨rfl, rfl⟩⟩
theorem calm_call {w : World} {v : Value} {f : FuncId} {args : Array Value} {r : Result Next} (h : r = .ok (.enter f args) w)
  (hc : Calls P f args w fun e w'' => (e = .returned v ∧ C w'') ∨ ∃ ch, e = .panicked ch ∧ B ch w'') : R P C B w v r := by rw [h]; exact ⟨⟨rfl, hc⟩⟩
theorem doom_panic {w w' : World} {v : Value} {r : Result Next} (h : r = .halt (.panic v) w') (hb : B [{ v, recovered := false }] w') : DR P B w r := by rw [h]; exact ⟨hb⟩
theorem doom_call {w : World} {f : FuncId} {args : Array Value} {r : Result Next} (h : r = .ok (.enter f args) w)
  (hc : Calls P f args w fun e w'' => ∃ ch, e = .panicked ch ∧ B ch w'') : DR P B w r := by rw [h]; exact ⟨⟨rfl, hc⟩⟩
end
end Go.Proofs.Ytpphpcmbpbppoaa.CalmD
end
