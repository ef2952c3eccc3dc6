/- Steps toward the laws of the parser (P), merged from several texts (some of them began as the kit's print). No condition. -/
import Derived.Shelf.Small.Strs
import Derived.Shelf.Strings.Search1
import Derived.Shelf.Strings.Fields
import Derived.Shelf.LaysM
import Derived.Shelf.Strings.SplitShaped
import Derived.Test.YtngpgdmafmkddaaDoorProg
import Derived.Lib.AppendIntMem
import Derived.OwnWalk
import Derived.Test.YtngpgdmafmkddaaDoorZP1
section
namespace Go.Proofs.YtngpgdmafmkddaaDoor.Par
open Go.Proofs.YtngpgdmafmkddaaDoor.Calm Go.RowKit Go.Proofs.YtngpgdmafmkddaaDoorW.PrintWords Go.Proofs.YtngpgdmafmkddaaDoorW.PrintLast Go.Proofs.YtngpgdmafmkddaaDoorW.PrintMore
open Go.Proofs.YtngpgdmafmkddaaDoor.PParseBlanks (S35 S25 S27 k35 k25 k27 rd_T35 rd_T25 rd_T27 at_T35 at_T25 at_T27)
set_option linter.unusedVariables false
set_option linter.unusedSimpArgs false
open Go.Maps Go.WideMaps
theorem ER_go {w : World} {f : FuncId} {args : Array Value} {r : Result Next} (h : r = .ok (.enter f args) w) : ER w f args r := ⟨h⟩
theorem rkD_eq : rkD (rkPrs 9 0) = .map [(.string [33, 61], .lit (.int .i64 3)), (.string [37], .lit (.int .i64 9)), (.string [38], .lit (.int .i64 6)), (.string [38, 38], .lit (.int .i64 2)), (.string [42], .lit (.int .i64 9)), (.string [43], .lit (.int .i64 8)), (.string [45], .lit (.int .i64 8)), (.string [47], .lit (.int .i64 9)), (.string [60], .lit (.int .i64 3)), (.string [60, 60], .lit (.int .i64 7)), (.string [60, 61], .lit (.int .i64 3)), (.string [61, 61], .lit (.int .i64 3)), (.string [62], .lit (.int .i64 3)), (.string [62, 61], .lit (.int .i64 3)), (.string [62, 62], .lit (.int .i64 7)), (.string [94], .lit (.int .i64 5)), (.string [124], .lit (.int .i64 4)), (.string [124, 124], .lit (.int .i64 1))] := by kernel_rfl
theorem rk_at (l : List UInt8) : (rkD (rkPrs 9 0)).atKey (.string l) (.lit (.int .i64 0)) = .lit (.int .i64 (rankOf l)) := by
 rw [rkD_eq]
 by_cases h0 : l = [124, 124]
 ·subst h0; rfl
 by_cases h1 : l = [38, 38]
 ·subst h1; rfl
 by_cases h2 : l = [61, 61]
 ·subst h2; rfl
 by_cases h3 : l = [33, 61]
 ·subst h3; rfl
 by_cases h4 : l = [60]
 ·subst h4; rfl
 by_cases h5 : l = [60, 61]
 ·subst h5; rfl
 by_cases h6 : l = [62]
 ·subst h6; rfl
 by_cases h7 : l = [62, 61]
 ·subst h7; rfl
 by_cases h8 : l = [124]
 ·subst h8; rfl
 by_cases h9 : l = [94]
 ·subst h9; rfl
 by_cases h10 : l = [38]
 ·subst h10; rfl
 by_cases h11 : l = [60, 60]
 ·subst h11; rfl
 by_cases h12 : l = [62, 62]
 ·subst h12; rfl
 by_cases h13 : l = [43]
 ·subst h13; rfl
 by_cases h14 : l = [45]
 ·subst h14; rfl
 by_cases h15 : l = [42]
 ·subst h15; rfl
 by_cases h16 : l = [47]
 ·subst h16; rfl
 by_cases h17 : l = [37]
 ·subst h17; rfl
 have e : rankOf l = 0 := by unfold rankOf; rw [if_neg h0, if_neg h1, if_neg h2, if_neg h3, if_neg h4, if_neg h5, if_neg h6, if_neg h7, if_neg h8, if_neg h9, if_neg h10, if_neg h11, if_neg h12, if_neg h13, if_neg h14, if_neg h15, if_neg h16, if_neg h17]
 rw [e]
 have g0 := Ne.symm h0
 have g1 := Ne.symm h1
 have g2 := Ne.symm h2
 have g3 := Ne.symm h3
 have g4 := Ne.symm h4
 have g5 := Ne.symm h5
 have g6 := Ne.symm h6
 have g7 := Ne.symm h7
 have g8 := Ne.symm h8
 have g9 := Ne.symm h9
 have g10 := Ne.symm h10
 have g11 := Ne.symm h11
 have g12 := Ne.symm h12
 have g13 := Ne.symm h13
 have g14 := Ne.symm h14
 have g15 := Ne.symm h15
 have g16 := Ne.symm h16
 have g17 := Ne.symm h17
 simp [Maps.has, DataW.atKey, Lit.sameKey, g0, g1, g2, g3, g4, g5, g6, g7, g8, g9, g10, g11, g12, g13, g14, g15, g16, g17]
theorem kind_ps' {g : Nat} {e : Int} {l : List S35} {w : World} (H : PS w g l e) : Calls Tryd.prog 19 #[.pointer (some ⟨g, 0, none⟩)] w fun en w' => en = .returned (.int .i64 (kindP l)) ∧ Below w.heap.size w w' := let ⟨A, c, h⟩ := H; kind_said g l e A c w h
set_option maxRecDepth 100000 in
set_option maxHeartbeats 2000000 in
theorem rank_ok : RankOK := by
 intro g e l w HP
 have HPP := Aside0.mk HP
 by_cases hk : kindP l = 4
 ·cases l with
  | nil => exact absurd hk (by decide)
  | cons t r =>
   have hr : rankP (t :: r) = rankOf t.f1.toList := if_pos hk
   have HR := Aside0.mk hr
   have HKK := Aside0.mk hk
   clear hk hr HP
   go_enter Tryd.func53, Tryd.ntmps53
   go_wp2_with (
    go_at_call 19
    (with_reducible refine Calls.mono (kind_ps' HPP.out) ?_)
    rintro en w1 ⟨he, hb⟩
    rw [HKK.out] at he
    subst he)
   have hb1 := below_drew hb
   have HP1 := HPP.out.below hb1
   obtain ⟨W, hW⟩ : ∃ W, w1.drew = W := ⟨_, rfl⟩
   rw [hW] at HP1 hb1
   obtain ⟨A, c, HQ⟩ := HP1
   obtain ⟨ad, rfl, r0, r1, r2⟩ := tok0 HQ.toks
   have c0 := HQ.has.cell 0
   simp only [List.getElem?_toArray, List.getElem?_cons_zero, List.getElem?_cons_succ] at c0
   have hsz : t.f1.size < 4611686018427387904 := HQ.le.2 t List.mem_cons_self
   have hl : (0 : Int) < ((t :: r).length : Int) := by simp
   refine region_treeQ (by kernel_rfl) (fun w' => w'.cell? ⟨g, 0, none⟩ = some (.slice (some ad) (t :: r).length c) ∧ w'.cell? ⟨ad.block, ad.off + 1, none⟩ = some (.string t.f1)) (hW ▸ ⟨c0, r1⟩) fun hS => ?_
   rw [hW] at hS ⊢
   clear hW
   refine treeQ_h (by
    intro c a a' w1 hd h
    simp +zetaDelta only [Exit.then, Exit.inBlock, bodyPost] at h ⊢
    simp at h) hS (i := 1) (by kernel_rfl) (by rfl) (by rfl) (by kernel_rfl) (by rfl) ?_
   apply Exists.intro
   apply And.intro
   ·rintro w' ⟨k1, k2⟩
    apply VR.mk
    go_simp
    with_reducible rfl
   simp only [List.setIfInBounds_toArray, List.set_cons_zero, List.set_cons_succ]
   refine treeQ_h (by
    intro c a a' w1 hd h
    simp +zetaDelta only [Exit.then, Exit.inBlock, bodyPost] at h ⊢
    simp at h) hS (i := 2) (by kernel_rfl) (by rfl) (by rfl) (by kernel_rfl) (by rfl) ?_
   apply Exists.intro
   apply And.intro
   ·rintro w' ⟨k1, k2⟩
    apply VR.mk
    go_simp
    with_reducible rfl
   simp only [List.setIfInBounds_toArray, List.set_cons_zero, List.set_cons_succ]
   refine treeQ_h (by
    intro c a a' w1 hd h
    simp +zetaDelta only [Exit.then, Exit.inBlock, bodyPost] at h ⊢
    simp at h) hS (i := 3) (by kernel_rfl) (by rfl) (by rfl) (by kernel_rfl) (by rfl) ?_
   apply Exists.intro
   apply And.intro
   ·rintro w' ⟨k1, k2⟩
    apply VR.mk
    go_simp
    with_reducible rfl
   simp only [List.setIfInBounds_toArray, List.set_cons_zero, List.set_cons_succ]
   refine treeQ_h (by
    intro c a a' w1 hd h
    simp +zetaDelta only [Exit.then, Exit.inBlock, bodyPost] at h ⊢
    simp at h) hS (i := 4) (by kernel_rfl) (by rfl) (by rfl) (by kernel_rfl) (by rfl) ?_
   apply Exists.intro
   apply And.intro
   ·rintro w' ⟨k1, k2⟩
    apply VR.mk
    go_simp
    with_reducible rfl
   simp only [List.setIfInBounds_toArray, List.set_cons_zero, List.set_cons_succ]
   refine treeQ_h (by
    intro c a a' w1 hd h
    simp +zetaDelta only [Exit.then, Exit.inBlock, bodyPost] at h ⊢
    simp at h) hS (i := 5) (by kernel_rfl) (by rfl) (by rfl) (by kernel_rfl) (by rfl) ?_
   apply Exists.intro
   apply And.intro
   ·rintro w' ⟨k1, k2⟩
    apply VR.mk
    go_simp
    with_reducible rfl
   simp only [List.setIfInBounds_toArray, List.set_cons_zero, List.set_cons_succ]
   refine treeQ_h (by
    intro c a a' w1 hd h
    simp +zetaDelta only [Exit.then, Exit.inBlock, bodyPost] at h ⊢
    simp at h) hS (i := 6) (by kernel_rfl) (by rfl) (by rfl) (by kernel_rfl) (by rfl) ?_
   apply Exists.intro
   apply And.intro
   ·rintro w' ⟨k1, k2⟩
    apply VR.mk
    go_simp
    with_reducible rfl
   simp only [List.setIfInBounds_toArray, List.set_cons_zero, List.set_cons_succ]
   refine treeQ_h (by
    intro c a a' w1 hd h
    simp +zetaDelta only [Exit.then, Exit.inBlock, bodyPost] at h ⊢
    simp at h) hS (i := 7) (by kernel_rfl) (by rfl) (by rfl) (by kernel_rfl) (by rfl) ?_
   apply Exists.intro
   apply And.intro
   ·rintro w' ⟨k1, k2⟩
    apply VR.mk
    go_simp
    with_reducible rfl
   simp only [List.setIfInBounds_toArray, List.set_cons_zero, List.set_cons_succ]
   refine tree_1Q (i := 0) (by kernel_rfl) ?_
   refine step_callQ (by rfl) (by rfl) (by rfl) (ER_go (by go_simp; with_reducible exact ⟨rfl, rfl⟩)) ?_
   refine (ranks_said W).mono ?_
   rintro en w2 ⟨b, rfl, hm, hb2⟩
   have k1 := pwcb hb2 hS.1
   have k2 := pwcb hb2 hS.2
   refine .inl ⟨_, rfl, ⟨k1, k2⟩, ?_⟩
   simp only [List.setIfInBounds_toArray, List.set_cons_zero, List.set_cons_succ]
   refine tree_1Q (i := 8) (by kernel_rfl) ?_
   refine step_list (by rfl) ?_
   refine wpList_lookup_own_int _ rfl (.tmp 6) (.tmp 13) 101 rfl 9 3 .i64 law9 Tryd.underlying101 Tryd.underlying3 (by kernel_rfl) b 18 _ rfl hm (.string t.f1) _ rfl (keyOf_string_mk Tryd.underlying9 (by unfold maxLen; omega)) ?_
   intro c9 hat hwf
   obtain rfl : c9 = rankOf t.f1.toList := by
    have h := hat.symm.trans (rk_at t.f1.data.toList)
    injection h with h
    injection h with _ h
    rw [ByteArray.toList_eq]
    exact h
   refine ⟨⟨k1, k2⟩, ?_⟩
   simp only [Act.put, List.setIfInBounds_toArray, List.set_cons_zero, List.set_cons_succ]
   refine tree_1Q (i := 9) (by kernel_rfl) ?_
   refine step_list (by rfl) ?_
   go_wp2
   refine ⟨⟨k1, k2⟩, tree_endQ (by kernel_rfl) ?_⟩
   go_wp2
   go_ret
   rw [HR.out]
   exact ⟨rfl, below_then hb1 hb1.size hb2⟩
 ·have hr : rankP l = 0 := by cases l with | nil => rfl | cons t r => exact if_neg hk
  have hkb : (kindP l != 4) = true := by simp [hk]
  have HR := Aside0.mk hr
  obtain ⟨q, hq⟩ : ∃ q, kindP l = q := ⟨_, rfl⟩
  rw [hq] at hkb
  have HQ := Aside0.mk hq
  clear hk hr HP hq
  go_enter Tryd.func53, Tryd.ntmps53
  go_wp2_with (
    go_at_call 19
    (with_reducible refine Calls.mono (kind_ps' HPP.out) ?_)
    rintro en w1 ⟨he, hb⟩
    rw [HQ.out] at he
    subst he)
  go_ret
  rw [HR.out]
  exact ⟨rfl, hb⟩
end Go.Proofs.YtngpgdmafmkddaaDoor.Par
end
section
namespace Go.Proofs.YtngpgdmafmkddaaDoor.Lex
open Go.Proofs.YtngpgdmafmkddaaDoor.Calm Go.Proofs.YtngpgdmafmkddaaDoor.Par Go.RowKit Go.Proofs.YtngpgdmafmkddaaDoorW.PrintWords Go.Proofs.YtngpgdmafmkddaaDoorW.PrintLast Go.Proofs.YtngpgdmafmkddaaDoorW.PrintMore
open Go.Proofs.YtngpgdmafmkddaaDoor.PParseBlanks (S35 S25 S27 k35 k25 k27 rd_T35 rd_T25 rd_T27 at_T35 at_T25 at_T27)
set_option linter.unusedVariables false
set_option linter.unusedSimpArgs false
abbrev fromN (s : ByteArray) (at_ : Nat) : List UInt8 := s.data.toList.drop at_
def spanL (p : Int → Bool) : List UInt8 → Nat
 | [] => 0
 | b :: r => if p (b.toNat : Int) = true then spanL p r + 1 else 0
theorem bt_get {s : ByteArray} {i : Nat} (h : i < s.size) : ∃ b : UInt8, (fromN s i) = b :: fromN s (i + 1) ∧ bt s (i : Int) = (b.toNat : Int) := by
 have h1 : i < s.data.toList.length := by simpa using h
 refine ⟨s.data.toList[i], List.drop_eq_getElem_cons h1, ?_⟩
 unfold bt
 rw [dif_pos (show (i : Int).toNat < s.size by simpa using h)]
 rfl
theorem from_end {s : ByteArray} {i : Nat} (h : s.size ≤ i) : fromN s i = [] := List.drop_eq_nil_of_le (by simpa using h)
theorem spanL_eq {p : Int → Bool} {s : ByteArray} (at_ : Nat) : ∀ n : Nat, at_ + n ≤ s.size → (∀ j : Nat, j < n → p (bt s ((at_ + j : Nat) : Int)) = true) → (at_ + n = s.size ∨ p (bt s ((at_ + n : Nat) : Int)) = false) → spanL p (fromN s at_) = n := by
 intro n
 induction n generalizing at_ with
 | zero =>
  intro h1 h2 h3
  by_cases h : at_ < s.size
  ·obtain ⟨b, e, hb⟩ := bt_get h
   rw [e, spanL]
   rcases h3 with h3 | h3
   ·omega
   ·rw [Nat.add_zero, hb] at h3
    rw [if_neg (by rw [h3]; decide)]
  ·rw [from_end (by omega), spanL]
 | succ n ih =>
  intro h1 h2 h3
  obtain ⟨b, e, hb⟩ := bt_get (s := s) (i := at_) (by omega)
  rw [e, spanL]
  have h0 := h2 0 (by omega)
  rw [Nat.add_zero, hb] at h0
  rw [if_pos h0, ih (at_ + 1) (by omega) (fun j hj => by have := h2 (j + 1) (by omega); rwa [show at_ + (j + 1) = at_ + 1 + j by omega] at this) (by rwa [show at_ + (n + 1) = at_ + 1 + n by omega] at h3)]
theorem spanL_le {p : Int → Bool} (l : List UInt8) : spanL p l ≤ l.length := by
 induction l with
 | nil => simp [spanL]
 | cons b r ih =>
  rw [spanL]
  split
  ·simp; omega
  ·simp
def Pred (k : Nat) (p : Int → Bool) : Prop := (∀ (c : Int) (w : World), 0 ≤ c → c ≤ 255 → Calls Tryd.prog k #[.int .u8 c] w fun e w' => e = .returned (.bool (p c)) ∧ Below w.heap.size w w') ∧ ∀ (c : Int) (w : World), (callFunc k #[.int .u8 c]).run Tryd.prog w = .ok (.enter k #[.int .u8 c]) w
theorem Drawn0.below {w w' : World} (h : Drawn0 w w') : Below w.heap.size w w' := by
 obtain ⟨n, rfl⟩ := h.out
 exact ⟨rfl, rfl, rfl, Nat.le_refl _, fun _ _ => rfl⟩
def isBlank (c : Int) : Bool := (c == 32) || (c == 9) || (c == 10) || (c == 13)
def notNl (c : Int) : Bool := c != 10
def isPartB (c : Int) : Bool := (c == 95) || (decide (Go.bits .or .u8 c 32 ≥ 97) && decide (Go.bits .or .u8 c 32 ≤ 122)) || isDig c
theorem blank_pred : Pred 32 isBlank := by
 refine ⟨fun c w h0 h1 => ?_, fun c w => by kernel_rfl⟩
 go_enter Tryd.func32, Tryd.ntmps32
 by_cases h32 : c = 32
 ·subst h32
  go_wp2
  go_ret
  exact ⟨rfl, Below.refl _ _⟩
 have e32 : (c == 32) = false := by simp [h32]
 by_cases h9 : c = 9
 ·subst h9
  go_wp2
  go_ret
  exact ⟨rfl, Below.refl _ _⟩
 have e9 : (c == 9) = false := by simp [h9]
 by_cases h10 : c = 10
 ·subst h10
  go_wp2
  go_ret
  exact ⟨rfl, Below.refl _ _⟩
 have e10 : (c == 10) = false := by simp [h10]
 obtain ⟨b, hb⟩ : ∃ b, (c == 13) = b := ⟨_, rfl⟩
 go_wp2
 go_ret
 exact ⟨by rw [← hb]; simp [isBlank, h32, h9, h10], Below.refl _ _⟩
theorem nl_pred : Pred 34 notNl := by
 refine ⟨fun c w h0 h1 => ?_, fun c w => by kernel_rfl⟩
 go_enter Tryd.func34, Tryd.ntmps34
 go_wp2
 go_ret
 exact ⟨rfl, Below.refl _ _⟩
theorem part_f (c : Int) : PParseBlanks.lex_isPart.f c = some (isPartB c) := by
 unfold PParseBlanks.lex_isPart.f PParseBlanks.lex_isLetter.f isPartB
 rw [dig_f]
 by_cases h : c = 95
 ·simp [h]
 ·have h' : (c == 95) = false := by simp [h]
  by_cases h2 : Go.bits .or .u8 c 32 ≥ 97
  ·by_cases h3 : Go.bits .or .u8 c 32 ≤ 122 <;> simp [h, h2, h3]
  ·simp [h, h2]
theorem part_pred : Pred 35 isPartB := ⟨fun c w h0 h1 => (PParseBlanks.lex_isPart.calls c _ w (part_f c)).mono fun e w' h => ⟨h.1, Drawn0.below h.2⟩, fun c w => by kernel_rfl⟩
abbrev lxC (s : ByteArray) (at_ : Int) (mp : Value) : Array Value := #[.string s, .int .i64 at_, mp]
set_option maxRecDepth 100000 in
set_option maxHeartbeats 4000000 in
theorem span_said (k : Nat) (p : Int → Bool) (PK : Pred k p) (m : Nat) (s : ByteArray) (at_ : Nat) (mp : Value) (w : World) (H : Has w m (lxC s at_ mp) 65) (ha : at_ ≤ s.size) (hs : s.size < 4611686018427387904) :
  Calls Tryd.prog 31 #[.pointer (some ⟨m, 0, none⟩), .func (.func k) #[] #[]] w fun e w' => e = .returned (.int .i64 (spanL p (fromN s at_))) ∧ Below w.heap.size w w' := by
 have HP := Aside0.mk PK.1
 have hcf := PK.2
 have HH := Aside0.mk H
 have B0 := Aside0.mk (Below.refl w.heap.size w)
 clear PK H
 go_enter Tryd.func31, Tryd.ntmps31
 go_wp2
 go_loopw [5] (fun v wr => ∃ n : Nat, v = .int .i64 (n : Int) ∧ at_ + n ≤ s.size ∧ Aside0 (∀ j : Nat, j < n → p (bt s ((at_ + j : Nat) : Int)) = true) ∧ Aside0 (Below w.heap.size w wr)) (fun v _ => s.size - (intOf v).toNat)
 case atStart => exact ⟨0, rfl, by omega, ⟨fun j hj => by omega⟩, B0⟩
 case round =>
  clear B0
  obtain ⟨n, rfl, hn, HJ, HB⟩ := hrel
  have HD := Aside0.mk (below_drew HB.out)
  have H1 := HH.out.belowS HD.out
  have kw : IntKind.i64.wrap ((at_ : Int) + (n : Int)) = (at_ : Int) + (n : Int) := IntWalk.i64_in _ (by omega)
  have kw2 : wrap64 ((at_ : Int) + (n : Int)) = (at_ : Int) + (n : Int) := by unfold wrap64; omega
  obtain ⟨W, hW⟩ : ∃ W, wr.drew = W := ⟨_, rfl⟩
  rw [hW] at H1 HD
  go_wp2
  refine region_treeQ (by kernel_rfl) (fun w' => Has w' m (lxC s at_ mp) 65) (hW ▸ H1) fun hS => ?_
  rw [hW] at hS ⊢
  clear hW
  generalize hQQ : Exit.then _ _ = QQ
  have hsure : Sure QQ := by
   rw [← hQQ]
   intro c a a' w1 hd h
   simp +zetaDelta only [Exit.then, Exit.inBlock, bodyPost] at h ⊢
   first | (simp at h; done) | simpa [hd] using h
  by_cases hlt : at_ + n < s.size
  ·have hd : decide ((at_ : Int) + (n : Int) < (s.size : Int)) = true := decide_eq_true (by omega)
   refine treeQ_h hsure hS (i := 0) (by kernel_rfl) (by rfl) (by rfl) (by kernel_rfl) (by rfl) ?_
   apply Exists.intro
   apply And.intro
   ·rintro w' k1
    apply VR.mk
    go_simp
    with_reducible rfl
   simp only [List.setIfInBounds_toArray, List.set_cons_zero, List.set_cons_succ]
   refine treeQ_h hsure hS (i := 1) (by kernel_rfl) (by rfl) (by rfl) (by kernel_rfl) (by rfl) ?_
   apply Exists.intro
   apply And.intro
   ·rintro w' k1
    apply VR.mk
    go_simp
    with_reducible rfl
   simp only [List.setIfInBounds_toArray, List.set_cons_zero, List.set_cons_succ]
   refine treeQ_h hsure hS (i := 2) (by kernel_rfl) (by rfl) (by rfl) (by kernel_rfl) (by rfl) ?_
   apply Exists.intro
   apply And.intro
   ·rintro w' k1
    apply VR.mk
    go_simp
    with_reducible rfl
   simp only [List.setIfInBounds_toArray, List.set_cons_zero, List.set_cons_succ]
   refine treeQ_h hsure hS (i := 3) (by kernel_rfl) (by rfl) (by rfl) (by kernel_rfl) (by rfl) ?_
   apply Exists.intro
   apply And.intro
   ·rintro w' k1
    have cc0 := k1.cell 1
    simp only [List.getElem?_toArray, List.getElem?_cons_zero, List.getElem?_cons_succ] at cc0
    apply VR.mk
    go_simp
    with_reducible rfl
   simp only [List.setIfInBounds_toArray, List.set_cons_zero, List.set_cons_succ]
   refine treeQ_h hsure hS (i := 4) (by kernel_rfl) (by rfl) (by rfl) (by kernel_rfl) (by rfl) ?_
   apply Exists.intro
   apply And.intro
   ·rintro w' k1
    apply VR.mk
    go_simp
    with_reducible rfl
   simp only [List.setIfInBounds_toArray, List.set_cons_zero, List.set_cons_succ]
   refine treeQ_h hsure hS (i := 5) (by kernel_rfl) (by rfl) (by rfl) (by kernel_rfl) (by rfl) ?_
   apply Exists.intro
   apply And.intro
   ·rintro w' k1
    apply VR.mk
    go_simp
    with_reducible rfl
   simp only [List.setIfInBounds_toArray, List.set_cons_zero, List.set_cons_succ]
   try (first | rw [kw] | rw [kw2])
   refine treeQ_h hsure hS (i := 6) (by kernel_rfl) (by rfl) (by rfl) (by kernel_rfl) (by rfl) ?_
   apply Exists.intro
   apply And.intro
   ·rintro w' k1
    apply VR.mk
    go_simp
    with_reducible rfl
   simp only [List.setIfInBounds_toArray, List.set_cons_zero, List.set_cons_succ]
   refine treeQ_h hsure hS (i := 7) (by kernel_rfl) (by rfl) (by rfl) (by kernel_rfl) (by rfl) ?_
   apply Exists.intro
   apply And.intro
   ·rintro w' k1
    apply VR.mk
    go_simp
    with_reducible rfl
   simp only [List.setIfInBounds_toArray, List.set_cons_zero, List.set_cons_succ]
   refine treeQ_h hsure hS (i := 8) (by kernel_rfl) (by rfl) (by rfl) (by kernel_rfl) (by rfl) ?_
   apply Exists.intro
   apply And.intro
   ·rintro w' k1
    apply VR.mk
    go_simp
    with_reducible rfl
   simp only [List.setIfInBounds_toArray, List.set_cons_zero, List.set_cons_succ]
   refine treeQ_h hsure hS (i := 9) (by kernel_rfl) (by rfl) (by rfl) (by kernel_rfl) (by rfl) ?_
   apply Exists.intro
   apply And.intro
   ·rintro w' k1
    have cc0 := k1.cell 0
    simp only [List.getElem?_toArray, List.getElem?_cons_zero, List.getElem?_cons_succ] at cc0
    apply VR.mk
    go_simp
    with_reducible rfl
   simp only [List.setIfInBounds_toArray, List.set_cons_zero, List.set_cons_succ]
   refine treeQ_h hsure hS (i := 10) (by kernel_rfl) (by rfl) (by rfl) (by kernel_rfl) (by rfl) ?_
   apply Exists.intro
   apply And.intro
   ·rintro w' k1
    apply VR.mk
    go_simp
    with_reducible rfl
   simp only [List.setIfInBounds_toArray, List.set_cons_zero, List.set_cons_succ]
   refine treeQ_h hsure hS (i := 11) (by kernel_rfl) (by rfl) (by rfl) (by kernel_rfl) (by rfl) ?_
   apply Exists.intro
   apply And.intro
   ·rintro w' k1
    apply VR.mk
    go_simp
    with_reducible rfl
   simp only [List.setIfInBounds_toArray, List.set_cons_zero, List.set_cons_succ]
   refine treeQ_h hsure hS (i := 12) (by kernel_rfl) (by rfl) (by rfl) (by kernel_rfl) (by rfl) ?_
   apply Exists.intro
   apply And.intro
   ·rintro w' k1
    apply VR.mk
    go_simp
    with_reducible rfl
   simp only [List.setIfInBounds_toArray, List.set_cons_zero, List.set_cons_succ]
   refine treeQ_h hsure hS (i := 13) (by kernel_rfl) (by rfl) (by rfl) (by kernel_rfl) (by rfl) ?_
   apply Exists.intro
   apply And.intro
   ·rintro w' k1
    apply VR.mk
    go_simp
    with_reducible rfl
   simp only [List.setIfInBounds_toArray, List.set_cons_zero, List.set_cons_succ]
   refine treeQ_h hsure hS (i := 14) (by kernel_rfl) (by rfl) (by rfl) (by kernel_rfl) (by rfl) ?_
   apply Exists.intro
   apply And.intro
   ·rintro w' k1
    apply VR.mk
    go_simp
    with_reducible rfl
   simp only [List.setIfInBounds_toArray, List.set_cons_zero, List.set_cons_succ]
   refine treeQ_h hsure hS (i := 15) (by kernel_rfl) (by rfl) (by rfl) (by kernel_rfl) (by rfl) ?_
   apply Exists.intro
   apply And.intro
   ·rintro w' k1
    apply VR.mk
    go_simp
    with_reducible rfl
   simp only [List.setIfInBounds_toArray, List.set_cons_zero, List.set_cons_succ]
   refine treeQ_h hsure hS (i := 16) (by kernel_rfl) (by rfl) (by rfl) (by kernel_rfl) (by rfl) ?_
   apply Exists.intro
   apply And.intro
   ·rintro w' k1
    apply VR.mk
    go_simp
    with_reducible rfl
   simp only [List.setIfInBounds_toArray, List.set_cons_zero, List.set_cons_succ]
   refine treeQ_h hsure hS (i := 17) (by kernel_rfl) (by rfl) (by rfl) (by kernel_rfl) (by rfl) ?_
   apply Exists.intro
   apply And.intro
   ·rintro w' k1
    have cc0 := k1.cell 0
    simp only [List.getElem?_toArray, List.getElem?_cons_zero, List.getElem?_cons_succ] at cc0
    apply VR.mk
    go_simp
    with_reducible rfl
   simp only [List.setIfInBounds_toArray, List.set_cons_zero, List.set_cons_succ]
   refine treeQ_h hsure hS (i := 18) (by kernel_rfl) (by rfl) (by rfl) (by kernel_rfl) (by rfl) ?_
   apply Exists.intro
   apply And.intro
   ·rintro w' k1
    apply VR.mk
    go_simp
    with_reducible rfl
   simp only [List.setIfInBounds_toArray, List.set_cons_zero, List.set_cons_succ]
   refine treeQ_h hsure hS (i := 19) (by kernel_rfl) (by rfl) (by rfl) (by kernel_rfl) (by rfl) ?_
   apply Exists.intro
   apply And.intro
   ·rintro w' k1
    apply VR.mk
    go_simp
    with_reducible rfl
   simp only [List.setIfInBounds_toArray, List.set_cons_zero, List.set_cons_succ]
   refine treeQ_h hsure hS (i := 20) (by kernel_rfl) (by rfl) (by rfl) (by kernel_rfl) (by rfl) ?_
   apply Exists.intro
   apply And.intro
   ·rintro w' k1
    apply VR.mk
    go_simp
    with_reducible rfl
   simp only [List.setIfInBounds_toArray, List.set_cons_zero, List.set_cons_succ]
   refine treeQ_h hsure hS (i := 21) (by kernel_rfl) (by rfl) (by rfl) (by kernel_rfl) (by rfl) ?_
   apply Exists.intro
   apply And.intro
   ·rintro w' k1
    have cc0 := k1.cell 1
    simp only [List.getElem?_toArray, List.getElem?_cons_zero, List.getElem?_cons_succ] at cc0
    apply VR.mk
    go_simp
    with_reducible rfl
   simp only [List.setIfInBounds_toArray, List.set_cons_zero, List.set_cons_succ]
   refine treeQ_h hsure hS (i := 22) (by kernel_rfl) (by rfl) (by rfl) (by kernel_rfl) (by rfl) ?_
   apply Exists.intro
   apply And.intro
   ·rintro w' k1
    apply VR.mk
    go_simp
    with_reducible rfl
   simp only [List.setIfInBounds_toArray, List.set_cons_zero, List.set_cons_succ]
   refine treeQ_h hsure hS (i := 23) (by kernel_rfl) (by rfl) (by rfl) (by kernel_rfl) (by rfl) ?_
   apply Exists.intro
   apply And.intro
   ·rintro w' k1
    apply VR.mk
    go_simp
    with_reducible rfl
   simp only [List.setIfInBounds_toArray, List.set_cons_zero, List.set_cons_succ]
   try (first | rw [kw] | rw [kw2])
   refine treeQ_h hsure hS (i := 24) (by kernel_rfl) (by rfl) (by rfl) (by kernel_rfl) (by rfl) ?_
   apply Exists.intro
   apply And.intro
   ·rintro w' k1
    apply VR.mk
    go_simp
    rw [dif_pos (show 0 ≤ (at_ : Int) + (n : Int) ∧ (at_ : Int) + (n : Int) < (s.size : Int) from ⟨by omega, by omega⟩), bt_at s ((at_ : Int) + (n : Int))]
    exact rfl
   simp only [List.setIfInBounds_toArray, List.set_cons_zero, List.set_cons_succ]
   have hbr := bt_range s ((at_ : Int) + (n : Int))
   refine tree_1Q (i := 25) (by kernel_rfl) ?_
   refine step_callQ (by rfl) (by rfl) (by rfl) (ER_go (by go_simp; first | with_reducible exact ⟨rfl, rfl⟩ | with_reducible rfl)) ?_
   refine (HP.out _ W hbr.1 hbr.2).mono ?_
   rintro en w2 ⟨rfl, hb2⟩
   refine .inl ⟨_, rfl, hS.belowS hb2, ?_⟩
   simp only [List.setIfInBounds_toArray, List.set_cons_zero, List.set_cons_succ]
   obtain ⟨pb, hpb⟩ : ∃ pb, p (bt s ((at_ : Int) + (n : Int))) = pb := ⟨_, rfl⟩
   rw [hpb]
   refine treeQ_h hsure (hS.belowS hb2) (i := 26) (by kernel_rfl) (by rfl) (by rfl) (by kernel_rfl) (by rfl) ?_
   apply Exists.intro
   apply And.intro
   ·rintro w' k1
    apply VR.mk
    go_simp
    with_reducible rfl
   simp only [List.setIfInBounds_toArray, List.set_cons_zero, List.set_cons_succ]
   refine tree_endQ (by kernel_rfl) ?_
   rw [← hQQ]
   have hpb2 : p (bt s ((at_ + n : Nat) : Int)) = pb := by rw [← hpb]; rfl
   cases pb with
   | true =>
    go_wp2
    exact ⟨⟨n + 1, by simp, by omega, ⟨fun j hj => by
     by_cases e : j = n
     ·subst e; exact hpb2
     ·exact HJ.out j (by omega)⟩, ⟨below_then HD.out HD.out.size hb2⟩⟩, by simp [intOf]; omega⟩
   | false =>
    go_wp2
    go_ret
    rw [spanL_eq at_ n (by omega) HJ.out (.inr hpb2)]
    exact ⟨rfl, below_then HD.out HD.out.size hb2⟩
  ·have hd : decide ((at_ : Int) + (n : Int) < (s.size : Int)) = false := decide_eq_false (by omega)
   refine treeQ_h hsure hS (i := 0) (by kernel_rfl) (by rfl) (by rfl) (by kernel_rfl) (by rfl) ?_
   apply Exists.intro
   apply And.intro
   ·rintro w' k1
    apply VR.mk
    go_simp
    with_reducible rfl
   simp only [List.setIfInBounds_toArray, List.set_cons_zero, List.set_cons_succ]
   refine treeQ_h hsure hS (i := 1) (by kernel_rfl) (by rfl) (by rfl) (by kernel_rfl) (by rfl) ?_
   apply Exists.intro
   apply And.intro
   ·rintro w' k1
    apply VR.mk
    go_simp
    with_reducible rfl
   simp only [List.setIfInBounds_toArray, List.set_cons_zero, List.set_cons_succ]
   refine treeQ_h hsure hS (i := 2) (by kernel_rfl) (by rfl) (by rfl) (by kernel_rfl) (by rfl) ?_
   apply Exists.intro
   apply And.intro
   ·rintro w' k1
    apply VR.mk
    go_simp
    with_reducible rfl
   simp only [List.setIfInBounds_toArray, List.set_cons_zero, List.set_cons_succ]
   refine treeQ_h hsure hS (i := 3) (by kernel_rfl) (by rfl) (by rfl) (by kernel_rfl) (by rfl) ?_
   apply Exists.intro
   apply And.intro
   ·rintro w' k1
    have cc0 := k1.cell 1
    simp only [List.getElem?_toArray, List.getElem?_cons_zero, List.getElem?_cons_succ] at cc0
    apply VR.mk
    go_simp
    with_reducible rfl
   simp only [List.setIfInBounds_toArray, List.set_cons_zero, List.set_cons_succ]
   refine treeQ_h hsure hS (i := 4) (by kernel_rfl) (by rfl) (by rfl) (by kernel_rfl) (by rfl) ?_
   apply Exists.intro
   apply And.intro
   ·rintro w' k1
    apply VR.mk
    go_simp
    with_reducible rfl
   simp only [List.setIfInBounds_toArray, List.set_cons_zero, List.set_cons_succ]
   refine treeQ_h hsure hS (i := 5) (by kernel_rfl) (by rfl) (by rfl) (by kernel_rfl) (by rfl) ?_
   apply Exists.intro
   apply And.intro
   ·rintro w' k1
    apply VR.mk
    go_simp
    with_reducible rfl
   simp only [List.setIfInBounds_toArray, List.set_cons_zero, List.set_cons_succ]
   try (first | rw [kw] | rw [kw2])
   refine treeQ_h hsure hS (i := 6) (by kernel_rfl) (by rfl) (by rfl) (by kernel_rfl) (by rfl) ?_
   apply Exists.intro
   apply And.intro
   ·rintro w' k1
    apply VR.mk
    go_simp
    with_reducible rfl
   simp only [List.setIfInBounds_toArray, List.set_cons_zero, List.set_cons_succ]
   refine treeQ_h hsure hS (i := 7) (by kernel_rfl) (by rfl) (by rfl) (by kernel_rfl) (by rfl) ?_
   apply Exists.intro
   apply And.intro
   ·rintro w' k1
    apply VR.mk
    go_simp
    with_reducible rfl
   simp only [List.setIfInBounds_toArray, List.set_cons_zero, List.set_cons_succ]
   refine treeQ_h hsure hS (i := 8) (by kernel_rfl) (by rfl) (by rfl) (by kernel_rfl) (by rfl) ?_
   apply Exists.intro
   apply And.intro
   ·rintro w' k1
    apply VR.mk
    go_simp
    with_reducible rfl
   simp only [List.setIfInBounds_toArray, List.set_cons_zero, List.set_cons_succ]
   refine treeQ_h hsure hS (i := 9) (by kernel_rfl) (by rfl) (by rfl) (by kernel_rfl) (by rfl) ?_
   apply Exists.intro
   apply And.intro
   ·rintro w' k1
    have cc0 := k1.cell 0
    simp only [List.getElem?_toArray, List.getElem?_cons_zero, List.getElem?_cons_succ] at cc0
    apply VR.mk
    go_simp
    with_reducible rfl
   simp only [List.setIfInBounds_toArray, List.set_cons_zero, List.set_cons_succ]
   refine treeQ_h hsure hS (i := 10) (by kernel_rfl) (by rfl) (by rfl) (by kernel_rfl) (by rfl) ?_
   apply Exists.intro
   apply And.intro
   ·rintro w' k1
    apply VR.mk
    go_simp
    with_reducible rfl
   simp only [List.setIfInBounds_toArray, List.set_cons_zero, List.set_cons_succ]
   refine treeQ_h hsure hS (i := 11) (by kernel_rfl) (by rfl) (by rfl) (by kernel_rfl) (by rfl) ?_
   apply Exists.intro
   apply And.intro
   ·rintro w' k1
    apply VR.mk
    go_simp
    with_reducible rfl
   simp only [List.setIfInBounds_toArray, List.set_cons_zero, List.set_cons_succ]
   refine treeQ_h hsure hS (i := 12) (by kernel_rfl) (by rfl) (by rfl) (by kernel_rfl) (by rfl) ?_
   apply Exists.intro
   apply And.intro
   ·rintro w' k1
    apply VR.mk
    go_simp
    with_reducible rfl
   simp only [List.setIfInBounds_toArray, List.set_cons_zero, List.set_cons_succ]
   refine treeQ_hs hsure hS (i := 13) (by kernel_rfl) (by rfl) ⟨_, by rfl, by rfl, ?_⟩ (by kernel_rfl)
   simp only [List.setIfInBounds_toArray, List.set_cons_zero, List.set_cons_succ]
   refine treeQ_hs hsure hS (i := 14) (by kernel_rfl) (by rfl) ⟨_, by rfl, by rfl, ?_⟩ (by kernel_rfl)
   simp only [List.setIfInBounds_toArray, List.set_cons_zero, List.set_cons_succ]
   refine treeQ_hs hsure hS (i := 15) (by kernel_rfl) (by rfl) ⟨_, by rfl, by rfl, ?_⟩ (by kernel_rfl)
   simp only [List.setIfInBounds_toArray, List.set_cons_zero, List.set_cons_succ]
   refine treeQ_hs hsure hS (i := 16) (by kernel_rfl) (by rfl) ⟨_, by rfl, by rfl, ?_⟩ (by kernel_rfl)
   simp only [List.setIfInBounds_toArray, List.set_cons_zero, List.set_cons_succ]
   refine treeQ_hs hsure hS (i := 17) (by kernel_rfl) (by rfl) ⟨_, by rfl, by rfl, ?_⟩ (by kernel_rfl)
   simp only [List.setIfInBounds_toArray, List.set_cons_zero, List.set_cons_succ]
   refine treeQ_hs hsure hS (i := 18) (by kernel_rfl) (by rfl) ⟨_, by rfl, by rfl, ?_⟩ (by kernel_rfl)
   simp only [List.setIfInBounds_toArray, List.set_cons_zero, List.set_cons_succ]
   refine treeQ_hs hsure hS (i := 19) (by kernel_rfl) (by rfl) ⟨_, by rfl, by rfl, ?_⟩ (by kernel_rfl)
   simp only [List.setIfInBounds_toArray, List.set_cons_zero, List.set_cons_succ]
   refine treeQ_hs hsure hS (i := 20) (by kernel_rfl) (by rfl) ⟨_, by rfl, by rfl, ?_⟩ (by kernel_rfl)
   simp only [List.setIfInBounds_toArray, List.set_cons_zero, List.set_cons_succ]
   refine treeQ_hs hsure hS (i := 21) (by kernel_rfl) (by rfl) ⟨_, by rfl, by rfl, ?_⟩ (by kernel_rfl)
   simp only [List.setIfInBounds_toArray, List.set_cons_zero, List.set_cons_succ]
   refine treeQ_hs hsure hS (i := 22) (by kernel_rfl) (by rfl) ⟨_, by rfl, by rfl, ?_⟩ (by kernel_rfl)
   simp only [List.setIfInBounds_toArray, List.set_cons_zero, List.set_cons_succ]
   refine treeQ_hs hsure hS (i := 23) (by kernel_rfl) (by rfl) ⟨_, by rfl, by rfl, ?_⟩ (by kernel_rfl)
   simp only [List.setIfInBounds_toArray, List.set_cons_zero, List.set_cons_succ]
   refine treeQ_hs hsure hS (i := 24) (by kernel_rfl) (by rfl) ⟨_, by rfl, by rfl, ?_⟩ (by kernel_rfl)
   simp only [List.setIfInBounds_toArray, List.set_cons_zero, List.set_cons_succ]
   refine treeQ_hs hsure hS (i := 25) (by kernel_rfl) (by rfl) ⟨_, by rfl, by rfl, ?_⟩ (by kernel_rfl)
   simp only [List.setIfInBounds_toArray, List.set_cons_zero, List.set_cons_succ]
   refine treeQ_h hsure hS (i := 26) (by kernel_rfl) (by rfl) (by rfl) (by kernel_rfl) (by rfl) ?_
   apply Exists.intro
   apply And.intro
   ·rintro w' k1
    apply VR.mk
    go_simp
    with_reducible rfl
   simp only [List.setIfInBounds_toArray, List.set_cons_zero, List.set_cons_succ]
   refine tree_endQ (by kernel_rfl) ?_
   rw [← hQQ]
   go_wp2
   go_ret
   rw [spanL_eq at_ n (by omega) HJ.out (.inl (by omega))]
   exact ⟨rfl, HD.out⟩
end Go.Proofs.YtngpgdmafmkddaaDoor.Lex
end
section
namespace Go.Proofs.YtngpgdmafmkddaaDoor.Lex
open Go.Proofs.YtngpgdmafmkddaaDoor.Calm Go.Proofs.YtngpgdmafmkddaaDoor.Par Go.RowKit Go.Proofs.YtngpgdmafmkddaaDoorW.PrintWords Go.Proofs.YtngpgdmafmkddaaDoorW.PrintLast Go.Proofs.YtngpgdmafmkddaaDoorW.PrintMore
open Go.Proofs.YtngpgdmafmkddaaDoor.PParseBlanks (S35 S25 S27 k35 k25 k27 rd_T35 rd_T25 rd_T27 at_T35 at_T25 at_T27)
set_option linter.unusedVariables false
set_option linter.unusedSimpArgs false
theorem pre_eq (p l : List UInt8) (h : p.length ≤ l.length) : (l.take p.length == p) = p.isPrefixOf l := by
 rw [Bool.eq_iff_iff, beq_iff_eq, List.isPrefixOf_iff_prefix, List.prefix_iff_eq_take]
 exact eq_comm
theorem pre_short (p l : List UInt8) (h : l.length < p.length) : p.isPrefixOf l = false := by
 rw [Bool.eq_false_iff]
 intro h2
 have := (List.isPrefixOf_iff_prefix.1 h2).length_le
 omega
theorem ext0 (a : ByteArray) (n : Nat) : (a.extract 0 n).toList = a.data.toList.take n := by
 rw [ByteArray.toList_eq, ByteArray.data_extract, Array.toList_extract, List.extract_eq_take_drop]
 simp
theorem pre_f (a b : ByteArray) : PParseBlanks.strings_HasPrefix.f a b = some (b.data.toList.isPrefixOf a.data.toList) := by
 unfold PParseBlanks.strings_HasPrefix.f PParseBlanks.stringslite_HasPrefix.f
 have hb : b.data.toList.length = b.size := by simp
 have ha : a.data.toList.length = a.size := by simp
 by_cases h : (a.size : Int) ≥ (b.size : Int)
 ·rw [if_pos h, if_pos (by omega), if_pos (by omega)]
  simp only [Option.bind_some, Int.toNat_natCast]
  rw [ext0, ByteArray.toList_eq, ← hb, pre_eq _ _ (by omega)]
 ·rw [if_neg h]
  simp only [Option.bind_some]
  rw [pre_short _ _ (by omega)]
theorem pre_said (a b : ByteArray) (w : World) : Calls Tryd.prog 33 #[.string a, .string b] w fun e w' => e = .returned (.bool (b.data.toList.isPrefixOf a.data.toList)) ∧ Below w.heap.size w w' :=
 (PParseBlanks.strings_HasPrefix.calls a b _ w (pre_f a b)).mono fun e w' h => ⟨h.1, Drawn0.below h.2⟩
theorem ext_from (s : ByteArray) (i : Nat) : (s.extract i s.size).data.toList = fromN s i := by
 rw [ByteArray.data_extract, Array.toList_extract, List.extract_eq_take_drop]
 exact List.take_of_length_le (by simp)
theorem from_from (s : ByteArray) (i n : Nat) : (fromN s i).drop n = fromN s (i + n) := List.drop_drop
theorem from_len (s : ByteArray) (i : Nat) : (fromN s i).length = s.size - i := by simp
abbrev sSlash : ByteArray := ⟨#[47, 47]⟩
def skipN : Nat → List UInt8 → Nat
 | 0, _ => 0
 | k + 1, l =>
  if [47, 47].isPrefixOf (l.drop (spanL isBlank l)) = true then
   spanL isBlank l + spanL notNl (l.drop (spanL isBlank l)) + skipN k (l.drop (spanL isBlank l + spanL notNl (l.drop (spanL isBlank l))))
  else if spanL isBlank l = 0 then 0 else spanL isBlank l + skipN k (l.drop (spanL isBlank l))
theorem slash_span {l : List UInt8} (h : [47, 47].isPrefixOf l = true) : 2 ≤ spanL notNl l := by
 match l, h with
 | [], h => exact absurd h (by decide)
 | [a], h => simp [List.isPrefixOf] at h
 | a :: b :: r, h =>
  obtain ⟨rfl, rfl⟩ : 47 = a ∧ 47 = b := by simpa [List.isPrefixOf] using h
  have e : spanL notNl (47 :: 47 :: r) = spanL notNl r + 1 + 1 := rfl
  omega
set_option maxRecDepth 100000 in
set_option maxHeartbeats 4000000 in
theorem skip_said (m : Nat) (s : ByteArray) (a0 : Nat) (mp : Value) (w : World) (H : Has w m (lxC s a0 mp) 65) (ha : a0 ≤ s.size) (hs : s.size < 4611686018427387904) :
  Calls Tryd.prog 22 #[.pointer (some ⟨m, 0, none⟩)] w fun e w' => e = .returned (.tuple #[]) ∧ Kept (fun b => b = m) w w' ∧ Has w' m (lxC s (a0 + skipN (s.size - a0 + 1) (fromN s a0) : Nat) mp) 65 ∧ a0 + skipN (s.size - a0 + 1) (fromN s a0) ≤ s.size := by
 have HST : Aside0 (∃ a : Nat, a ≤ s.size ∧ Has w m (lxC s a mp) 65 ∧ Kept (fun b => b = m) w w ∧ a + skipN (s.size - a0 + 1) (fromN s a) = a0 + skipN (s.size - a0 + 1) (fromN s a0) ∧ s.size - a < s.size - a0 + 1) := ⟨a0, ha, H, Kept.refl _ w, rfl, by omega⟩
 clear H ha
 obtain ⟨R, hR⟩ : ∃ R, a0 + skipN (s.size - a0 + 1) (fromN s a0) = R := ⟨_, rfl⟩
 obtain ⟨K, hK⟩ : ∃ K, s.size - a0 + 1 = K := ⟨_, rfl⟩
 rw [hR, hK] at HST
 rw [hR]
 clear hR hK
 go_enter Tryd.func22, Tryd.ntmps22
 go_wp2
 go_loopg [2] K (fun k v wr => Aside0 (∃ a : Nat, a ≤ s.size ∧ Has wr m (lxC s a mp) 65 ∧ Kept (fun b => b = m) w wr ∧ a + skipN k (fromN s a) = R ∧ s.size - a < k))
 case atStart => exact HST
 case round =>
  clear HST
  obtain ⟨a, ha, hH, hK, hR, hk⟩ := hrel.out
  clear hrel
  cases gk with
  | zero => omega
  | succ k =>
   have HH := Aside0.mk hH
   have HK := Aside0.mk hK
   clear hH hK
   obtain ⟨n, hn⟩ : ∃ n, spanL isBlank (fromN s a) = n := ⟨_, rfl⟩
   have hle : n ≤ s.size - a := by rw [← hn, ← from_len]; exact spanL_le _
   simp only [skipN] at hR
   rw [hn, from_from] at hR
   have HN := Aside0.mk hn
   clear hn
   go_upto_region 1 with (
    go_at_call 31
    (with_reducible refine Calls.mono (span_said 32 isBlank blank_pred m s a mp _ HH.out ha hs) ?_)
    rintro en w1 ⟨he, hb⟩
    rw [HN.out] at he
    subst he
    replace HH := Aside0.mk (HH.out.belowS hb)
    replace HK := Aside0.mk (HK.out.below hb))
   have hD := below_drew (Below.refl w1.heap.size w1)
   replace HH := Aside0.mk (HH.out.belowS hD)
   replace HK := Aside0.mk (HK.out.below hD)
   clear hD
   obtain ⟨W, hW⟩ : ∃ W, w1.drew = W := ⟨_, rfl⟩
   rw [hW] at HH HK
   have kw : IntKind.i64.wrap ((a : Int) + (n : Int)) = (a : Int) + (n : Int) := IntWalk.i64_in _ (by omega)
   have kn : ((a : Int) + (n : Int)).toNat = a + n := by omega
   have kw2 : wrap64 ((a : Int) + (n : Int)) = (a : Int) + (n : Int) := by unfold wrap64; omega
   refine region_treeQ (by kernel_rfl) (fun w' => Has w' m (lxC s a mp) 65) (hW ▸ HH.out) fun hS => ?_
   rw [hW] at hS ⊢
   clear hW
   generalize hQQ : Exit.then _ _ = QQ
   have hsure : Sure QQ := by
    rw [← hQQ]
    intro c a a' w1 hd h
    simp +zetaDelta only [Exit.then, Exit.inBlock, bodyPost] at h ⊢
    first | (simp at h; done) | simpa [hd] using h
   refine treeQ_h hsure hS (i := 0) (by kernel_rfl) (by rfl) (by rfl) (by kernel_rfl) (by rfl) ?_
   apply Exists.intro
   apply And.intro
   ·rintro w' k1
    apply VR.mk
    go_simp
    with_reducible rfl
   simp only [List.setIfInBounds_toArray, List.set_cons_zero, List.set_cons_succ]
   refine treeQ_h hsure hS (i := 1) (by kernel_rfl) (by rfl) (by rfl) (by kernel_rfl) (by rfl) ?_
   apply Exists.intro
   apply And.intro
   ·rintro w' k1
    apply VR.mk
    go_simp
    with_reducible rfl
   simp only [List.setIfInBounds_toArray, List.set_cons_zero, List.set_cons_succ]
   refine treeQ_h hsure hS (i := 2) (by kernel_rfl) (by rfl) (by rfl) (by kernel_rfl) (by rfl) ?_
   apply Exists.intro
   apply And.intro
   ·rintro w' k1
    apply VR.mk
    go_simp
    with_reducible rfl
   simp only [List.setIfInBounds_toArray, List.set_cons_zero, List.set_cons_succ]
   refine treeQ_h hsure hS (i := 3) (by kernel_rfl) (by rfl) (by rfl) (by kernel_rfl) (by rfl) ?_
   apply Exists.intro
   apply And.intro
   ·rintro w' k1
    have cc0 := k1.cell 0
    simp only [List.getElem?_toArray, List.getElem?_cons_zero, List.getElem?_cons_succ] at cc0
    apply VR.mk
    go_simp
    with_reducible rfl
   simp only [List.setIfInBounds_toArray, List.set_cons_zero, List.set_cons_succ]
   refine treeQ_h hsure hS (i := 4) (by kernel_rfl) (by rfl) (by rfl) (by kernel_rfl) (by rfl) ?_
   apply Exists.intro
   apply And.intro
   ·rintro w' k1
    apply VR.mk
    go_simp
    with_reducible rfl
   simp only [List.setIfInBounds_toArray, List.set_cons_zero, List.set_cons_succ]
   refine treeQ_h hsure hS (i := 5) (by kernel_rfl) (by rfl) (by rfl) (by kernel_rfl) (by rfl) ?_
   apply Exists.intro
   apply And.intro
   ·rintro w' k1
    apply VR.mk
    go_simp
    with_reducible rfl
   simp only [List.setIfInBounds_toArray, List.set_cons_zero, List.set_cons_succ]
   refine treeQ_h hsure hS (i := 6) (by kernel_rfl) (by rfl) (by rfl) (by kernel_rfl) (by rfl) ?_
   apply Exists.intro
   apply And.intro
   ·rintro w' k1
    apply VR.mk
    go_simp
    with_reducible rfl
   simp only [List.setIfInBounds_toArray, List.set_cons_zero, List.set_cons_succ]
   refine treeQ_h hsure hS (i := 7) (by kernel_rfl) (by rfl) (by rfl) (by kernel_rfl) (by rfl) ?_
   apply Exists.intro
   apply And.intro
   ·rintro w' k1
    have cc0 := k1.cell 1
    simp only [List.getElem?_toArray, List.getElem?_cons_zero, List.getElem?_cons_succ] at cc0
    apply VR.mk
    go_simp
    with_reducible rfl
   simp only [List.setIfInBounds_toArray, List.set_cons_zero, List.set_cons_succ]
   refine treeQ_h hsure hS (i := 8) (by kernel_rfl) (by rfl) (by rfl) (by kernel_rfl) (by rfl) ?_
   apply Exists.intro
   apply And.intro
   ·rintro w' k1
    apply VR.mk
    go_simp
    with_reducible rfl
   simp only [List.setIfInBounds_toArray, List.set_cons_zero, List.set_cons_succ]
   refine treeQ_h hsure hS (i := 9) (by kernel_rfl) (by rfl) (by rfl) (by kernel_rfl) (by rfl) ?_
   apply Exists.intro
   apply And.intro
   ·rintro w' k1
    apply VR.mk
    go_simp
    with_reducible rfl
   simp only [List.setIfInBounds_toArray, List.set_cons_zero, List.set_cons_succ]
   refine treeQ_h hsure hS (i := 10) (by kernel_rfl) (by rfl) (by rfl) (by kernel_rfl) (by rfl) ?_
   apply Exists.intro
   apply And.intro
   ·rintro w' k1
    apply VR.mk
    go_simp
    refine (if_pos ⟨by omega, by omega⟩).trans ?_
    with_reducible rfl
   simp only [List.setIfInBounds_toArray, List.set_cons_zero, List.set_cons_succ]
   refine tree_1Q (i := 11) (by kernel_rfl) ?_
   refine step_callQ (by rfl) (by rfl) (by rfl) (ER_go (by go_simp; first | with_reducible exact ⟨rfl, rfl⟩ | with_reducible rfl)) ?_
   refine (pre_said (s.extract (a + n) s.size) sSlash W).mono ?_
   rintro en w2 ⟨rfl, hb2⟩
   rw [ext_from]
   refine .inl ⟨_, rfl, hS.belowS hb2, ?_⟩
   simp only [List.setIfInBounds_toArray, List.set_cons_zero, List.set_cons_succ]
   refine tree_endQ (by kernel_rfl) ?_
   rw [← hQQ]
   clear hsure hQQ hS
   replace HH := Aside0.mk (HH.out.belowS hb2)
   replace HK := Aside0.mk (HK.out.below hb2)
   cases hsl : [47, 47].isPrefixOf (fromN s (a + n)) with
   | true =>
    rw [if_pos hsl] at hR
    have h2 := slash_span hsl
    obtain ⟨n1, hn1⟩ : ∃ n1, spanL notNl (fromN s (a + n)) = n1 := ⟨_, rfl⟩
    rw [hn1] at h2 hR
    have hle1 : n1 ≤ s.size - (a + n) := by rw [← hn1, ← from_len]; exact spanL_le _
    have HN1 := Aside0.mk hn1
    rw [from_from, ← Nat.add_assoc] at hR
    clear hn1 hsl
    have c1 := HH.out.cell 1
    simp only [List.getElem?_toArray, List.getElem?_cons_zero, List.getElem?_cons_succ] at c1
    have f1 := HH.out.frozen 1
    have hX : Has (w2.setCell ⟨m, 1, none⟩ (.int .i64 ((a : Int) + (n : Int)))) m (lxC s ((a + n : Nat) : Int) mp) 65 := HH.out.set_ 1 _
    have hX := Aside0.mk hX
    have HK2 := Aside0.mk (Kept.setCell (a := ⟨m, 1, none⟩) HK.out rfl (.int .i64 ((a : Int) + (n : Int))))
    have kw3 : IntKind.i64.wrap (((a + n : Nat) : Int) + (n1 : Int)) = ((a + n + n1 : Nat) : Int) := by rw [IntWalk.i64_in _ (by omega)]; rfl
    have kz : ((n1 : Int) == 0) = false := by simp; omega
    go_wp2_with (
      go_at_call 31
      (with_reducible refine Calls.mono (span_said 34 notNl nl_pred m s (a + n) mp _ hX.out (by omega) hs) ?_)
      rintro en w3 ⟨he, hb3⟩
      rw [HN1.out] at he
      subst he
      have hX3 := Aside0.mk (hX.out.belowS hb3)
      have HK3 := Aside0.mk (HK2.out.below hb3)
      clear c1 f1
      have c3 := hX3.out.cell 1
      simp only [List.getElem?_toArray, List.getElem?_cons_zero, List.getElem?_cons_succ] at c3
      have f3 := hX3.out.frozen 1)
    go_roundg k
    case measure => omega
    case rel => exact ⟨⟨a + n + n1, by omega, hX3.out.set_ 1 _, Kept.setCell (a := ⟨m, 1, none⟩) HK3.out rfl _, by rw [Nat.add_assoc a n n1]; exact hR, by omega⟩⟩
   | false =>
    rw [if_neg (by rw [hsl]; decide)] at hR
    clear hsl
    have c1 := HH.out.cell 1
    simp only [List.getElem?_toArray, List.getElem?_cons_zero, List.getElem?_cons_succ] at c1
    have f1 := HH.out.frozen 1
    by_cases hz : n = 0
    ·rw [if_pos hz] at hR
     have kz : ((n : Int) == 0) = true := by simp [hz]
     clear hz
     go_wp2
     refine bodyPost_ret (results_none rfl _ _ _) rfl ?_
     rw [Nat.add_zero] at hR
     subst hR
     exact ⟨rfl, HK.out, HH.out, ha⟩
    ·rw [if_neg hz] at hR
     have kz : ((n : Int) == 0) = false := by simp; omega
     rw [← Nat.add_assoc] at hR
     go_wp2
     go_roundg k
     case measure => omega
     case rel => exact ⟨⟨a + n, by omega, HH.out.set_ 1 _, Kept.setCell (a := ⟨m, 1, none⟩) HK.out rfl _, hR, by omega⟩⟩
end Go.Proofs.YtngpgdmafmkddaaDoor.Lex
end
section
namespace Go.Proofs
open Go.Shelf
def Tryd.lays137_ren : Go.Shelf.Ren := ⟨fun | 137 => 59 | 217 => 73 | 266 => 82 | n => n, fun | 9 => 9 | 5 => 5 | 3 => 3 | n => n, fun | n => n⟩
theorem Tryd.lays137 : Go.Proofs.Lays.n137 Tryd.prog Tryd.lays137_ren := {
 mixed := by kernel_rfl
 f137 := Tryd.func59.trans (congrArg some (by kernel_rfl))
 f217 := Tryd.func73.trans (congrArg some (by kernel_rfl))
 f266 := Tryd.func82.trans (congrArg some (by kernel_rfl))
 t3 := Tryd.underlying3
 a3 := Tryd.isAgg3
 z3 := Tryd.sizeOf3
 v3 := Tryd.zeroValue3
 t5 := Tryd.underlying5
 a5 := Tryd.isAgg5
 z5 := Tryd.sizeOf5
 v5 := Tryd.zeroValue5
 t9 := Tryd.underlying9
 a9 := Tryd.isAgg9
 z9 := Tryd.sizeOf9
 v9 := Tryd.zeroValue9 }
open Go.RowKit in
theorem Tryd.strings_IndexByte (s : ByteArray) (c : Int) (w : World) :
  Calls Tryd.prog 59 #[.string s, .int .u8 c] w fun e w' => e = .returned (.int .i64 (Lib.indexByte s.data.toList c.toNat.toUInt8)) ∧ w' = w := Any.strings_IndexByte Tryd.lays137 s c w
def Tryd.lays157_ren : Go.Shelf.Ren := ⟨fun | 157 => 30 | 229 => 55 | 199 => 56 | 261 => 72 | 311 => 80 | 312 => 81 | n => n, fun | 9 => 9 | 31 => 39 | 3 => 3 | 5 => 5 | 4 => 4 | 119 => 94 | 0 => 0 | 40 => 96 | 152 => 107 | 21 => 21 | 154 => 109 | 51 => 110 | 141 => 112 | 196 => 121 | 193 => 118 | 198 => 124 | 49 => 122 | 194 => 119 | 201 => 127 | 226 => 131 | 46 => 132 | 227 => 133 | n => n, fun | 0 => 0 | 6 => 1 | n => n⟩
theorem Tryd.lays157 : Go.Proofs.Lays.n157 Tryd.prog Tryd.lays157_ren := {
 mixed := by kernel_rfl
 f157 := Tryd.func30.trans (congrArg some (by kernel_rfl))
 f199 := Tryd.func56.trans (congrArg some (by kernel_rfl))
 f229 := Tryd.func55.trans (congrArg some (by kernel_rfl))
 f261 := Tryd.func72.trans (congrArg some (by kernel_rfl))
 f311 := Tryd.func80.trans (congrArg some (by kernel_rfl))
 f312 := Tryd.func81.trans (congrArg some (by kernel_rfl))
 t0 := Tryd.underlying0
 a0 := Tryd.isAgg0
 z0 := Tryd.sizeOf0
 v0 := Tryd.zeroValue0
 t3 := Tryd.underlying3
 a3 := Tryd.isAgg3
 z3 := Tryd.sizeOf3
 v3 := Tryd.zeroValue3
 t4 := Tryd.underlying4
 a4 := Tryd.isAgg4
 z4 := Tryd.sizeOf4
 v4 := Tryd.zeroValue4
 t5 := Tryd.underlying5
 a5 := Tryd.isAgg5
 z5 := Tryd.sizeOf5
 v5 := Tryd.zeroValue5
 t9 := Tryd.underlying9
 a9 := Tryd.isAgg9
 z9 := Tryd.sizeOf9
 v9 := Tryd.zeroValue9
 t21 := Tryd.underlying21
 a21 := Tryd.isAgg21
 z21 := Tryd.sizeOf21
 v21 := Tryd.zeroValue21
 t31 := Tryd.underlying39
 a31 := Tryd.isAgg39
 z31 := Tryd.sizeOf39
 v31 := Tryd.zeroValue39
 t40 := Tryd.underlying96
 a40 := Tryd.isAgg96
 z40 := Tryd.sizeOf96
 v40 := Tryd.zeroValue96
 t46 := Tryd.underlying132
 a46 := Tryd.isAgg132
 z46 := Tryd.sizeOf132
 v46 := Tryd.zeroValue132
 t49 := Tryd.underlying122
 a49 := Tryd.isAgg122
 z49 := Tryd.sizeOf122
 v49 := Tryd.zeroValue122
 t51 := Tryd.underlying110
 a51 := Tryd.isAgg110
 z51 := Tryd.sizeOf110
 v51 := Tryd.zeroValue110
 t119 := Tryd.underlying94
 a119 := Tryd.isAgg94
 z119 := Tryd.sizeOf94
 t141 := Tryd.underlying112
 a141 := Tryd.isAgg112
 z141 := Tryd.sizeOf112
 v141 := Tryd.zeroValue112
 t152 := Tryd.underlying107
 a152 := Tryd.isAgg107
 z152 := Tryd.sizeOf107
 v152 := Tryd.zeroValue107
 t154 := Tryd.underlying109
 a154 := Tryd.isAgg109
 z154 := Tryd.sizeOf109
 v154 := Tryd.zeroValue109
 t193 := Tryd.underlying118
 a193 := Tryd.isAgg118
 z193 := Tryd.sizeOf118
 v193 := Tryd.zeroValue118
 t194 := Tryd.underlying119
 a194 := Tryd.isAgg119
 z194 := Tryd.sizeOf119
 v194 := Tryd.zeroValue119
 t196 := Tryd.underlying121
 a196 := Tryd.isAgg121
 z196 := Tryd.sizeOf121
 v196 := Tryd.zeroValue121
 t198 := Tryd.underlying124
 a198 := Tryd.isAgg124
 z198 := Tryd.sizeOf124
 v198 := Tryd.zeroValue124
 t201 := Tryd.underlying127
 a201 := Tryd.isAgg127
 z201 := Tryd.sizeOf127
 v201 := Tryd.zeroValue127
 t226 := Tryd.underlying131
 a226 := Tryd.isAgg131
 z226 := Tryd.sizeOf131
 v226 := Tryd.zeroValue131
 t227 := Tryd.underlying133
 a227 := Tryd.isAgg133
 z227 := Tryd.sizeOf133
 v227 := Tryd.zeroValue133
 g0 := by kernel_rfl
 g6 := by kernel_rfl }
open Go.RowKit Go.Lib in
theorem Tryd.strings_Fields (s : ByteArray) (w : World) (hs : s.size < 4294967281) (hascii : ∀ (j : Nat) b, s.data.toList[j]? = some b → b.toNat < 128) (htab : Lib.TabIs Tryd.prog w "strings.asciiSpace" .u8 Lib.asciiSpaceTab) :
  Calls Tryd.prog 30 #[.string s] w fun e w' =>
   e = .returned (.slice (some ⟨w.heap.size, 0, none⟩) (Lib.fields s.data.toList).length (Lib.fields s.data.toList).length) ∧ w' = w.alloc (.cells ((Lib.fields s.data.toList).map fun l => Value.string ⟨l.toArray⟩).toArray 9) := Any.strings_Fields Tryd.lays157 (by kernel_rfl) (by kernel_rfl) s w hs hascii htab
end Go.Proofs
end
section
namespace Go.Proofs.YtngpgdmafmkddaaDoor.Lex
open Go.Proofs.YtngpgdmafmkddaaDoor.Calm Go.Proofs.YtngpgdmafmkddaaDoor.Par Go.RowKit Go.Proofs.YtngpgdmafmkddaaDoorW.PrintWords Go.Proofs.YtngpgdmafmkddaaDoorW.PrintLast Go.Proofs.YtngpgdmafmkddaaDoorW.PrintMore
open Go.Proofs.YtngpgdmafmkddaaDoor.PParseBlanks (S35 S25 S27 k35 k25 k27 rd_T35 rd_T25 rd_T27 at_T35 at_T25 at_T27)
set_option linter.unusedVariables false
set_option linter.unusedSimpArgs false
theorem idx97_0 (s0 s1 s2 s3 s4 s5 s6 s7 s8 s9 s10 : Value) (w : World) : (Instr.index 97 (.agg #[s0, s1, s2, s3, s4, s5, s6, s7, s8, s9, s10]) (.int .i64 0)).run Tryd.prog w = .ok s0 w := by kernel_rfl
theorem idx97_1 (s0 s1 s2 s3 s4 s5 s6 s7 s8 s9 s10 : Value) (w : World) : (Instr.index 97 (.agg #[s0, s1, s2, s3, s4, s5, s6, s7, s8, s9, s10]) (.int .i64 1)).run Tryd.prog w = .ok s1 w := by kernel_rfl
theorem idx97_2 (s0 s1 s2 s3 s4 s5 s6 s7 s8 s9 s10 : Value) (w : World) : (Instr.index 97 (.agg #[s0, s1, s2, s3, s4, s5, s6, s7, s8, s9, s10]) (.int .i64 2)).run Tryd.prog w = .ok s2 w := by kernel_rfl
theorem idx97_3 (s0 s1 s2 s3 s4 s5 s6 s7 s8 s9 s10 : Value) (w : World) : (Instr.index 97 (.agg #[s0, s1, s2, s3, s4, s5, s6, s7, s8, s9, s10]) (.int .i64 3)).run Tryd.prog w = .ok s3 w := by kernel_rfl
theorem idx97_4 (s0 s1 s2 s3 s4 s5 s6 s7 s8 s9 s10 : Value) (w : World) : (Instr.index 97 (.agg #[s0, s1, s2, s3, s4, s5, s6, s7, s8, s9, s10]) (.int .i64 4)).run Tryd.prog w = .ok s4 w := by kernel_rfl
theorem idx97_5 (s0 s1 s2 s3 s4 s5 s6 s7 s8 s9 s10 : Value) (w : World) : (Instr.index 97 (.agg #[s0, s1, s2, s3, s4, s5, s6, s7, s8, s9, s10]) (.int .i64 5)).run Tryd.prog w = .ok s5 w := by kernel_rfl
theorem idx97_6 (s0 s1 s2 s3 s4 s5 s6 s7 s8 s9 s10 : Value) (w : World) : (Instr.index 97 (.agg #[s0, s1, s2, s3, s4, s5, s6, s7, s8, s9, s10]) (.int .i64 6)).run Tryd.prog w = .ok s6 w := by kernel_rfl
theorem idx97_7 (s0 s1 s2 s3 s4 s5 s6 s7 s8 s9 s10 : Value) (w : World) : (Instr.index 97 (.agg #[s0, s1, s2, s3, s4, s5, s6, s7, s8, s9, s10]) (.int .i64 7)).run Tryd.prog w = .ok s7 w := by kernel_rfl
theorem idx97_8 (s0 s1 s2 s3 s4 s5 s6 s7 s8 s9 s10 : Value) (w : World) : (Instr.index 97 (.agg #[s0, s1, s2, s3, s4, s5, s6, s7, s8, s9, s10]) (.int .i64 8)).run Tryd.prog w = .ok s8 w := by kernel_rfl
theorem idx97_9 (s0 s1 s2 s3 s4 s5 s6 s7 s8 s9 s10 : Value) (w : World) : (Instr.index 97 (.agg #[s0, s1, s2, s3, s4, s5, s6, s7, s8, s9, s10]) (.int .i64 9)).run Tryd.prog w = .ok s9 w := by kernel_rfl
theorem idx97_10 (s0 s1 s2 s3 s4 s5 s6 s7 s8 s9 s10 : Value) (w : World) : (Instr.index 97 (.agg #[s0, s1, s2, s3, s4, s5, s6, s7, s8, s9, s10]) (.int .i64 10)).run Tryd.prog w = .ok s10 w := by kernel_rfl
abbrev twoSigns : List (List UInt8) := [[45, 62], [61, 62], [58, 58], [61, 61], [33, 61], [60, 61], [62, 61], [38, 38], [124, 124], [60, 60], [62, 62]]
abbrev oneSigns : ByteArray := ⟨#[40, 41, 123, 125, 91, 93, 60, 62, 43, 45, 42, 47, 37, 38, 124, 94, 33, 61, 44, 59, 58, 46]⟩
def signN (l : List UInt8) : Nat := if (twoSigns.any fun p => p.isPrefixOf l) = true then 2 else match l with
 | [] => 0
 | b :: _ => if 0 ≤ Lib.indexByte oneSigns.data.toList b then 1 else 0
theorem two_at {l : List UInt8} (k : Nat) (hk : k < 11) (h : (twoSigns.getD k []).isPrefixOf l = true) : signN l = 2 := by
 unfold signN
 rw [if_pos]
 rw [List.any_eq_true]
 refine ⟨twoSigns.getD k [], ?_, h⟩
 rw [List.getD_eq_getElem?_getD, List.getElem?_eq_getElem (by simpa using hk)]
 exact List.getElem_mem _
theorem two_no {l : List UInt8} (h : ∀ k : Nat, k < 11 → (twoSigns.getD k []).isPrefixOf l = false) : (twoSigns.any fun p => p.isPrefixOf l) = false := by
 simp only [List.any_cons, List.any_nil, Bool.or_eq_false_iff]
 exact ⟨h 0 (by omega), h 1 (by omega), h 2 (by omega), h 3 (by omega), h 4 (by omega), h 5 (by omega), h 6 (by omega), h 7 (by omega), h 8 (by omega), h 9 (by omega), h 10 (by omega), trivial⟩
theorem byte_back (b : UInt8) : ((b.toNat : Int)).toNat.toUInt8 = b := by simp
set_option maxRecDepth 100000 in
set_option maxHeartbeats 4000000 in
theorem sign_said (m : Nat) (s : ByteArray) (a : Nat) (mp : Value) (w : World) (H : Has w m (lxC s a mp) 65) (ha : a < s.size) (hs : s.size < 4611686018427387904) :
  Calls Tryd.prog 36 #[.pointer (some ⟨m, 0, none⟩)] w fun e w' => e = .returned (.int .i64 (signN (fromN s a))) ∧ Below w.heap.size w w' := by
 have hD := below_drew (Below.refl w.heap.size w)
 have HH := Aside0.mk (H.belowS hD)
 have HB := Aside0.mk hD
 clear H hD
 obtain ⟨b0, e0, hb0⟩ := bt_get ha
 go_enter Tryd.func36, Tryd.ntmps36
 go_wp2
 obtain ⟨W, hW⟩ : ∃ W, w.drew = W := ⟨_, rfl⟩
 rw [hW] at HH HB
 refine region_treeQ (by kernel_rfl) (fun w' => Has w' m (lxC s a mp) 65) (hW ▸ HH.out) fun hS => ?_
 rw [hW] at hS ⊢
 clear hW
 generalize hQQ : Exit.then _ _ = QQ
 have hsure : Sure QQ := by
  rw [← hQQ]
  intro c a a' w1 hd h
  simp +zetaDelta only [Exit.then, Exit.inBlock, bodyPost] at h ⊢
  first | (simp at h; done) | simpa [hd] using h
 refine treeQ_h hsure hS (i := 0) (by kernel_rfl) (by rfl) (by rfl) (by kernel_rfl) (by rfl) ?_
 apply Exists.intro
 apply And.intro
 ·rintro w' k1
  apply VR.mk
  go_simp
  with_reducible rfl
 simp only [List.setIfInBounds_toArray, List.set_cons_zero, List.set_cons_succ]
 refine treeQ_h hsure hS (i := 1) (by kernel_rfl) (by rfl) (by rfl) (by kernel_rfl) (by rfl) ?_
 apply Exists.intro
 apply And.intro
 ·rintro w' k1
  apply VR.mk
  go_simp
  with_reducible rfl
 simp only [List.setIfInBounds_toArray, List.set_cons_zero, List.set_cons_succ]
 refine treeQ_h hsure hS (i := 2) (by kernel_rfl) (by rfl) (by rfl) (by kernel_rfl) (by rfl) ?_
 apply Exists.intro
 apply And.intro
 ·rintro w' k1
  apply VR.mk
  go_simp
  with_reducible rfl
 simp only [List.setIfInBounds_toArray, List.set_cons_zero, List.set_cons_succ]
 refine treeQ_h hsure hS (i := 3) (by kernel_rfl) (by rfl) (by rfl) (by kernel_rfl) (by rfl) ?_
 apply Exists.intro
 apply And.intro
 ·rintro w' k1
  have cc0 := k1.cell 0
  simp only [List.getElem?_toArray, List.getElem?_cons_zero, List.getElem?_cons_succ] at cc0
  apply VR.mk
  go_simp
  with_reducible rfl
 simp only [List.setIfInBounds_toArray, List.set_cons_zero, List.set_cons_succ]
 refine treeQ_h hsure hS (i := 4) (by kernel_rfl) (by rfl) (by rfl) (by kernel_rfl) (by rfl) ?_
 apply Exists.intro
 apply And.intro
 ·rintro w' k1
  apply VR.mk
  go_simp
  with_reducible rfl
 simp only [List.setIfInBounds_toArray, List.set_cons_zero, List.set_cons_succ]
 refine treeQ_h hsure hS (i := 5) (by kernel_rfl) (by rfl) (by rfl) (by kernel_rfl) (by rfl) ?_
 apply Exists.intro
 apply And.intro
 ·rintro w' k1
  apply VR.mk
  go_simp
  with_reducible rfl
 simp only [List.setIfInBounds_toArray, List.set_cons_zero, List.set_cons_succ]
 refine treeQ_h hsure hS (i := 6) (by kernel_rfl) (by rfl) (by rfl) (by kernel_rfl) (by rfl) ?_
 apply Exists.intro
 apply And.intro
 ·rintro w' k1
  apply VR.mk
  go_simp
  with_reducible rfl
 simp only [List.setIfInBounds_toArray, List.set_cons_zero, List.set_cons_succ]
 refine treeQ_h hsure hS (i := 7) (by kernel_rfl) (by rfl) (by rfl) (by kernel_rfl) (by rfl) ?_
 apply Exists.intro
 apply And.intro
 ·rintro w' k1
  have cc0 := k1.cell 1
  simp only [List.getElem?_toArray, List.getElem?_cons_zero, List.getElem?_cons_succ] at cc0
  apply VR.mk
  go_simp
  with_reducible rfl
 simp only [List.setIfInBounds_toArray, List.set_cons_zero, List.set_cons_succ]
 refine treeQ_h hsure hS (i := 8) (by kernel_rfl) (by rfl) (by rfl) (by kernel_rfl) (by rfl) ?_
 apply Exists.intro
 apply And.intro
 ·rintro w' k1
  apply VR.mk
  go_simp
  refine (if_pos (by omega)).trans ?_
  with_reducible rfl
 simp only [List.setIfInBounds_toArray, List.set_cons_zero, List.set_cons_succ]
 refine treeQ_h hsure hS (i := 9) (by kernel_rfl) (by rfl) (by rfl) (by kernel_rfl) (by rfl) ?_
 apply Exists.intro
 apply And.intro
 ·rintro w' k1
  apply VR.mk
  go_simp
  with_reducible rfl
 simp only [List.setIfInBounds_toArray, List.set_cons_zero, List.set_cons_succ]
 refine tree_endQ (by kernel_rfl) ?_
 rw [← hQQ]
 clear hsure hQQ hS
 obtain ⟨rs, hrs⟩ : ∃ r, s.extract a s.size = r := ⟨_, rfl⟩
 rw [hrs]
 have hrl : rs.data.toList = fromN s a := by rw [← hrs]; exact ext_from s a
 have hr0 : 0 < rs.size := by
  have h : rs.data.toList.length = rs.size := by simp
  rw [hrl, e0] at h
  simp at h
  omega
 have hrb : bt rs (0 : Int) = (b0.toNat : Int) := by
  obtain ⟨b1, e1, h1⟩ := bt_get (s := rs) (i := 0) hr0
  have h2 : fromN rs 0 = fromN s a := by rw [fromN, List.drop_zero]; exact hrl
  rw [h2, e0] at e1
  injection e1 with e1 _
  rw [e1]; exact h1
 clear hrs hb0
 have HRL := Aside0.mk hrl
 have HRB : Aside0 (∀ h : 0 < rs.size, rs[0] = b0) := ⟨fun h => by
  unfold bt at hrb
  rw [dif_pos (show (0 : Int).toNat < rs.size from h)] at hrb
  exact UInt8.toNat_inj.1 (Int.ofNat.inj hrb)⟩
 clear hrl hrb
 go_wp2
 go_loopw [16] (fun v wr => ∃ i : Int, v = .int .i64 i ∧ 0 ≤ i ∧ i ≤ 11 ∧ Aside0 (Below w.heap.size w wr) ∧ Aside0 (∀ k : Nat, (k : Int) < i → (twoSigns.getD k []).isPrefixOf (fromN s a) = false)) (fun v _ => 11 - (intOf v).toNat)
 case atStart => exact ⟨0, rfl, by omega, by omega, HB, ⟨fun k hk => by omega⟩⟩
 case round =>
  clear HB
  obtain ⟨i, rfl, hi0, hi1, HB, HJ⟩ := hrel
  rcases (by omega : i = 0 ∨ i = 1 ∨ i = 2 ∨ i = 3 ∨ i = 4 ∨ i = 5 ∨ i = 6 ∨ i = 7 ∨ i = 8 ∨ i = 9 ∨ i = 10 ∨ i = 11) with rfl | rfl | rfl | rfl | rfl | rfl | rfl | rfl | rfl | rfl | rfl | rfl
  ·have hx := idx97_0
   cases hp : List.isPrefixOf [45, 62] (fromN s a) with
   | true =>
    have HPP := Aside0.mk hp
    clear hp
    go_wp2_with (
      go_at_call 33
      (with_reducible refine Calls.mono (pre_said rs ⟨#[45, 62]⟩ _) ?_)
      rintro en w2 ⟨he, hb2⟩
      rw [HRL.out, show List.isPrefixOf (ByteArray.data ⟨#[45, 62]⟩).toList (fromN s a) = true from HPP.out] at he
      subst he)
    go_ret
    rw [two_at 0 (by omega) HPP.out]
    exact ⟨rfl, below_then HB.out HB.out.size hb2⟩
   | false =>
    have HPP := Aside0.mk hp
    clear hp
    go_wp2_with (
      go_at_call 33
      (with_reducible refine Calls.mono (pre_said rs ⟨#[45, 62]⟩ _) ?_)
      rintro en w2 ⟨he, hb2⟩
      rw [HRL.out, show List.isPrefixOf (ByteArray.data ⟨#[45, 62]⟩).toList (fromN s a) = false from HPP.out] at he
      subst he)
    exact ⟨⟨1, rfl, by omega, by omega, ⟨below_then HB.out HB.out.size hb2⟩, ⟨fun j hj => by
     by_cases e : j = 0
     ·subst e; exact HPP.out
     ·exact HJ.out j (by omega)⟩⟩, by simp [intOf]⟩
  ·have hx := idx97_1
   cases hp : List.isPrefixOf [61, 62] (fromN s a) with
   | true =>
    have HPP := Aside0.mk hp
    clear hp
    go_wp2_with (
      go_at_call 33
      (with_reducible refine Calls.mono (pre_said rs ⟨#[61, 62]⟩ _) ?_)
      rintro en w2 ⟨he, hb2⟩
      rw [HRL.out, show List.isPrefixOf (ByteArray.data ⟨#[61, 62]⟩).toList (fromN s a) = true from HPP.out] at he
      subst he)
    go_ret
    rw [two_at 1 (by omega) HPP.out]
    exact ⟨rfl, below_then HB.out HB.out.size hb2⟩
   | false =>
    have HPP := Aside0.mk hp
    clear hp
    go_wp2_with (
      go_at_call 33
      (with_reducible refine Calls.mono (pre_said rs ⟨#[61, 62]⟩ _) ?_)
      rintro en w2 ⟨he, hb2⟩
      rw [HRL.out, show List.isPrefixOf (ByteArray.data ⟨#[61, 62]⟩).toList (fromN s a) = false from HPP.out] at he
      subst he)
    exact ⟨⟨2, rfl, by omega, by omega, ⟨below_then HB.out HB.out.size hb2⟩, ⟨fun j hj => by
     by_cases e : j = 1
     ·subst e; exact HPP.out
     ·exact HJ.out j (by omega)⟩⟩, by simp [intOf]⟩
  ·have hx := idx97_2
   cases hp : List.isPrefixOf [58, 58] (fromN s a) with
   | true =>
    have HPP := Aside0.mk hp
    clear hp
    go_wp2_with (
      go_at_call 33
      (with_reducible refine Calls.mono (pre_said rs ⟨#[58, 58]⟩ _) ?_)
      rintro en w2 ⟨he, hb2⟩
      rw [HRL.out, show List.isPrefixOf (ByteArray.data ⟨#[58, 58]⟩).toList (fromN s a) = true from HPP.out] at he
      subst he)
    go_ret
    rw [two_at 2 (by omega) HPP.out]
    exact ⟨rfl, below_then HB.out HB.out.size hb2⟩
   | false =>
    have HPP := Aside0.mk hp
    clear hp
    go_wp2_with (
      go_at_call 33
      (with_reducible refine Calls.mono (pre_said rs ⟨#[58, 58]⟩ _) ?_)
      rintro en w2 ⟨he, hb2⟩
      rw [HRL.out, show List.isPrefixOf (ByteArray.data ⟨#[58, 58]⟩).toList (fromN s a) = false from HPP.out] at he
      subst he)
    exact ⟨⟨3, rfl, by omega, by omega, ⟨below_then HB.out HB.out.size hb2⟩, ⟨fun j hj => by
     by_cases e : j = 2
     ·subst e; exact HPP.out
     ·exact HJ.out j (by omega)⟩⟩, by simp [intOf]⟩
  ·have hx := idx97_3
   cases hp : List.isPrefixOf [61, 61] (fromN s a) with
   | true =>
    have HPP := Aside0.mk hp
    clear hp
    go_wp2_with (
      go_at_call 33
      (with_reducible refine Calls.mono (pre_said rs ⟨#[61, 61]⟩ _) ?_)
      rintro en w2 ⟨he, hb2⟩
      rw [HRL.out, show List.isPrefixOf (ByteArray.data ⟨#[61, 61]⟩).toList (fromN s a) = true from HPP.out] at he
      subst he)
    go_ret
    rw [two_at 3 (by omega) HPP.out]
    exact ⟨rfl, below_then HB.out HB.out.size hb2⟩
   | false =>
    have HPP := Aside0.mk hp
    clear hp
    go_wp2_with (
      go_at_call 33
      (with_reducible refine Calls.mono (pre_said rs ⟨#[61, 61]⟩ _) ?_)
      rintro en w2 ⟨he, hb2⟩
      rw [HRL.out, show List.isPrefixOf (ByteArray.data ⟨#[61, 61]⟩).toList (fromN s a) = false from HPP.out] at he
      subst he)
    exact ⟨⟨4, rfl, by omega, by omega, ⟨below_then HB.out HB.out.size hb2⟩, ⟨fun j hj => by
     by_cases e : j = 3
     ·subst e; exact HPP.out
     ·exact HJ.out j (by omega)⟩⟩, by simp [intOf]⟩
  ·have hx := idx97_4
   cases hp : List.isPrefixOf [33, 61] (fromN s a) with
   | true =>
    have HPP := Aside0.mk hp
    clear hp
    go_wp2_with (
      go_at_call 33
      (with_reducible refine Calls.mono (pre_said rs ⟨#[33, 61]⟩ _) ?_)
      rintro en w2 ⟨he, hb2⟩
      rw [HRL.out, show List.isPrefixOf (ByteArray.data ⟨#[33, 61]⟩).toList (fromN s a) = true from HPP.out] at he
      subst he)
    go_ret
    rw [two_at 4 (by omega) HPP.out]
    exact ⟨rfl, below_then HB.out HB.out.size hb2⟩
   | false =>
    have HPP := Aside0.mk hp
    clear hp
    go_wp2_with (
      go_at_call 33
      (with_reducible refine Calls.mono (pre_said rs ⟨#[33, 61]⟩ _) ?_)
      rintro en w2 ⟨he, hb2⟩
      rw [HRL.out, show List.isPrefixOf (ByteArray.data ⟨#[33, 61]⟩).toList (fromN s a) = false from HPP.out] at he
      subst he)
    exact ⟨⟨5, rfl, by omega, by omega, ⟨below_then HB.out HB.out.size hb2⟩, ⟨fun j hj => by
     by_cases e : j = 4
     ·subst e; exact HPP.out
     ·exact HJ.out j (by omega)⟩⟩, by simp [intOf]⟩
  ·have hx := idx97_5
   cases hp : List.isPrefixOf [60, 61] (fromN s a) with
   | true =>
    have HPP := Aside0.mk hp
    clear hp
    go_wp2_with (
      go_at_call 33
      (with_reducible refine Calls.mono (pre_said rs ⟨#[60, 61]⟩ _) ?_)
      rintro en w2 ⟨he, hb2⟩
      rw [HRL.out, show List.isPrefixOf (ByteArray.data ⟨#[60, 61]⟩).toList (fromN s a) = true from HPP.out] at he
      subst he)
    go_ret
    rw [two_at 5 (by omega) HPP.out]
    exact ⟨rfl, below_then HB.out HB.out.size hb2⟩
   | false =>
    have HPP := Aside0.mk hp
    clear hp
    go_wp2_with (
      go_at_call 33
      (with_reducible refine Calls.mono (pre_said rs ⟨#[60, 61]⟩ _) ?_)
      rintro en w2 ⟨he, hb2⟩
      rw [HRL.out, show List.isPrefixOf (ByteArray.data ⟨#[60, 61]⟩).toList (fromN s a) = false from HPP.out] at he
      subst he)
    exact ⟨⟨6, rfl, by omega, by omega, ⟨below_then HB.out HB.out.size hb2⟩, ⟨fun j hj => by
     by_cases e : j = 5
     ·subst e; exact HPP.out
     ·exact HJ.out j (by omega)⟩⟩, by simp [intOf]⟩
  ·have hx := idx97_6
   cases hp : List.isPrefixOf [62, 61] (fromN s a) with
   | true =>
    have HPP := Aside0.mk hp
    clear hp
    go_wp2_with (
      go_at_call 33
      (with_reducible refine Calls.mono (pre_said rs ⟨#[62, 61]⟩ _) ?_)
      rintro en w2 ⟨he, hb2⟩
      rw [HRL.out, show List.isPrefixOf (ByteArray.data ⟨#[62, 61]⟩).toList (fromN s a) = true from HPP.out] at he
      subst he)
    go_ret
    rw [two_at 6 (by omega) HPP.out]
    exact ⟨rfl, below_then HB.out HB.out.size hb2⟩
   | false =>
    have HPP := Aside0.mk hp
    clear hp
    go_wp2_with (
      go_at_call 33
      (with_reducible refine Calls.mono (pre_said rs ⟨#[62, 61]⟩ _) ?_)
      rintro en w2 ⟨he, hb2⟩
      rw [HRL.out, show List.isPrefixOf (ByteArray.data ⟨#[62, 61]⟩).toList (fromN s a) = false from HPP.out] at he
      subst he)
    exact ⟨⟨7, rfl, by omega, by omega, ⟨below_then HB.out HB.out.size hb2⟩, ⟨fun j hj => by
     by_cases e : j = 6
     ·subst e; exact HPP.out
     ·exact HJ.out j (by omega)⟩⟩, by simp [intOf]⟩
  ·have hx := idx97_7
   cases hp : List.isPrefixOf [38, 38] (fromN s a) with
   | true =>
    have HPP := Aside0.mk hp
    clear hp
    go_wp2_with (
      go_at_call 33
      (with_reducible refine Calls.mono (pre_said rs ⟨#[38, 38]⟩ _) ?_)
      rintro en w2 ⟨he, hb2⟩
      rw [HRL.out, show List.isPrefixOf (ByteArray.data ⟨#[38, 38]⟩).toList (fromN s a) = true from HPP.out] at he
      subst he)
    go_ret
    rw [two_at 7 (by omega) HPP.out]
    exact ⟨rfl, below_then HB.out HB.out.size hb2⟩
   | false =>
    have HPP := Aside0.mk hp
    clear hp
    go_wp2_with (
      go_at_call 33
      (with_reducible refine Calls.mono (pre_said rs ⟨#[38, 38]⟩ _) ?_)
      rintro en w2 ⟨he, hb2⟩
      rw [HRL.out, show List.isPrefixOf (ByteArray.data ⟨#[38, 38]⟩).toList (fromN s a) = false from HPP.out] at he
      subst he)
    exact ⟨⟨8, rfl, by omega, by omega, ⟨below_then HB.out HB.out.size hb2⟩, ⟨fun j hj => by
     by_cases e : j = 7
     ·subst e; exact HPP.out
     ·exact HJ.out j (by omega)⟩⟩, by simp [intOf]⟩
  ·have hx := idx97_8
   cases hp : List.isPrefixOf [124, 124] (fromN s a) with
   | true =>
    have HPP := Aside0.mk hp
    clear hp
    go_wp2_with (
      go_at_call 33
      (with_reducible refine Calls.mono (pre_said rs ⟨#[124, 124]⟩ _) ?_)
      rintro en w2 ⟨he, hb2⟩
      rw [HRL.out, show List.isPrefixOf (ByteArray.data ⟨#[124, 124]⟩).toList (fromN s a) = true from HPP.out] at he
      subst he)
    go_ret
    rw [two_at 8 (by omega) HPP.out]
    exact ⟨rfl, below_then HB.out HB.out.size hb2⟩
   | false =>
    have HPP := Aside0.mk hp
    clear hp
    go_wp2_with (
      go_at_call 33
      (with_reducible refine Calls.mono (pre_said rs ⟨#[124, 124]⟩ _) ?_)
      rintro en w2 ⟨he, hb2⟩
      rw [HRL.out, show List.isPrefixOf (ByteArray.data ⟨#[124, 124]⟩).toList (fromN s a) = false from HPP.out] at he
      subst he)
    exact ⟨⟨9, rfl, by omega, by omega, ⟨below_then HB.out HB.out.size hb2⟩, ⟨fun j hj => by
     by_cases e : j = 8
     ·subst e; exact HPP.out
     ·exact HJ.out j (by omega)⟩⟩, by simp [intOf]⟩
  ·have hx := idx97_9
   cases hp : List.isPrefixOf [60, 60] (fromN s a) with
   | true =>
    have HPP := Aside0.mk hp
    clear hp
    go_wp2_with (
      go_at_call 33
      (with_reducible refine Calls.mono (pre_said rs ⟨#[60, 60]⟩ _) ?_)
      rintro en w2 ⟨he, hb2⟩
      rw [HRL.out, show List.isPrefixOf (ByteArray.data ⟨#[60, 60]⟩).toList (fromN s a) = true from HPP.out] at he
      subst he)
    go_ret
    rw [two_at 9 (by omega) HPP.out]
    exact ⟨rfl, below_then HB.out HB.out.size hb2⟩
   | false =>
    have HPP := Aside0.mk hp
    clear hp
    go_wp2_with (
      go_at_call 33
      (with_reducible refine Calls.mono (pre_said rs ⟨#[60, 60]⟩ _) ?_)
      rintro en w2 ⟨he, hb2⟩
      rw [HRL.out, show List.isPrefixOf (ByteArray.data ⟨#[60, 60]⟩).toList (fromN s a) = false from HPP.out] at he
      subst he)
    exact ⟨⟨10, rfl, by omega, by omega, ⟨below_then HB.out HB.out.size hb2⟩, ⟨fun j hj => by
     by_cases e : j = 9
     ·subst e; exact HPP.out
     ·exact HJ.out j (by omega)⟩⟩, by simp [intOf]⟩
  ·have hx := idx97_10
   cases hp : List.isPrefixOf [62, 62] (fromN s a) with
   | true =>
    have HPP := Aside0.mk hp
    clear hp
    go_wp2_with (
      go_at_call 33
      (with_reducible refine Calls.mono (pre_said rs ⟨#[62, 62]⟩ _) ?_)
      rintro en w2 ⟨he, hb2⟩
      rw [HRL.out, show List.isPrefixOf (ByteArray.data ⟨#[62, 62]⟩).toList (fromN s a) = true from HPP.out] at he
      subst he)
    go_ret
    rw [two_at 10 (by omega) HPP.out]
    exact ⟨rfl, below_then HB.out HB.out.size hb2⟩
   | false =>
    have HPP := Aside0.mk hp
    clear hp
    go_wp2_with (
      go_at_call 33
      (with_reducible refine Calls.mono (pre_said rs ⟨#[62, 62]⟩ _) ?_)
      rintro en w2 ⟨he, hb2⟩
      rw [HRL.out, show List.isPrefixOf (ByteArray.data ⟨#[62, 62]⟩).toList (fromN s a) = false from HPP.out] at he
      subst he)
    exact ⟨⟨11, rfl, by omega, by omega, ⟨below_then HB.out HB.out.size hb2⟩, ⟨fun j hj => by
     by_cases e : j = 10
     ·subst e; exact HPP.out
     ·exact HJ.out j (by omega)⟩⟩, by simp [intOf]⟩
  ·have hno := two_no (l := fromN s a) fun k hk => HJ.out k (by omega)
   obtain ⟨q, hq⟩ : ∃ q, Lib.indexByte oneSigns.data.toList b0 = q := ⟨_, rfl⟩
   have HQ : Aside0 (Lib.indexByte [40, 41, 123, 125, 91, 93, 60, 62, 43, 45, 42, 47, 37, 38, 124, 94, 33, 61, 44, 59, 58, 46] b0 = q) := ⟨hq⟩
   have HQ1 := Aside0.mk hq
   clear hq
   by_cases hq0 : 0 ≤ q
   ·have hs0 : signN (fromN s a) = 1 := by
     unfold signN
     rw [if_neg (by rw [hno]; decide), e0]
     dsimp only
     rw [HQ1.out]
     exact if_pos hq0
    have hd : decide (0 ≤ q) = true := decide_eq_true hq0
    have hd2 : decide (q ≥ 0) = true := decide_eq_true hq0
    have HS0 := Aside0.mk hs0
    clear hs0 hno hq0
    have hg := HRB.out hr0
    go_wp2_with (
      go_at_call 59
      (with_reducible refine Calls.mono (Tryd.strings_IndexByte oneSigns (b0.toNat : Int) _) ?_)
      rintro en w2 ⟨he, hw2⟩
      rw [byte_back, HQ1.out] at he
      subst he
      subst hw2)
    go_ret
    rw [HS0.out]
    exact ⟨rfl, HB.out⟩
   ·have hs0 : signN (fromN s a) = 0 := by
     unfold signN
     rw [if_neg (by rw [hno]; decide), e0]
     dsimp only
     rw [HQ1.out]
     exact if_neg hq0
    have hd : decide (0 ≤ q) = false := decide_eq_false hq0
    have hd2 : decide (q ≥ 0) = false := decide_eq_false hq0
    have HS0 := Aside0.mk hs0
    clear hs0 hno hq0
    have hg := HRB.out hr0
    go_wp2_with (
      go_at_call 59
      (with_reducible refine Calls.mono (Tryd.strings_IndexByte oneSigns (b0.toNat : Int) _) ?_)
      rintro en w2 ⟨he, hw2⟩
      rw [byte_back, HQ1.out] at he
      subst he
      subst hw2)
    go_ret
    rw [HS0.out]
    exact ⟨rfl, HB.out⟩
end Go.Proofs.YtngpgdmafmkddaaDoor.Lex
end
section
namespace Go.Proofs.YtngpgdmafmkddaaDoor.Lex
open Go.Proofs.YtngpgdmafmkddaaDoor.Calm Go.Proofs.YtngpgdmafmkddaaDoor.Par Go.RowKit Go.Proofs.YtngpgdmafmkddaaDoorW.PrintWords Go.Proofs.YtngpgdmafmkddaaDoorW.PrintLast Go.Proofs.YtngpgdmafmkddaaDoorW.PrintMore
open Go.Proofs.YtngpgdmafmkddaaDoor.PParseBlanks (S35 S25 S27 k35 k25 k27 rd_T35 rd_T25 rd_T27 at_T35 at_T25 at_T27)
set_option linter.unusedVariables false
set_option linter.unusedSimpArgs false
open Go.Maps Go.WideMaps
abbrev Tab (w : World) : Prop := Lib.TabBelow Tryd.prog w.heap.size w "strings.asciiSpace" .u8 Lib.asciiSpaceTab
theorem Tab.below {w w' : World} (h : Tab w) (hb : Below w.heap.size w w') : Tab w' := Lib.tabBelow_of_tabIs (h w' hb)
abbrev wordL : List (List UInt8) := [[102, 110], [115, 116, 114, 117, 99, 116], [101, 110, 117, 109], [99, 111, 110, 115, 116], [108, 101, 116], [109, 117, 116], [105, 102], [101, 108, 115, 101], [109, 97, 116, 99, 104], [119, 104, 105, 108, 101], [108, 111, 111, 112], [98, 114, 101, 97, 107], [99, 111, 110, 116, 105, 110, 117, 101], [114, 101, 116, 117, 114, 110], [116, 114, 117, 101], [102, 97, 108, 115, 101], [97, 115]]
noncomputable abbrev E4 : Value → Option (DataW Unit × List MemPlace) := plainElem Tryd.prog 4
noncomputable def wdD (l : List (List UInt8)) : DataW Unit := l.foldl (fun D p => D.put (.string p) (.lit (.bool true))) (.map [])
abbrev wordText : ByteArray := ⟨#[102, 110, 32, 115, 116, 114, 117, 99, 116, 32, 101, 110, 117, 109, 32, 99, 111, 110, 115, 116, 32, 108, 101, 116, 32, 109, 117, 116, 32, 105, 102, 32, 101, 108, 115, 101, 32, 109, 97, 116, 99, 104, 32, 119, 104, 105, 108, 101, 32, 108, 111, 111, 112, 32, 98, 114, 101, 97, 107, 32, 99, 111, 110, 116, 105, 110, 117, 101, 32, 114, 101, 116, 117, 114, 110, 32, 116, 114, 117, 101, 32, 102, 97, 108, 115, 101, 32, 97, 115]⟩
theorem fields_row : ((Lib.fields wordText.data.toList).map fun l => Value.string ⟨l.toArray⟩).toArray = #[.string ⟨#[102, 110]⟩, .string ⟨#[115, 116, 114, 117, 99, 116]⟩, .string ⟨#[101, 110, 117, 109]⟩, .string ⟨#[99, 111, 110, 115, 116]⟩, .string ⟨#[108, 101, 116]⟩, .string ⟨#[109, 117, 116]⟩, .string ⟨#[105, 102]⟩, .string ⟨#[101, 108, 115, 101]⟩, .string ⟨#[109, 97, 116, 99, 104]⟩, .string ⟨#[119, 104, 105, 108, 101]⟩, .string ⟨#[108, 111, 111, 112]⟩, .string ⟨#[98, 114, 101, 97, 107]⟩, .string ⟨#[99, 111, 110, 116, 105, 110, 117, 101]⟩, .string ⟨#[114, 101, 116, 117, 114, 110]⟩, .string ⟨#[116, 114, 117, 101]⟩, .string ⟨#[102, 97, 108, 115, 101]⟩, .string ⟨#[97, 115]⟩] := by kernel_rfl
theorem fields_len : (Lib.fields wordText.data.toList).length = 17 := by kernel_rfl
theorem text_ascii : ∀ (j : Nat) b, wordText.data.toList[j]? = some b → b.toNat < 128 := by
 intro j b h
 have h2 : (wordText.data.toList.all fun b => decide (b.toNat < 128)) = true := by kernel_rfl
 have h3 := List.all_eq_true.1 h2 b (List.mem_of_getElem? h)
 simpa using h3
set_option maxRecDepth 100000 in
set_option maxHeartbeats 4000000 in
theorem words_said (w : World) (HT : Tab w) :
  Calls Tryd.prog 21 #[] w fun e w' => ∃ b, e = .returned (.map (some b)) ∧ w'.ownsMap Tryd.prog 9 E4 b 17 (wdD wordL) ∧ w.heap.size ≤ b ∧ Below w.heap.size w w' := by
 have hmm := @run_makeMap Tryd.prog
 have HB0 := Aside0.mk (below_alloc (Below.refl w.heap.size w) (Obj.map #[] 0))
 have HT0 := Aside0.mk (HT w (Below.refl _ _))
 have HTB : Aside0 (Lib.TabIs Tryd.prog (w.alloc (Obj.map #[] 0)) "strings.asciiSpace" .u8 Lib.asciiSpaceTab) := ⟨HT _ HB0.out⟩
 have HM0 : Aside0 (World.ownsMap ((w.alloc (Obj.map #[] 0)).alloc (Obj.cells #[.string ⟨#[102, 110]⟩, .string ⟨#[115, 116, 114, 117, 99, 116]⟩, .string ⟨#[101, 110, 117, 109]⟩, .string ⟨#[99, 111, 110, 115, 116]⟩, .string ⟨#[108, 101, 116]⟩, .string ⟨#[109, 117, 116]⟩, .string ⟨#[105, 102]⟩, .string ⟨#[101, 108, 115, 101]⟩, .string ⟨#[109, 97, 116, 99, 104]⟩, .string ⟨#[119, 104, 105, 108, 101]⟩, .string ⟨#[108, 111, 111, 112]⟩, .string ⟨#[98, 114, 101, 97, 107]⟩, .string ⟨#[99, 111, 110, 116, 105, 110, 117, 101]⟩, .string ⟨#[114, 101, 116, 117, 114, 110]⟩, .string ⟨#[116, 114, 117, 101]⟩, .string ⟨#[102, 97, 108, 115, 101]⟩, .string ⟨#[97, 115]⟩] 9)) Tryd.prog 9 E4 w.heap.size 0 (wdD (wordL.take 0))) := ⟨World.ownsMap.alloc (World.ownsMap_made w Tryd.prog 9 E4) _⟩
 have HR0 : Aside0 (Has ((w.alloc (Obj.map #[] 0)).alloc (Obj.cells #[.string ⟨#[102, 110]⟩, .string ⟨#[115, 116, 114, 117, 99, 116]⟩, .string ⟨#[101, 110, 117, 109]⟩, .string ⟨#[99, 111, 110, 115, 116]⟩, .string ⟨#[108, 101, 116]⟩, .string ⟨#[109, 117, 116]⟩, .string ⟨#[105, 102]⟩, .string ⟨#[101, 108, 115, 101]⟩, .string ⟨#[109, 97, 116, 99, 104]⟩, .string ⟨#[119, 104, 105, 108, 101]⟩, .string ⟨#[108, 111, 111, 112]⟩, .string ⟨#[98, 114, 101, 97, 107]⟩, .string ⟨#[99, 111, 110, 116, 105, 110, 117, 101]⟩, .string ⟨#[114, 101, 116, 117, 114, 110]⟩, .string ⟨#[116, 114, 117, 101]⟩, .string ⟨#[102, 97, 108, 115, 101]⟩, .string ⟨#[97, 115]⟩] 9)) (w.heap.size + 1) #[.string ⟨#[102, 110]⟩, .string ⟨#[115, 116, 114, 117, 99, 116]⟩, .string ⟨#[101, 110, 117, 109]⟩, .string ⟨#[99, 111, 110, 115, 116]⟩, .string ⟨#[108, 101, 116]⟩, .string ⟨#[109, 117, 116]⟩, .string ⟨#[105, 102]⟩, .string ⟨#[101, 108, 115, 101]⟩, .string ⟨#[109, 97, 116, 99, 104]⟩, .string ⟨#[119, 104, 105, 108, 101]⟩, .string ⟨#[108, 111, 111, 112]⟩, .string ⟨#[98, 114, 101, 97, 107]⟩, .string ⟨#[99, 111, 110, 116, 105, 110, 117, 101]⟩, .string ⟨#[114, 101, 116, 117, 114, 110]⟩, .string ⟨#[116, 114, 117, 101]⟩, .string ⟨#[102, 97, 108, 115, 101]⟩, .string ⟨#[97, 115]⟩] 9) := ⟨by
  have h := Has.new (w.alloc (Obj.map #[] 0)) #[.string ⟨#[102, 110]⟩, .string ⟨#[115, 116, 114, 117, 99, 116]⟩, .string ⟨#[101, 110, 117, 109]⟩, .string ⟨#[99, 111, 110, 115, 116]⟩, .string ⟨#[108, 101, 116]⟩, .string ⟨#[109, 117, 116]⟩, .string ⟨#[105, 102]⟩, .string ⟨#[101, 108, 115, 101]⟩, .string ⟨#[109, 97, 116, 99, 104]⟩, .string ⟨#[119, 104, 105, 108, 101]⟩, .string ⟨#[108, 111, 111, 112]⟩, .string ⟨#[98, 114, 101, 97, 107]⟩, .string ⟨#[99, 111, 110, 116, 105, 110, 117, 101]⟩, .string ⟨#[114, 101, 116, 117, 114, 110]⟩, .string ⟨#[116, 114, 117, 101]⟩, .string ⟨#[102, 97, 108, 115, 101]⟩, .string ⟨#[97, 115]⟩] 9
  have hs : (w.alloc (Obj.map #[] 0)).heap.size = w.heap.size + 1 := by simp
  rwa [hs] at h⟩
 have HB1 := Aside0.mk (below_alloc HB0.out (Obj.cells #[.string ⟨#[102, 110]⟩, .string ⟨#[115, 116, 114, 117, 99, 116]⟩, .string ⟨#[101, 110, 117, 109]⟩, .string ⟨#[99, 111, 110, 115, 116]⟩, .string ⟨#[108, 101, 116]⟩, .string ⟨#[109, 117, 116]⟩, .string ⟨#[105, 102]⟩, .string ⟨#[101, 108, 115, 101]⟩, .string ⟨#[109, 97, 116, 99, 104]⟩, .string ⟨#[119, 104, 105, 108, 101]⟩, .string ⟨#[108, 111, 111, 112]⟩, .string ⟨#[98, 114, 101, 97, 107]⟩, .string ⟨#[99, 111, 110, 116, 105, 110, 117, 101]⟩, .string ⟨#[114, 101, 116, 117, 114, 110]⟩, .string ⟨#[116, 114, 117, 101]⟩, .string ⟨#[102, 97, 108, 115, 101]⟩, .string ⟨#[97, 115]⟩] 9))
 clear HT HT0 HB0
 go_enter Tryd.func21, Tryd.ntmps21
 go_wp2_with (
  go_at_call 30
  (with_reducible refine Calls.mono (Tryd.strings_Fields wordText _ (by decide) text_ascii HTB.out) ?_)
  rintro en w1 ⟨he, hw⟩
  rw [fields_len] at he
  rw [fields_row] at hw
  subst he
  subst hw)
 obtain ⟨W, hW⟩ : ∃ W, (w.alloc (Obj.map #[] 0)).alloc (Obj.cells #[.string ⟨#[102, 110]⟩, .string ⟨#[115, 116, 114, 117, 99, 116]⟩, .string ⟨#[101, 110, 117, 109]⟩, .string ⟨#[99, 111, 110, 115, 116]⟩, .string ⟨#[108, 101, 116]⟩, .string ⟨#[109, 117, 116]⟩, .string ⟨#[105, 102]⟩, .string ⟨#[101, 108, 115, 101]⟩, .string ⟨#[109, 97, 116, 99, 104]⟩, .string ⟨#[119, 104, 105, 108, 101]⟩, .string ⟨#[108, 111, 111, 112]⟩, .string ⟨#[98, 114, 101, 97, 107]⟩, .string ⟨#[99, 111, 110, 116, 105, 110, 117, 101]⟩, .string ⟨#[114, 101, 116, 117, 114, 110]⟩, .string ⟨#[116, 114, 117, 101]⟩, .string ⟨#[102, 97, 108, 115, 101]⟩, .string ⟨#[97, 115]⟩] 9) = W := ⟨_, rfl⟩
 rw [hW] at HM0 HR0 HB1
 try rw [hW]
 go_loopw [7] (fun v wr => ∃ i : Int, v = .int .i64 i ∧ 0 ≤ i ∧ i ≤ 17 ∧ Aside0 (wr.ownsMap Tryd.prog 9 E4 w.heap.size i.toNat (wdD (wordL.take i.toNat))) ∧ Aside0 (Has wr (w.heap.size + 1) #[.string ⟨#[102, 110]⟩, .string ⟨#[115, 116, 114, 117, 99, 116]⟩, .string ⟨#[101, 110, 117, 109]⟩, .string ⟨#[99, 111, 110, 115, 116]⟩, .string ⟨#[108, 101, 116]⟩, .string ⟨#[109, 117, 116]⟩, .string ⟨#[105, 102]⟩, .string ⟨#[101, 108, 115, 101]⟩, .string ⟨#[109, 97, 116, 99, 104]⟩, .string ⟨#[119, 104, 105, 108, 101]⟩, .string ⟨#[108, 111, 111, 112]⟩, .string ⟨#[98, 114, 101, 97, 107]⟩, .string ⟨#[99, 111, 110, 116, 105, 110, 117, 101]⟩, .string ⟨#[114, 101, 116, 117, 114, 110]⟩, .string ⟨#[116, 114, 117, 101]⟩, .string ⟨#[102, 97, 108, 115, 101]⟩, .string ⟨#[97, 115]⟩] 9) ∧ Aside0 (Below w.heap.size w wr)) (fun v _ => 17 - (intOf v).toNat)
 case atStart => exact ⟨0, rfl, by omega, by omega, HM0, HR0, HB1⟩
 case round =>
  clear HM0 HR0 HB1 HTB
  obtain ⟨i, rfl, hi0, hi1, HM, HR, HB⟩ := hrel
  rcases (by omega : i = 0 ∨ i = 1 ∨ i = 2 ∨ i = 3 ∨ i = 4 ∨ i = 5 ∨ i = 6 ∨ i = 7 ∨ i = 8 ∨ i = 9 ∨ i = 10 ∨ i = 11 ∨ i = 12 ∨ i = 13 ∨ i = 14 ∨ i = 15 ∨ i = 16 ∨ i = 17) with rfl | rfl | rfl | rfl | rfl | rfl | rfl | rfl | rfl | rfl | rfl | rfl | rfl | rfl | rfl | rfl | rfl | rfl
  ·have c0 := HR.out.cell 0
   simp only [List.getElem?_toArray, List.getElem?_cons_zero, List.getElem?_cons_succ] at c0
   go_wp2_with ((with_reducible refine wpList_mapUpdate_own _ rfl (.tmp 11) (.tmp 12) (.const (.bool true)) 62 rfl 9 4 law9 Tryd.underlying62 E4 w.heap.size _ _ rfl HM.out (by decide) (.string ⟨#[102, 110]⟩) (.bool true) _ rfl rfl (keyOf_string_mk Tryd.underlying9 (by decide)) (.lit (.bool true)) [] (plainElem_bool Tryd.underlying4 true) ?_); intro w3 h3 b3)
   exact ⟨⟨1, rfl, by omega, by omega, ⟨h3⟩, ⟨HR.out.grown b3 (by omega)⟩, ⟨pw_below_grown HB.out _ HB.out.size b3 (by rintro k ⟨⟩; exact Nat.le_refl _)⟩⟩, by simp [intOf]⟩
  ·have c0 := HR.out.cell 1
   simp only [List.getElem?_toArray, List.getElem?_cons_zero, List.getElem?_cons_succ] at c0
   go_wp2_with ((with_reducible refine wpList_mapUpdate_own _ rfl (.tmp 11) (.tmp 12) (.const (.bool true)) 62 rfl 9 4 law9 Tryd.underlying62 E4 w.heap.size _ _ rfl HM.out (by decide) (.string ⟨#[115, 116, 114, 117, 99, 116]⟩) (.bool true) _ rfl rfl (keyOf_string_mk Tryd.underlying9 (by decide)) (.lit (.bool true)) [] (plainElem_bool Tryd.underlying4 true) ?_); intro w3 h3 b3)
   exact ⟨⟨2, rfl, by omega, by omega, ⟨h3⟩, ⟨HR.out.grown b3 (by omega)⟩, ⟨pw_below_grown HB.out _ HB.out.size b3 (by rintro k ⟨⟩; exact Nat.le_refl _)⟩⟩, by simp [intOf]⟩
  ·have c0 := HR.out.cell 2
   simp only [List.getElem?_toArray, List.getElem?_cons_zero, List.getElem?_cons_succ] at c0
   go_wp2_with ((with_reducible refine wpList_mapUpdate_own _ rfl (.tmp 11) (.tmp 12) (.const (.bool true)) 62 rfl 9 4 law9 Tryd.underlying62 E4 w.heap.size _ _ rfl HM.out (by decide) (.string ⟨#[101, 110, 117, 109]⟩) (.bool true) _ rfl rfl (keyOf_string_mk Tryd.underlying9 (by decide)) (.lit (.bool true)) [] (plainElem_bool Tryd.underlying4 true) ?_); intro w3 h3 b3)
   exact ⟨⟨3, rfl, by omega, by omega, ⟨h3⟩, ⟨HR.out.grown b3 (by omega)⟩, ⟨pw_below_grown HB.out _ HB.out.size b3 (by rintro k ⟨⟩; exact Nat.le_refl _)⟩⟩, by simp [intOf]⟩
  ·have c0 := HR.out.cell 3
   simp only [List.getElem?_toArray, List.getElem?_cons_zero, List.getElem?_cons_succ] at c0
   go_wp2_with ((with_reducible refine wpList_mapUpdate_own _ rfl (.tmp 11) (.tmp 12) (.const (.bool true)) 62 rfl 9 4 law9 Tryd.underlying62 E4 w.heap.size _ _ rfl HM.out (by decide) (.string ⟨#[99, 111, 110, 115, 116]⟩) (.bool true) _ rfl rfl (keyOf_string_mk Tryd.underlying9 (by decide)) (.lit (.bool true)) [] (plainElem_bool Tryd.underlying4 true) ?_); intro w3 h3 b3)
   exact ⟨⟨4, rfl, by omega, by omega, ⟨h3⟩, ⟨HR.out.grown b3 (by omega)⟩, ⟨pw_below_grown HB.out _ HB.out.size b3 (by rintro k ⟨⟩; exact Nat.le_refl _)⟩⟩, by simp [intOf]⟩
  ·have c0 := HR.out.cell 4
   simp only [List.getElem?_toArray, List.getElem?_cons_zero, List.getElem?_cons_succ] at c0
   go_wp2_with ((with_reducible refine wpList_mapUpdate_own _ rfl (.tmp 11) (.tmp 12) (.const (.bool true)) 62 rfl 9 4 law9 Tryd.underlying62 E4 w.heap.size _ _ rfl HM.out (by decide) (.string ⟨#[108, 101, 116]⟩) (.bool true) _ rfl rfl (keyOf_string_mk Tryd.underlying9 (by decide)) (.lit (.bool true)) [] (plainElem_bool Tryd.underlying4 true) ?_); intro w3 h3 b3)
   exact ⟨⟨5, rfl, by omega, by omega, ⟨h3⟩, ⟨HR.out.grown b3 (by omega)⟩, ⟨pw_below_grown HB.out _ HB.out.size b3 (by rintro k ⟨⟩; exact Nat.le_refl _)⟩⟩, by simp [intOf]⟩
  ·have c0 := HR.out.cell 5
   simp only [List.getElem?_toArray, List.getElem?_cons_zero, List.getElem?_cons_succ] at c0
   go_wp2_with ((with_reducible refine wpList_mapUpdate_own _ rfl (.tmp 11) (.tmp 12) (.const (.bool true)) 62 rfl 9 4 law9 Tryd.underlying62 E4 w.heap.size _ _ rfl HM.out (by decide) (.string ⟨#[109, 117, 116]⟩) (.bool true) _ rfl rfl (keyOf_string_mk Tryd.underlying9 (by decide)) (.lit (.bool true)) [] (plainElem_bool Tryd.underlying4 true) ?_); intro w3 h3 b3)
   exact ⟨⟨6, rfl, by omega, by omega, ⟨h3⟩, ⟨HR.out.grown b3 (by omega)⟩, ⟨pw_below_grown HB.out _ HB.out.size b3 (by rintro k ⟨⟩; exact Nat.le_refl _)⟩⟩, by simp [intOf]⟩
  ·have c0 := HR.out.cell 6
   simp only [List.getElem?_toArray, List.getElem?_cons_zero, List.getElem?_cons_succ] at c0
   go_wp2_with ((with_reducible refine wpList_mapUpdate_own _ rfl (.tmp 11) (.tmp 12) (.const (.bool true)) 62 rfl 9 4 law9 Tryd.underlying62 E4 w.heap.size _ _ rfl HM.out (by decide) (.string ⟨#[105, 102]⟩) (.bool true) _ rfl rfl (keyOf_string_mk Tryd.underlying9 (by decide)) (.lit (.bool true)) [] (plainElem_bool Tryd.underlying4 true) ?_); intro w3 h3 b3)
   exact ⟨⟨7, rfl, by omega, by omega, ⟨h3⟩, ⟨HR.out.grown b3 (by omega)⟩, ⟨pw_below_grown HB.out _ HB.out.size b3 (by rintro k ⟨⟩; exact Nat.le_refl _)⟩⟩, by simp [intOf]⟩
  ·have c0 := HR.out.cell 7
   simp only [List.getElem?_toArray, List.getElem?_cons_zero, List.getElem?_cons_succ] at c0
   go_wp2_with ((with_reducible refine wpList_mapUpdate_own _ rfl (.tmp 11) (.tmp 12) (.const (.bool true)) 62 rfl 9 4 law9 Tryd.underlying62 E4 w.heap.size _ _ rfl HM.out (by decide) (.string ⟨#[101, 108, 115, 101]⟩) (.bool true) _ rfl rfl (keyOf_string_mk Tryd.underlying9 (by decide)) (.lit (.bool true)) [] (plainElem_bool Tryd.underlying4 true) ?_); intro w3 h3 b3)
   exact ⟨⟨8, rfl, by omega, by omega, ⟨h3⟩, ⟨HR.out.grown b3 (by omega)⟩, ⟨pw_below_grown HB.out _ HB.out.size b3 (by rintro k ⟨⟩; exact Nat.le_refl _)⟩⟩, by simp [intOf]⟩
  ·have c0 := HR.out.cell 8
   simp only [List.getElem?_toArray, List.getElem?_cons_zero, List.getElem?_cons_succ] at c0
   go_wp2_with ((with_reducible refine wpList_mapUpdate_own _ rfl (.tmp 11) (.tmp 12) (.const (.bool true)) 62 rfl 9 4 law9 Tryd.underlying62 E4 w.heap.size _ _ rfl HM.out (by decide) (.string ⟨#[109, 97, 116, 99, 104]⟩) (.bool true) _ rfl rfl (keyOf_string_mk Tryd.underlying9 (by decide)) (.lit (.bool true)) [] (plainElem_bool Tryd.underlying4 true) ?_); intro w3 h3 b3)
   exact ⟨⟨9, rfl, by omega, by omega, ⟨h3⟩, ⟨HR.out.grown b3 (by omega)⟩, ⟨pw_below_grown HB.out _ HB.out.size b3 (by rintro k ⟨⟩; exact Nat.le_refl _)⟩⟩, by simp [intOf]⟩
  ·have c0 := HR.out.cell 9
   simp only [List.getElem?_toArray, List.getElem?_cons_zero, List.getElem?_cons_succ] at c0
   go_wp2_with ((with_reducible refine wpList_mapUpdate_own _ rfl (.tmp 11) (.tmp 12) (.const (.bool true)) 62 rfl 9 4 law9 Tryd.underlying62 E4 w.heap.size _ _ rfl HM.out (by decide) (.string ⟨#[119, 104, 105, 108, 101]⟩) (.bool true) _ rfl rfl (keyOf_string_mk Tryd.underlying9 (by decide)) (.lit (.bool true)) [] (plainElem_bool Tryd.underlying4 true) ?_); intro w3 h3 b3)
   exact ⟨⟨10, rfl, by omega, by omega, ⟨h3⟩, ⟨HR.out.grown b3 (by omega)⟩, ⟨pw_below_grown HB.out _ HB.out.size b3 (by rintro k ⟨⟩; exact Nat.le_refl _)⟩⟩, by simp [intOf]⟩
  ·have c0 := HR.out.cell 10
   simp only [List.getElem?_toArray, List.getElem?_cons_zero, List.getElem?_cons_succ] at c0
   go_wp2_with ((with_reducible refine wpList_mapUpdate_own _ rfl (.tmp 11) (.tmp 12) (.const (.bool true)) 62 rfl 9 4 law9 Tryd.underlying62 E4 w.heap.size _ _ rfl HM.out (by decide) (.string ⟨#[108, 111, 111, 112]⟩) (.bool true) _ rfl rfl (keyOf_string_mk Tryd.underlying9 (by decide)) (.lit (.bool true)) [] (plainElem_bool Tryd.underlying4 true) ?_); intro w3 h3 b3)
   exact ⟨⟨11, rfl, by omega, by omega, ⟨h3⟩, ⟨HR.out.grown b3 (by omega)⟩, ⟨pw_below_grown HB.out _ HB.out.size b3 (by rintro k ⟨⟩; exact Nat.le_refl _)⟩⟩, by simp [intOf]⟩
  ·have c0 := HR.out.cell 11
   simp only [List.getElem?_toArray, List.getElem?_cons_zero, List.getElem?_cons_succ] at c0
   go_wp2_with ((with_reducible refine wpList_mapUpdate_own _ rfl (.tmp 11) (.tmp 12) (.const (.bool true)) 62 rfl 9 4 law9 Tryd.underlying62 E4 w.heap.size _ _ rfl HM.out (by decide) (.string ⟨#[98, 114, 101, 97, 107]⟩) (.bool true) _ rfl rfl (keyOf_string_mk Tryd.underlying9 (by decide)) (.lit (.bool true)) [] (plainElem_bool Tryd.underlying4 true) ?_); intro w3 h3 b3)
   exact ⟨⟨12, rfl, by omega, by omega, ⟨h3⟩, ⟨HR.out.grown b3 (by omega)⟩, ⟨pw_below_grown HB.out _ HB.out.size b3 (by rintro k ⟨⟩; exact Nat.le_refl _)⟩⟩, by simp [intOf]⟩
  ·have c0 := HR.out.cell 12
   simp only [List.getElem?_toArray, List.getElem?_cons_zero, List.getElem?_cons_succ] at c0
   go_wp2_with ((with_reducible refine wpList_mapUpdate_own _ rfl (.tmp 11) (.tmp 12) (.const (.bool true)) 62 rfl 9 4 law9 Tryd.underlying62 E4 w.heap.size _ _ rfl HM.out (by decide) (.string ⟨#[99, 111, 110, 116, 105, 110, 117, 101]⟩) (.bool true) _ rfl rfl (keyOf_string_mk Tryd.underlying9 (by decide)) (.lit (.bool true)) [] (plainElem_bool Tryd.underlying4 true) ?_); intro w3 h3 b3)
   exact ⟨⟨13, rfl, by omega, by omega, ⟨h3⟩, ⟨HR.out.grown b3 (by omega)⟩, ⟨pw_below_grown HB.out _ HB.out.size b3 (by rintro k ⟨⟩; exact Nat.le_refl _)⟩⟩, by simp [intOf]⟩
  ·have c0 := HR.out.cell 13
   simp only [List.getElem?_toArray, List.getElem?_cons_zero, List.getElem?_cons_succ] at c0
   go_wp2_with ((with_reducible refine wpList_mapUpdate_own _ rfl (.tmp 11) (.tmp 12) (.const (.bool true)) 62 rfl 9 4 law9 Tryd.underlying62 E4 w.heap.size _ _ rfl HM.out (by decide) (.string ⟨#[114, 101, 116, 117, 114, 110]⟩) (.bool true) _ rfl rfl (keyOf_string_mk Tryd.underlying9 (by decide)) (.lit (.bool true)) [] (plainElem_bool Tryd.underlying4 true) ?_); intro w3 h3 b3)
   exact ⟨⟨14, rfl, by omega, by omega, ⟨h3⟩, ⟨HR.out.grown b3 (by omega)⟩, ⟨pw_below_grown HB.out _ HB.out.size b3 (by rintro k ⟨⟩; exact Nat.le_refl _)⟩⟩, by simp [intOf]⟩
  ·have c0 := HR.out.cell 14
   simp only [List.getElem?_toArray, List.getElem?_cons_zero, List.getElem?_cons_succ] at c0
   go_wp2_with ((with_reducible refine wpList_mapUpdate_own _ rfl (.tmp 11) (.tmp 12) (.const (.bool true)) 62 rfl 9 4 law9 Tryd.underlying62 E4 w.heap.size _ _ rfl HM.out (by decide) (.string ⟨#[116, 114, 117, 101]⟩) (.bool true) _ rfl rfl (keyOf_string_mk Tryd.underlying9 (by decide)) (.lit (.bool true)) [] (plainElem_bool Tryd.underlying4 true) ?_); intro w3 h3 b3)
   exact ⟨⟨15, rfl, by omega, by omega, ⟨h3⟩, ⟨HR.out.grown b3 (by omega)⟩, ⟨pw_below_grown HB.out _ HB.out.size b3 (by rintro k ⟨⟩; exact Nat.le_refl _)⟩⟩, by simp [intOf]⟩
  ·have c0 := HR.out.cell 15
   simp only [List.getElem?_toArray, List.getElem?_cons_zero, List.getElem?_cons_succ] at c0
   go_wp2_with ((with_reducible refine wpList_mapUpdate_own _ rfl (.tmp 11) (.tmp 12) (.const (.bool true)) 62 rfl 9 4 law9 Tryd.underlying62 E4 w.heap.size _ _ rfl HM.out (by decide) (.string ⟨#[102, 97, 108, 115, 101]⟩) (.bool true) _ rfl rfl (keyOf_string_mk Tryd.underlying9 (by decide)) (.lit (.bool true)) [] (plainElem_bool Tryd.underlying4 true) ?_); intro w3 h3 b3)
   exact ⟨⟨16, rfl, by omega, by omega, ⟨h3⟩, ⟨HR.out.grown b3 (by omega)⟩, ⟨pw_below_grown HB.out _ HB.out.size b3 (by rintro k ⟨⟩; exact Nat.le_refl _)⟩⟩, by simp [intOf]⟩
  ·have c0 := HR.out.cell 16
   simp only [List.getElem?_toArray, List.getElem?_cons_zero, List.getElem?_cons_succ] at c0
   go_wp2_with ((with_reducible refine wpList_mapUpdate_own _ rfl (.tmp 11) (.tmp 12) (.const (.bool true)) 62 rfl 9 4 law9 Tryd.underlying62 E4 w.heap.size _ _ rfl HM.out (by decide) (.string ⟨#[97, 115]⟩) (.bool true) _ rfl rfl (keyOf_string_mk Tryd.underlying9 (by decide)) (.lit (.bool true)) [] (plainElem_bool Tryd.underlying4 true) ?_); intro w3 h3 b3)
   exact ⟨⟨17, rfl, by omega, by omega, ⟨h3⟩, ⟨HR.out.grown b3 (by omega)⟩, ⟨pw_below_grown HB.out _ HB.out.size b3 (by rintro k ⟨⟩; exact Nat.le_refl _)⟩⟩, by simp [intOf]⟩
  ·go_wp2
   go_ret
   exact ⟨w.heap.size, rfl, HM.out, Nat.le_refl _, HB.out⟩
theorem wdD_eq : wdD wordL = .map [(.string [97, 115], .lit (.bool true)), (.string [98, 114, 101, 97, 107], .lit (.bool true)), (.string [99, 111, 110, 115, 116], .lit (.bool true)), (.string [99, 111, 110, 116, 105, 110, 117, 101], .lit (.bool true)), (.string [101, 108, 115, 101], .lit (.bool true)), (.string [101, 110, 117, 109], .lit (.bool true)), (.string [102, 97, 108, 115, 101], .lit (.bool true)), (.string [102, 110], .lit (.bool true)), (.string [105, 102], .lit (.bool true)), (.string [108, 101, 116], .lit (.bool true)), (.string [108, 111, 111, 112], .lit (.bool true)), (.string [109, 97, 116, 99, 104], .lit (.bool true)), (.string [109, 117, 116], .lit (.bool true)), (.string [114, 101, 116, 117, 114, 110], .lit (.bool true)), (.string [115, 116, 114, 117, 99, 116], .lit (.bool true)), (.string [116, 114, 117, 101], .lit (.bool true)), (.string [119, 104, 105, 108, 101], .lit (.bool true))] := by kernel_rfl
def wordB (l : List UInt8) : Bool := wordL.any fun p => p == l
theorem wd_at (l : List UInt8) : (wdD wordL).atKey (.string l) (.lit (.bool false)) = .lit (.bool (wordB l)) := by
 rw [wdD_eq]
 by_cases h0 : l = [102, 110]
 ·subst h0; rfl
 by_cases h1 : l = [115, 116, 114, 117, 99, 116]
 ·subst h1; rfl
 by_cases h2 : l = [101, 110, 117, 109]
 ·subst h2; rfl
 by_cases h3 : l = [99, 111, 110, 115, 116]
 ·subst h3; rfl
 by_cases h4 : l = [108, 101, 116]
 ·subst h4; rfl
 by_cases h5 : l = [109, 117, 116]
 ·subst h5; rfl
 by_cases h6 : l = [105, 102]
 ·subst h6; rfl
 by_cases h7 : l = [101, 108, 115, 101]
 ·subst h7; rfl
 by_cases h8 : l = [109, 97, 116, 99, 104]
 ·subst h8; rfl
 by_cases h9 : l = [119, 104, 105, 108, 101]
 ·subst h9; rfl
 by_cases h10 : l = [108, 111, 111, 112]
 ·subst h10; rfl
 by_cases h11 : l = [98, 114, 101, 97, 107]
 ·subst h11; rfl
 by_cases h12 : l = [99, 111, 110, 116, 105, 110, 117, 101]
 ·subst h12; rfl
 by_cases h13 : l = [114, 101, 116, 117, 114, 110]
 ·subst h13; rfl
 by_cases h14 : l = [116, 114, 117, 101]
 ·subst h14; rfl
 by_cases h15 : l = [102, 97, 108, 115, 101]
 ·subst h15; rfl
 by_cases h16 : l = [97, 115]
 ·subst h16; rfl
 have e : wordB l = false := by simp [wordB, Ne.symm h0, Ne.symm h1, Ne.symm h2, Ne.symm h3, Ne.symm h4, Ne.symm h5, Ne.symm h6, Ne.symm h7, Ne.symm h8, Ne.symm h9, Ne.symm h10, Ne.symm h11, Ne.symm h12, Ne.symm h13, Ne.symm h14, Ne.symm h15, Ne.symm h16]
 rw [e]
 have g0 := Ne.symm h0
 have g1 := Ne.symm h1
 have g2 := Ne.symm h2
 have g3 := Ne.symm h3
 have g4 := Ne.symm h4
 have g5 := Ne.symm h5
 have g6 := Ne.symm h6
 have g7 := Ne.symm h7
 have g8 := Ne.symm h8
 have g9 := Ne.symm h9
 have g10 := Ne.symm h10
 have g11 := Ne.symm h11
 have g12 := Ne.symm h12
 have g13 := Ne.symm h13
 have g14 := Ne.symm h14
 have g15 := Ne.symm h15
 have g16 := Ne.symm h16
 simp [Maps.has, DataW.atKey, Lit.sameKey, g0, g1, g2, g3, g4, g5, g6, g7, g8, g9, g10, g11, g12, g13, g14, g15, g16]
end Go.Proofs.YtngpgdmafmkddaaDoor.Lex
end
section
namespace Go.Proofs.YtngpgdmafmkddaaDoor.Lex
open Go.Proofs.YtngpgdmafmkddaaDoor.Calm Go.Proofs.YtngpgdmafmkddaaDoor.Par Go.RowKit Go.Proofs.YtngpgdmafmkddaaDoorW.PrintWords Go.Proofs.YtngpgdmafmkddaaDoorW.PrintLast Go.Proofs.YtngpgdmafmkddaaDoorW.PrintMore
open Go.Proofs.YtngpgdmafmkddaaDoor.PParseBlanks (S35 S25 S27 k35 k25 k27 rd_T35 rd_T25 rd_T27 at_T35 at_T25 at_T27)
set_option linter.unusedVariables false
set_option linter.unusedSimpArgs false
open Go.Maps Go.WideMaps
set_option maxRecDepth 100000 in
theorem bool_back {v : Value} {x : Bool} {ps : List MemPlace} (h : E4 v = some (.lit (.bool x), ps)) : v = .bool x := by
 simp only [E4, plainElem, Tryd.underlying4] at h
 cases v <;> simp at h
 rw [h.1]
theorem look_word {w : World} {b : Nat} (h : w.ownsMap Tryd.prog 9 E4 b 17 (wdD wordL)) (t : ByteArray) (ht : t.size ≤ maxLen) : (Instr.lookup 62 (.map (some b)) (.string t) false).run Tryd.prog w = .ok (.bool (wordB t.data.toList)) w := by
 obtain ⟨v, ps, hrun, hv⟩ := World.ownsMap.lookup h law9 Tryd.underlying62 (z := .bool false) (by kernel_rfl) (zd := .lit (.bool false)) (zp := []) (plainElem_bool Tryd.underlying4 false) (keyOf_string_mk Tryd.underlying9 ht)
 rw [wd_at] at hv
 rw [hrun, bool_back hv]
theorem own_kept {w w' : World} {m b n : Nat} {D : DataW Unit} (h : w.ownsMap Tryd.prog 9 E4 b n D) (hk : Par.Kept (fun k => k = m) w w') (hn : b ≠ m) : w'.ownsMap Tryd.prog 9 E4 b n D :=
 h.kept (row := some m) ⟨hk.os, hk.tape, hk.output, hk.size, fun k h1 h2 => hk.block k h1 fun e => h2 (by rw [e])⟩ fun e => hn (Option.some.inj e)
theorem own_below {w w' : World} {b n : Nat} {D : DataW Unit} (h : w.ownsMap Tryd.prog 9 E4 b n D) (hb : Below w.heap.size w w') : w'.ownsMap Tryd.prog 9 E4 b n D :=
 h.kept (row := none) ⟨hb.os, hb.tape, hb.output, hb.size, fun k h1 _ => hb.block k h1⟩ (by simp)
theorem i35 : (Tryd.prog.info? 35).map (·.size) = some 3 := by kernel_rfl
theorem store35 (W : World) (g : Nat) (old c : Array Value) (hg : Has W g old 35) (ho : old.size = 3) (hs : c.size = 3) (h1 : c.all (·.oneCell') = true) (a : Act) (o : Oper) (x y : Operand) (h : o.op = .store 35 x y) (hx : a.eval x = .pointer (some ⟨g, 0, none⟩)) (hy : a.eval y = .agg c) :
  (execOp a.eval o).run Tryd.prog W = .ok .skip (W.setRow g c) := by
 have hst := run_storeVar_row (P := Tryd.prog) W g 35 35 old c hg (by rw [hs]; exact i35) (by rw [ho, hs]) h1
 unfold execOp
 simp only [h, hx, hy, Instr.storeAt, Instr.sureAddr, Sem.run_bind, Sem.run_pure, Result.andThen_ok, hst]
theorem load35 (W : World) (g : Nat) (c : Array Value) (hg : Has W g c 35) (hs : c.size = 3) (a : Act) (o : Oper) (x : Operand) (h : o.op = .load 35 x) (hx : a.eval x = .pointer (some ⟨g, 0, none⟩)) :
  (execOp a.eval o).run Tryd.prog W = .ok (.value (.agg c)) W := by
 have hld := run_loadVar_row (P := Tryd.prog) W g 35 35 c (0, 0) _ hg Tryd.underlying35 (by first | rfl | simp) (by rw [hs]; exact i35)
 unfold execOp
 simp only [h, hx, Instr.loadAt, Instr.sureAddr, Sem.run_bind, Sem.run_pure, Result.andThen_ok, hld]
def nextN (l : List UInt8) : Int × Nat × Int :=
 if spanL isPartB l = 0 then (if signN l = 0 then (4, 0, 20) else (4, signN l, 0))
 else if isDig ((l.headD 0).toNat : Int) = true then (if (numP ⟨(l.take (spanL isPartB l)).toArray⟩).2.2 = 0 then (2, spanL isPartB l, 0) else (2, 0, (numP ⟨(l.take (spanL isPartB l)).toArray⟩).2.2))
 else if spanL isPartB l > 40 then (4, 0, 20)
 else if wordB (l.take (spanL isPartB l)) = true then (3, spanL isPartB l, 0) else (1, spanL isPartB l, 0)
theorem ext_take (s : ByteArray) (a n : Nat) (h : a + n ≤ s.size) : s.extract a (a + n) = ⟨((fromN s a).take n).toArray⟩ := by
 apply ByteArray.ext
 apply Array.toList_inj.1
 rw [ByteArray.data_extract, Array.toList_extract, List.extract_eq_take_drop]
 simp
theorem dig_said (c : Int) (w : World) : Calls Tryd.prog 37 #[.int .u8 c] w fun e w' => e = .returned (.bool (isDig c)) ∧ Below w.heap.size w w' :=
 (PParseBlanks.lex_isDigit.calls c _ w (dig_f c)).mono fun e w' h => ⟨h.1, Drawn0.below h.2⟩
theorem sign_le (l : List UInt8) : signN l ≤ l.length := by
 unfold signN
 split
 ·rename_i h
  obtain ⟨p, hp, h2⟩ := List.any_eq_true.1 h
  have h3 := (List.isPrefixOf_iff_prefix.1 h2).length_le
  have h4 : (twoSigns.all fun p => p.length == 2) = true := by kernel_rfl
  have h5 := List.all_eq_true.1 h4 p hp
  have h6 : p.length = 2 := by simpa using h5
  omega
 ·cases l with
  | nil => simp
  | cons b r =>
   simp only [List.length_cons]
   split <;> omega
def NPost (m : Nat) (s : ByteArray) (a : Nat) (mp : Value) (w : World) (en : Ending) (w' : World) : Prop :=
 Par.Kept (fun b => b = m) w w' ∧ (if (nextN (fromN s a)).2.1 = 0 then ∃ k, en = .returned (.tuple #[.agg #[.int .i64 k, .string ⟨#[]⟩, .int .i64 (a : Int)], .int .i64 (nextN (fromN s a)).2.2]) ∧ Has w' m (lxC s a mp) 65
  else en = .returned (.tuple #[.agg #[.int .i64 (nextN (fromN s a)).1, .string (s.extract a (a + (nextN (fromN s a)).2.1)), .int .i64 (a : Int)], .int .i64 0]) ∧ Has w' m (lxC s (a + (nextN (fromN s a)).2.1 : Nat) mp) 65 ∧ a + (nextN (fromN s a)).2.1 ≤ s.size)
set_option maxRecDepth 100000 in
set_option maxHeartbeats 4000000 in
theorem next_said (m : Nat) (s : ByteArray) (a wb : Nat) (w : World) (H : Has w m (lxC s a (.map (some wb))) 65) (HM : w.ownsMap Tryd.prog 9 E4 wb 17 (wdD wordL)) (hwm : wb ≠ m) (ha : a < s.size) (hs : s.size < 4611686018427387904) :
  Calls Tryd.prog 23 #[.pointer (some ⟨m, 0, none⟩)] w (NPost m s a (.map (some wb)) w) := by
 have hu35 := Tryd.underlying35
 have hml := H.lt
 obtain ⟨mp, hmp⟩ : ∃ mp, Value.map (some wb) = mp := ⟨_, rfl⟩
 have HMP := Aside0.mk hmp
 rw [hmp] at H ⊢
 clear hmp
 have b1 := below_alloc (Below.refl w.heap.size w) (Obj.cells #[.int .i64 0, .string ⟨#[]⟩, .int .i64 0] 35)
 have HH := Aside0.mk (H.belowS b1)
 have HM := Aside0.mk (own_below HM b1)
 have HR := Aside0.mk (Has.new w #[.int .i64 0, .string ⟨#[]⟩, .int .i64 0] 35)
 have HK := Aside0.mk (Par.Kept.of_below (S := fun b => b = m) b1)
 clear H b1
 obtain ⟨n, hn⟩ : ∃ n, spanL isPartB (fromN s a) = n := ⟨_, rfl⟩
 have hle : n ≤ s.size - a := by rw [← hn, ← from_len]; exact spanL_le _
 have HN := Aside0.mk hn
 clear hn
 have kwn : IntKind.i64.wrap ((a : Int) + (n : Int)) = (a : Int) + (n : Int) := IntWalk.i64_in _ (by omega)
 obtain ⟨b0, e0, hb0⟩ := bt_get ha
 have HG : Aside0 (s[a]'ha = b0) := ⟨by
  unfold bt at hb0
  rw [dif_pos (show (a : Int).toNat < s.size by simpa using ha)] at hb0
  exact UInt8.toNat_inj.1 (Int.ofNat.inj hb0)⟩
 have HE0 := Aside0.mk e0
 clear hb0 e0
 go_enter Tryd.func23, Tryd.ntmps23
 go_upto_block 0 with (
  go_at_call 31
  (with_reducible refine Calls.mono (span_said 35 isPartB part_pred m s a mp _ HH.out (by omega) hs) ?_)
  rintro en w1 ⟨he, hb⟩
  rw [HN.out] at he
  subst he
  replace HH := Aside0.mk (HH.out.belowS hb)
  replace HM := Aside0.mk (own_below HM.out hb)
  replace HR := Aside0.mk (HR.out.belowS hb)
  replace HK := Aside0.mk (HK.out.below hb)
  have hs1 := hb.size
  try simp at hs1
  have b2 := below_alloc (Below.refl w1.heap.size w1) (Obj.cells #[.int .i64 4, .string ⟨#[]⟩, .int .i64 (a : Int)] 35)
  have HT := Aside0.mk (Has.new w1 #[.int .i64 4, .string ⟨#[]⟩, .int .i64 (a : Int)] 35)
  have c1 := HH.out.cell 1
  simp only [List.getElem?_toArray, List.getElem?_cons_zero, List.getElem?_cons_succ] at c1
  replace HH := Aside0.mk (HH.out.belowS b2)
  replace HM := Aside0.mk (own_below HM.out b2)
  replace HR := Aside0.mk (HR.out.belowS b2)
  replace HK := Aside0.mk (HK.out.below b2)
  clear b2)
 clear c1
 go_cut [4] (fun v4 wc => ∃ (k : Int) (n' : Nat), v4 = .int .i64 (n' : Int) ∧ Aside0 (Par.Kept (fun b => b = m) w wc) ∧ Aside0 (Has wc m (lxC s a mp) 65) ∧ Aside0 (Has wc w.heap.size #[.int .i64 0, .string ⟨#[]⟩, .int .i64 0] 35) ∧ Aside0 (Has wc w1.heap.size #[.int .i64 k, .string ⟨#[]⟩, .int .i64 (a : Int)] 35) ∧ Aside0 (nextN (fromN s a) = if n' = 0 then ((nextN (fromN s a)).1, 0, 20) else (k, n', 0)) ∧ Aside0 (a + n' ≤ s.size))
 case first =>
  by_cases hz : n = 0
  ·have kz : ((n : Int) == 0) = true := by simp [hz]
   have hnx : nextN (fromN s a) = if signN (fromN s a) = 0 then (4, 0, 20) else (4, signN (fromN s a), 0) := by
    unfold nextN
    rw [HN.out, if_pos hz]
   have HNX := Aside0.mk hnx
   have HSL := Aside0.mk (sign_le (fromN s a))
   clear hnx hz
   go_wp2_with (
     go_at_call 36
     (with_reducible refine Calls.mono (sign_said m s a mp _ HH.out ha hs) ?_)
     rintro en w2 ⟨rfl, hb2⟩
     replace HH := Aside0.mk (HH.out.belowS hb2)
     replace HR := Aside0.mk (HR.out.belowS hb2)
     replace HT := Aside0.mk (HT.out.belowS hb2)
     replace HK := Aside0.mk (HK.out.below hb2))
   go_meet
   case rel =>
    refine ⟨4, signN (fromN s a), rfl, HK, HH, HR, HT, ⟨?_⟩, ⟨?_⟩⟩
    ·rw [HNX.out]
     by_cases h0 : signN (fromN s a) = 0 <;> simp [h0]
    ·have h1 := HSL.out
     rw [from_len] at h1
     omega
  ·have kz : ((n : Int) == 0) = false := by simp; omega
   go_upto_region 6 with (fail)
   have hD := below_drew (Below.refl ((w1.alloc (Obj.cells #[.int .i64 4, .string ⟨#[]⟩, .int .i64 (a : Int)] 35))).heap.size ((w1.alloc (Obj.cells #[.int .i64 4, .string ⟨#[]⟩, .int .i64 (a : Int)] 35))))
   replace HH := Aside0.mk (HH.out.belowS hD)
   replace HM := Aside0.mk (own_below HM.out hD)
   replace HR := Aside0.mk (HR.out.belowS hD)
   replace HT := Aside0.mk (HT.out.belowS hD)
   replace HK := Aside0.mk (HK.out.below hD)
   clear hD
   obtain ⟨W2, hW⟩ : ∃ W, ((w1.alloc (Obj.cells #[.int .i64 4, .string ⟨#[]⟩, .int .i64 (a : Int)] 35))).drew = W := ⟨_, rfl⟩
   rw [hW] at HH HM HR HT HK
   refine region_treeQ (by kernel_rfl) (fun w' => Has w' m (lxC s a mp) 65) (hW ▸ HH.out) fun hS => ?_
   rw [hW] at hS ⊢
   clear hW
   generalize hQQ : Exit.then _ _ = QQ
   have hsure : Sure QQ := by
    rw [← hQQ]
    intro c a a' w1 hd h
    simp +zetaDelta only [Exit.then, Exit.inBlock, bodyPost] at h ⊢
    first | (simp at h; done) | simpa [hd] using h
   have hg := HG.out
   have hai : (a : Int) < (s.size : Int) := by omega
   refine treeQ_h hsure hS (i := 0) (by kernel_rfl) (by rfl) (by rfl) (by kernel_rfl) (by rfl) ?_
   apply Exists.intro
   apply And.intro
   ·rintro w' k1
    apply VR.mk
    go_simp
    with_reducible rfl
   simp only [List.setIfInBounds_toArray, List.set_cons_zero, List.set_cons_succ]
   refine treeQ_h hsure hS (i := 1) (by kernel_rfl) (by rfl) (by rfl) (by kernel_rfl) (by rfl) ?_
   apply Exists.intro
   apply And.intro
   ·rintro w' k1
    apply VR.mk
    go_simp
    with_reducible rfl
   simp only [List.setIfInBounds_toArray, List.set_cons_zero, List.set_cons_succ]
   refine treeQ_h hsure hS (i := 2) (by kernel_rfl) (by rfl) (by rfl) (by kernel_rfl) (by rfl) ?_
   apply Exists.intro
   apply And.intro
   ·rintro w' k1
    apply VR.mk
    go_simp
    with_reducible rfl
   simp only [List.setIfInBounds_toArray, List.set_cons_zero, List.set_cons_succ]
   refine treeQ_h hsure hS (i := 3) (by kernel_rfl) (by rfl) (by rfl) (by kernel_rfl) (by rfl) ?_
   apply Exists.intro
   apply And.intro
   ·rintro w' k1
    have cc0 := k1.cell 0
    simp only [List.getElem?_toArray, List.getElem?_cons_zero, List.getElem?_cons_succ] at cc0
    apply VR.mk
    go_simp
    with_reducible rfl
   simp only [List.setIfInBounds_toArray, List.set_cons_zero, List.set_cons_succ]
   refine treeQ_h hsure hS (i := 4) (by kernel_rfl) (by rfl) (by rfl) (by kernel_rfl) (by rfl) ?_
   apply Exists.intro
   apply And.intro
   ·rintro w' k1
    apply VR.mk
    go_simp
    with_reducible rfl
   simp only [List.setIfInBounds_toArray, List.set_cons_zero, List.set_cons_succ]
   refine treeQ_h hsure hS (i := 5) (by kernel_rfl) (by rfl) (by rfl) (by kernel_rfl) (by rfl) ?_
   apply Exists.intro
   apply And.intro
   ·rintro w' k1
    apply VR.mk
    go_simp
    with_reducible rfl
   simp only [List.setIfInBounds_toArray, List.set_cons_zero, List.set_cons_succ]
   refine treeQ_h hsure hS (i := 6) (by kernel_rfl) (by rfl) (by rfl) (by kernel_rfl) (by rfl) ?_
   apply Exists.intro
   apply And.intro
   ·rintro w' k1
    apply VR.mk
    go_simp
    with_reducible rfl
   simp only [List.setIfInBounds_toArray, List.set_cons_zero, List.set_cons_succ]
   refine treeQ_h hsure hS (i := 7) (by kernel_rfl) (by rfl) (by rfl) (by kernel_rfl) (by rfl) ?_
   apply Exists.intro
   apply And.intro
   ·rintro w' k1
    have cc0 := k1.cell 1
    simp only [List.getElem?_toArray, List.getElem?_cons_zero, List.getElem?_cons_succ] at cc0
    apply VR.mk
    go_simp
    with_reducible rfl
   simp only [List.setIfInBounds_toArray, List.set_cons_zero, List.set_cons_succ]
   refine treeQ_h hsure hS (i := 8) (by kernel_rfl) (by rfl) (by rfl) (by kernel_rfl) (by rfl) ?_
   apply Exists.intro
   apply And.intro
   ·rintro w' k1
    apply VR.mk
    go_simp
    with_reducible rfl
   simp only [List.setIfInBounds_toArray, List.set_cons_zero, List.set_cons_succ]
   refine tree_1Q (i := 9) (by kernel_rfl) ?_
   refine step_callQ (by rfl) (by rfl) (by rfl) (ER_go (by go_simp; first | with_reducible exact ⟨rfl, rfl⟩ | with_reducible rfl)) ?_
   refine (dig_said _ W2).mono ?_
   rintro en w3 ⟨rfl, hb3⟩
   refine .inl ⟨_, rfl, hS.belowS hb3, ?_⟩
   simp only [List.setIfInBounds_toArray, List.set_cons_zero, List.set_cons_succ]
   refine treeQ_h hsure (hS.belowS hb3) (i := 10) (by kernel_rfl) (by rfl) (by rfl) (by kernel_rfl) (by rfl) ?_
   apply Exists.intro
   apply And.intro
   ·rintro w' k1
    apply VR.mk
    go_simp
    with_reducible rfl
   simp only [List.setIfInBounds_toArray, List.set_cons_zero, List.set_cons_succ]
   refine tree_endQ (by kernel_rfl) ?_
   rw [← hQQ]
   clear hsure hQQ hS hg hai
   replace HH := Aside0.mk (HH.out.belowS hb3)
   replace HM := Aside0.mk (own_below HM.out hb3)
   replace HR := Aside0.mk (HR.out.belowS hb3)
   replace HT := Aside0.mk (HT.out.belowS hb3)
   replace HK := Aside0.mk (HK.out.below hb3)
   clear hb3
   have hhd : (fromN s a).headD 0 = b0 := by rw [HE0.out]; rfl
   cases hd : isDig (b0.toNat : Int) with
   | true =>
    have hnx : nextN (fromN s a) = if (numP (s.extract a (a + n))).2.2 = 0 then (2, n, 0) else (2, 0, (numP (s.extract a (a + n))).2.2) := by
     unfold nextN
     rw [HN.out, if_neg hz, hhd, if_pos hd, ← ext_take s a n (by omega)]
    have HNX := Aside0.mk hnx
    clear hnx hd
    have c3 := HT.out.cell 0
    simp only [List.getElem?_toArray, List.getElem?_cons_zero, List.getElem?_cons_succ] at c3
    have f3 := HT.out.frozen 0
    go_upto_region 8 with (fail)
    clear c3 f3
    have hx : Has (w3.setCell ⟨w1.heap.size, 0, none⟩ (.int .i64 2)) w1.heap.size #[.int .i64 2, .string ⟨#[]⟩, .int .i64 (a : Int)] 35 := HT.out.set_ 0 _
    have hl1 := HH.out.lt
    replace HH := Aside0.mk (HH.out.other (a := ⟨w1.heap.size, 0, none⟩) (by show _ ≠ w1.heap.size; omega) (.int .i64 2))
    replace HR := Aside0.mk (HR.out.other (a := ⟨w1.heap.size, 0, none⟩) (by show _ ≠ w1.heap.size; omega) (.int .i64 2))
    replace HK := Aside0.mk (HK.out.setCellG (a := ⟨w1.heap.size, 0, none⟩) (by show w.heap.size ≤ w1.heap.size; omega) (.int .i64 2))
    replace HT := Aside0.mk hx
    clear hx
    have hD := below_drew (Below.refl (w3.setCell ⟨w1.heap.size, 0, none⟩ (.int .i64 2)).heap.size (w3.setCell ⟨w1.heap.size, 0, none⟩ (.int .i64 2)))
    replace HH := Aside0.mk (HH.out.belowS hD)
    replace HR := Aside0.mk (HR.out.belowS hD)
    replace HT := Aside0.mk (HT.out.belowS hD)
    replace HK := Aside0.mk (HK.out.below hD)
    clear hD
    obtain ⟨W4, hW⟩ : ∃ W, (w3.setCell ⟨w1.heap.size, 0, none⟩ (.int .i64 2)).drew = W := ⟨_, rfl⟩
    rw [hW] at HH HR HT HK
    refine region_treeQ (by kernel_rfl) (fun w' => Has w' m (lxC s a mp) 65) (hW ▸ HH.out) fun hS => ?_
    rw [hW] at hS ⊢
    clear hW
    generalize hQQ : Exit.then _ _ = QQ
    have hsure : Sure QQ := by
     rw [← hQQ]
     intro c a a' w1 hd h
     simp +zetaDelta only [Exit.then, Exit.inBlock, bodyPost] at h ⊢
     first | (simp at h; done) | simpa [hd] using h
    obtain ⟨t, ht⟩ : ∃ t, s.extract a (a + n) = t := ⟨_, rfl⟩
    have htz : t.size < 4611686018427387904 := by rw [← ht, ByteArray.size_extract]; omega
    refine treeQ_h hsure hS (i := 0) (by kernel_rfl) (by rfl) (by rfl) (by kernel_rfl) (by rfl) ?_
    apply Exists.intro
    apply And.intro
    ·rintro w' k1
     apply VR.mk
     go_simp
     with_reducible rfl
    simp only [List.setIfInBounds_toArray, List.set_cons_zero, List.set_cons_succ]
    refine treeQ_h hsure hS (i := 1) (by kernel_rfl) (by rfl) (by rfl) (by kernel_rfl) (by rfl) ?_
    apply Exists.intro
    apply And.intro
    ·rintro w' k1
     apply VR.mk
     go_simp
     with_reducible rfl
    simp only [List.setIfInBounds_toArray, List.set_cons_zero, List.set_cons_succ]
    refine treeQ_h hsure hS (i := 2) (by kernel_rfl) (by rfl) (by rfl) (by kernel_rfl) (by rfl) ?_
    apply Exists.intro
    apply And.intro
    ·rintro w' k1
     apply VR.mk
     go_simp
     with_reducible rfl
    simp only [List.setIfInBounds_toArray, List.set_cons_zero, List.set_cons_succ]
    refine treeQ_h hsure hS (i := 3) (by kernel_rfl) (by rfl) (by rfl) (by kernel_rfl) (by rfl) ?_
    apply Exists.intro
    apply And.intro
    ·rintro w' k1
     have cc0 := k1.cell 0
     simp only [List.getElem?_toArray, List.getElem?_cons_zero, List.getElem?_cons_succ] at cc0
     apply VR.mk
     go_simp
     with_reducible rfl
    simp only [List.setIfInBounds_toArray, List.set_cons_zero, List.set_cons_succ]
    refine treeQ_h hsure hS (i := 4) (by kernel_rfl) (by rfl) (by rfl) (by kernel_rfl) (by rfl) ?_
    apply Exists.intro
    apply And.intro
    ·rintro w' k1
     apply VR.mk
     go_simp
     with_reducible rfl
    simp only [List.setIfInBounds_toArray, List.set_cons_zero, List.set_cons_succ]
    refine treeQ_h hsure hS (i := 5) (by kernel_rfl) (by rfl) (by rfl) (by kernel_rfl) (by rfl) ?_
    apply Exists.intro
    apply And.intro
    ·rintro w' k1
     apply VR.mk
     go_simp
     with_reducible rfl
    simp only [List.setIfInBounds_toArray, List.set_cons_zero, List.set_cons_succ]
    refine treeQ_h hsure hS (i := 6) (by kernel_rfl) (by rfl) (by rfl) (by kernel_rfl) (by rfl) ?_
    apply Exists.intro
    apply And.intro
    ·rintro w' k1
     apply VR.mk
     go_simp
     with_reducible rfl
    simp only [List.setIfInBounds_toArray, List.set_cons_zero, List.set_cons_succ]
    refine treeQ_h hsure hS (i := 7) (by kernel_rfl) (by rfl) (by rfl) (by kernel_rfl) (by rfl) ?_
    apply Exists.intro
    apply And.intro
    ·rintro w' k1
     have cc0 := k1.cell 1
     simp only [List.getElem?_toArray, List.getElem?_cons_zero, List.getElem?_cons_succ] at cc0
     apply VR.mk
     go_simp
     with_reducible rfl
    simp only [List.setIfInBounds_toArray, List.set_cons_zero, List.set_cons_succ]
    refine treeQ_h hsure hS (i := 8) (by kernel_rfl) (by rfl) (by rfl) (by kernel_rfl) (by rfl) ?_
    apply Exists.intro
    apply And.intro
    ·rintro w' k1
     apply VR.mk
     go_simp
     with_reducible rfl
    simp only [List.setIfInBounds_toArray, List.set_cons_zero, List.set_cons_succ]
    refine treeQ_h hsure hS (i := 9) (by kernel_rfl) (by rfl) (by rfl) (by kernel_rfl) (by rfl) ?_
    apply Exists.intro
    apply And.intro
    ·rintro w' k1
     apply VR.mk
     go_simp
     with_reducible rfl
    simp only [List.setIfInBounds_toArray, List.set_cons_zero, List.set_cons_succ]
    refine treeQ_h hsure hS (i := 10) (by kernel_rfl) (by rfl) (by rfl) (by kernel_rfl) (by rfl) ?_
    apply Exists.intro
    apply And.intro
    ·rintro w' k1
     apply VR.mk
     go_simp
     with_reducible rfl
    simp only [List.setIfInBounds_toArray, List.set_cons_zero, List.set_cons_succ]
    refine treeQ_h hsure hS (i := 11) (by kernel_rfl) (by rfl) (by rfl) (by kernel_rfl) (by rfl) ?_
    apply Exists.intro
    apply And.intro
    ·rintro w' k1
     have cc0 := k1.cell 1
     simp only [List.getElem?_toArray, List.getElem?_cons_zero, List.getElem?_cons_succ] at cc0
     apply VR.mk
     go_simp
     with_reducible rfl
    simp only [List.setIfInBounds_toArray, List.set_cons_zero, List.set_cons_succ]
    refine treeQ_h hsure hS (i := 12) (by kernel_rfl) (by rfl) (by rfl) (by kernel_rfl) (by rfl) ?_
    apply Exists.intro
    apply And.intro
    ·rintro w' k1
     apply VR.mk
     go_simp
     with_reducible rfl
    simp only [List.setIfInBounds_toArray, List.set_cons_zero, List.set_cons_succ]
    refine treeQ_h hsure hS (i := 13) (by kernel_rfl) (by rfl) (by rfl) (by kernel_rfl) (by rfl) ?_
    apply Exists.intro
    apply And.intro
    ·rintro w' k1
     apply VR.mk
     go_simp
     with_reducible rfl
    simp only [List.setIfInBounds_toArray, List.set_cons_zero, List.set_cons_succ]
    have kn : ((a : Int) + (n : Int)).toNat = a + n := by omega
    refine treeQ_h hsure hS (i := 14) (by kernel_rfl) (by rfl) (by rfl) (by kernel_rfl) (by rfl) ?_
    apply Exists.intro
    apply And.intro
    ·rintro w' k1
     apply VR.mk
     go_simp
     repeat (refine (if_pos (by first | omega | exact ⟨by omega, by omega⟩)).trans ?_)
     with_reducible rfl
    simp only [List.setIfInBounds_toArray, List.set_cons_zero, List.set_cons_succ]
    rw [ht] at HNX
    clear ht
    refine tree_1Q (i := 15) (by kernel_rfl) ?_
    refine step_callQ (by rfl) (by rfl) (by rfl) (ER_go (by go_simp; first | with_reducible exact ⟨rfl, rfl⟩ | with_reducible rfl)) ?_
    refine (number_fn t W4 htz).mono ?_
    rintro en w5 ⟨rfl, hb5⟩
    refine .inl ⟨_, rfl, hS.belowS hb5, ?_⟩
    simp only [List.setIfInBounds_toArray, List.set_cons_zero, List.set_cons_succ]
    obtain ⟨⟨nv, nk, ne⟩, hnp⟩ : ∃ x, numP t = x := ⟨_, rfl⟩
    rw [hnp] at HNX ⊢
    refine treeQ_h hsure (hS.belowS hb5) (i := 16) (by kernel_rfl) (by rfl) (by rfl) (by kernel_rfl) (by rfl) ?_
    apply Exists.intro
    apply And.intro
    ·rintro w' k1
     apply VR.mk
     go_simp
     with_reducible rfl
    simp only [List.setIfInBounds_toArray, List.set_cons_zero, List.set_cons_succ]
    refine treeQ_h hsure (hS.belowS hb5) (i := 17) (by kernel_rfl) (by rfl) (by rfl) (by kernel_rfl) (by rfl) ?_
    apply Exists.intro
    apply And.intro
    ·rintro w' k1
     apply VR.mk
     go_simp
     with_reducible rfl
    simp only [List.setIfInBounds_toArray, List.set_cons_zero, List.set_cons_succ]
    refine treeQ_h hsure (hS.belowS hb5) (i := 18) (by kernel_rfl) (by rfl) (by rfl) (by kernel_rfl) (by rfl) ?_
    apply Exists.intro
    apply And.intro
    ·rintro w' k1
     apply VR.mk
     go_simp
     with_reducible rfl
    simp only [List.setIfInBounds_toArray, List.set_cons_zero, List.set_cons_succ]
    refine treeQ_h hsure (hS.belowS hb5) (i := 19) (by kernel_rfl) (by rfl) (by rfl) (by kernel_rfl) (by rfl) ?_
    apply Exists.intro
    apply And.intro
    ·rintro w' k1
     apply VR.mk
     go_simp
     with_reducible rfl
    simp only [List.setIfInBounds_toArray, List.set_cons_zero, List.set_cons_succ]
    refine treeQ_h hsure (hS.belowS hb5) (i := 20) (by kernel_rfl) (by rfl) (by rfl) (by kernel_rfl) (by rfl) ?_
    apply Exists.intro
    apply And.intro
    ·rintro w' k1
     apply VR.mk
     go_simp
     with_reducible rfl
    simp only [List.setIfInBounds_toArray, List.set_cons_zero, List.set_cons_succ]
    refine treeQ_h hsure (hS.belowS hb5) (i := 21) (by kernel_rfl) (by rfl) (by rfl) (by kernel_rfl) (by rfl) ?_
    apply Exists.intro
    apply And.intro
    ·rintro w' k1
     apply VR.mk
     go_simp
     with_reducible rfl
    simp only [List.setIfInBounds_toArray, List.set_cons_zero, List.set_cons_succ]
    refine treeQ_h hsure (hS.belowS hb5) (i := 22) (by kernel_rfl) (by rfl) (by rfl) (by kernel_rfl) (by rfl) ?_
    apply Exists.intro
    apply And.intro
    ·rintro w' k1
     apply VR.mk
     go_simp
     with_reducible rfl
    simp only [List.setIfInBounds_toArray, List.set_cons_zero, List.set_cons_succ]
    refine tree_endQ (by kernel_rfl) ?_
    rw [← hQQ]
    clear hsure hQQ hS
    replace HH := Aside0.mk (HH.out.belowS hb5)
    replace HR := Aside0.mk (HR.out.belowS hb5)
    replace HT := Aside0.mk (HT.out.belowS hb5)
    replace HK := Aside0.mk (HK.out.below hb5)
    clear hb5 hnp
    by_cases hne : ne = 0
    ·have kne : (ne != 0) = false := by simp [hne]
     replace HNX := Aside0.mk (HNX.out.trans (if_pos hne))
     clear hne
     go_wp2
     go_meet
     case rel => exact ⟨2, n, rfl, HK, HH, HR, HT, ⟨by rw [HNX.out, if_neg hz]⟩, ⟨by omega⟩⟩
    ·have kne : (ne != 0) = true := by simp [hne]
     replace HNX := Aside0.mk (HNX.out.trans (if_neg hne))
     clear hne
     go_wp2_with (first
       | (
        (with_reducible refine gate_dst (N := 56) rfl ?_)
        go_must (refine Kd.event_run rfl (load35 w5 w1.heap.size #[.int .i64 2, .string ⟨#[]⟩, .int .i64 (a : Int)] HT.out rfl _ _ _ rfl rfl) ?_))
       | (
        (with_reducible refine gate_store (t := 35) (p := 2) rfl ?_)
        go_must (refine store_event (t := 35) (p := 2) (v := .tmp 56) (w1 := w5.setRow w.heap.size #[.int .i64 2, .string ⟨#[]⟩, .int .i64 (a : Int)]) ?hg ?ho ?hn ?hr ?_; (case ho => rfl); (case hg => rfl); (case hn => rfl); (case hr => exact store35 w5 _ _ _ HR.out rfl rfl (by first | kernel_rfl | (simp [Value.oneCell'])) _ _ _ _ rfl rfl rfl); intro w77 hw77; subst hw77)))
     refine bodyPost_ret (results_ct rfl _ _ w.heap.size 35 #[.int .i64 2, .string ⟨#[]⟩, .int .i64 (a : Int)] (0, 0) _ rfl (has_row HR.out #[.int .i64 2, .string ⟨#[]⟩, .int .i64 (a : Int)]) Tryd.underlying35 rfl (by rfl)) rfl ?_
     refine ⟨kept_row HK.out (Nat.le_refl _) _, ?_⟩
     rw [HNX.out]
     exact ⟨2, rfl, has_row_other HH.out (by omega)⟩
   | false =>
    by_cases hbig : n > 40
    ·have kb : decide ((n : Int) > 40) = true := decide_eq_true (by omega)
     have kb2 : decide (40 < (n : Int)) = true := decide_eq_true (by omega)
     have hnx : nextN (fromN s a) = (4, 0, 20) := by
      unfold nextN
      rw [HN.out, if_neg hz, hhd, if_neg (by rw [hd]; decide), if_pos hbig]
     have HNX := Aside0.mk hnx
     clear hnx hd hbig
     go_wp2
     go_meet
     case rel => exact ⟨4, 0, rfl, HK, HH, HR, HT, ⟨by rw [HNX.out]; rfl⟩, ⟨by omega⟩⟩
    ·have kb : decide ((n : Int) > 40) = false := decide_eq_false (by omega)
     have kb2 : decide (40 < (n : Int)) = false := decide_eq_false (by omega)
     have hnx : nextN (fromN s a) = if wordB (s.extract a (a + n)).data.toList = true then (3, n, 0) else (1, n, 0) := by
      unfold nextN
      rw [HN.out, if_neg hz, hhd, if_neg (by rw [hd]; decide), if_neg hbig, ext_take s a n (by omega)]
     have HNX := Aside0.mk hnx
     clear hnx hd
     go_upto_region 13 with (fail)
     have hmp := HMP.out
     subst hmp
     have hD := below_drew (Below.refl (w3).heap.size (w3))
     replace HH := Aside0.mk (HH.out.belowS hD)
     replace HM := Aside0.mk (own_below HM.out hD)
     replace HR := Aside0.mk (HR.out.belowS hD)
     replace HT := Aside0.mk (HT.out.belowS hD)
     replace HK := Aside0.mk (HK.out.below hD)
     clear hD
     obtain ⟨W4, hW⟩ : ∃ W, (w3).drew = W := ⟨_, rfl⟩
     rw [hW] at HH HM HR HT HK
     refine region_treeQ (by kernel_rfl) (fun w' => Has w' m (lxC s a (.map (some wb))) 65 ∧ w'.ownsMap Tryd.prog 9 E4 wb 17 (wdD wordL)) (hW ▸ ⟨HH.out, HM.out⟩) fun hS => ?_
     rw [hW] at hS ⊢
     clear hW
     generalize hQQ : Exit.then _ _ = QQ
     have hsure : Sure QQ := by
      rw [← hQQ]
      intro c a a' w1 hd h
      simp +zetaDelta only [Exit.then, Exit.inBlock, bodyPost] at h ⊢
      first | (simp at h; done) | simpa [hd] using h
     obtain ⟨t, ht⟩ : ∃ t, s.extract a (a + n) = t := ⟨_, rfl⟩
     have htz : t.size < 4611686018427387904 := by rw [← ht, ByteArray.size_extract]; omega
     have kn : ((a : Int) + (n : Int)).toNat = a + n := by omega
     refine treeQ_h hsure hS (i := 0) (by kernel_rfl) (by rfl) (by rfl) (by kernel_rfl) (by rfl) ?_
     apply Exists.intro
     apply And.intro
     ·rintro w' ⟨k1, k2⟩
      apply VR.mk
      go_simp
      with_reducible rfl
     simp only [List.setIfInBounds_toArray, List.set_cons_zero, List.set_cons_succ]
     refine treeQ_h hsure hS (i := 1) (by kernel_rfl) (by rfl) (by rfl) (by kernel_rfl) (by rfl) ?_
     apply Exists.intro
     apply And.intro
     ·rintro w' ⟨k1, k2⟩
      apply VR.mk
      go_simp
      with_reducible rfl
     simp only [List.setIfInBounds_toArray, List.set_cons_zero, List.set_cons_succ]
     refine treeQ_h hsure hS (i := 2) (by kernel_rfl) (by rfl) (by rfl) (by kernel_rfl) (by rfl) ?_
     apply Exists.intro
     apply And.intro
     ·rintro w' ⟨k1, k2⟩
      apply VR.mk
      go_simp
      with_reducible rfl
     simp only [List.setIfInBounds_toArray, List.set_cons_zero, List.set_cons_succ]
     refine treeQ_h hsure hS (i := 3) (by kernel_rfl) (by rfl) (by rfl) (by kernel_rfl) (by rfl) ?_
     apply Exists.intro
     apply And.intro
     ·rintro w' ⟨k1, k2⟩
      have cc0 := k1.cell 2
      simp only [List.getElem?_toArray, List.getElem?_cons_zero, List.getElem?_cons_succ] at cc0
      apply VR.mk
      go_simp
      with_reducible rfl
     simp only [List.setIfInBounds_toArray, List.set_cons_zero, List.set_cons_succ]
     refine treeQ_h hsure hS (i := 4) (by kernel_rfl) (by rfl) (by rfl) (by kernel_rfl) (by rfl) ?_
     apply Exists.intro
     apply And.intro
     ·rintro w' ⟨k1, k2⟩
      apply VR.mk
      go_simp
      with_reducible rfl
     simp only [List.setIfInBounds_toArray, List.set_cons_zero, List.set_cons_succ]
     refine treeQ_h hsure hS (i := 5) (by kernel_rfl) (by rfl) (by rfl) (by kernel_rfl) (by rfl) ?_
     apply Exists.intro
     apply And.intro
     ·rintro w' ⟨k1, k2⟩
      apply VR.mk
      go_simp
      with_reducible rfl
     simp only [List.setIfInBounds_toArray, List.set_cons_zero, List.set_cons_succ]
     refine treeQ_h hsure hS (i := 6) (by kernel_rfl) (by rfl) (by rfl) (by kernel_rfl) (by rfl) ?_
     apply Exists.intro
     apply And.intro
     ·rintro w' ⟨k1, k2⟩
      apply VR.mk
      go_simp
      with_reducible rfl
     simp only [List.setIfInBounds_toArray, List.set_cons_zero, List.set_cons_succ]
     refine treeQ_h hsure hS (i := 7) (by kernel_rfl) (by rfl) (by rfl) (by kernel_rfl) (by rfl) ?_
     apply Exists.intro
     apply And.intro
     ·rintro w' ⟨k1, k2⟩
      have cc0 := k1.cell 0
      simp only [List.getElem?_toArray, List.getElem?_cons_zero, List.getElem?_cons_succ] at cc0
      apply VR.mk
      go_simp
      with_reducible rfl
     simp only [List.setIfInBounds_toArray, List.set_cons_zero, List.set_cons_succ]
     refine treeQ_h hsure hS (i := 8) (by kernel_rfl) (by rfl) (by rfl) (by kernel_rfl) (by rfl) ?_
     apply Exists.intro
     apply And.intro
     ·rintro w' ⟨k1, k2⟩
      apply VR.mk
      go_simp
      with_reducible rfl
     simp only [List.setIfInBounds_toArray, List.set_cons_zero, List.set_cons_succ]
     refine treeQ_h hsure hS (i := 9) (by kernel_rfl) (by rfl) (by rfl) (by kernel_rfl) (by rfl) ?_
     apply Exists.intro
     apply And.intro
     ·rintro w' ⟨k1, k2⟩
      apply VR.mk
      go_simp
      with_reducible rfl
     simp only [List.setIfInBounds_toArray, List.set_cons_zero, List.set_cons_succ]
     refine treeQ_h hsure hS (i := 10) (by kernel_rfl) (by rfl) (by rfl) (by kernel_rfl) (by rfl) ?_
     apply Exists.intro
     apply And.intro
     ·rintro w' ⟨k1, k2⟩
      apply VR.mk
      go_simp
      with_reducible rfl
     simp only [List.setIfInBounds_toArray, List.set_cons_zero, List.set_cons_succ]
     refine treeQ_h hsure hS (i := 11) (by kernel_rfl) (by rfl) (by rfl) (by kernel_rfl) (by rfl) ?_
     apply Exists.intro
     apply And.intro
     ·rintro w' ⟨k1, k2⟩
      have cc0 := k1.cell 1
      simp only [List.getElem?_toArray, List.getElem?_cons_zero, List.getElem?_cons_succ] at cc0
      apply VR.mk
      go_simp
      with_reducible rfl
     simp only [List.setIfInBounds_toArray, List.set_cons_zero, List.set_cons_succ]
     refine treeQ_h hsure hS (i := 12) (by kernel_rfl) (by rfl) (by rfl) (by kernel_rfl) (by rfl) ?_
     apply Exists.intro
     apply And.intro
     ·rintro w' ⟨k1, k2⟩
      apply VR.mk
      go_simp
      with_reducible rfl
     simp only [List.setIfInBounds_toArray, List.set_cons_zero, List.set_cons_succ]
     refine treeQ_h hsure hS (i := 13) (by kernel_rfl) (by rfl) (by rfl) (by kernel_rfl) (by rfl) ?_
     apply Exists.intro
     apply And.intro
     ·rintro w' ⟨k1, k2⟩
      apply VR.mk
      go_simp
      with_reducible rfl
     simp only [List.setIfInBounds_toArray, List.set_cons_zero, List.set_cons_succ]
     refine treeQ_h hsure hS (i := 14) (by kernel_rfl) (by rfl) (by rfl) (by kernel_rfl) (by rfl) ?_
     apply Exists.intro
     apply And.intro
     ·rintro w' ⟨k1, k2⟩
      apply VR.mk
      go_simp
      with_reducible rfl
     simp only [List.setIfInBounds_toArray, List.set_cons_zero, List.set_cons_succ]
     refine treeQ_h hsure hS (i := 15) (by kernel_rfl) (by rfl) (by rfl) (by kernel_rfl) (by rfl) ?_
     apply Exists.intro
     apply And.intro
     ·rintro w' ⟨k1, k2⟩
      have cc0 := k1.cell 1
      simp only [List.getElem?_toArray, List.getElem?_cons_zero, List.getElem?_cons_succ] at cc0
      apply VR.mk
      go_simp
      with_reducible rfl
     simp only [List.setIfInBounds_toArray, List.set_cons_zero, List.set_cons_succ]
     refine treeQ_h hsure hS (i := 16) (by kernel_rfl) (by rfl) (by rfl) (by kernel_rfl) (by rfl) ?_
     apply Exists.intro
     apply And.intro
     ·rintro w' ⟨k1, k2⟩
      apply VR.mk
      go_simp
      with_reducible rfl
     simp only [List.setIfInBounds_toArray, List.set_cons_zero, List.set_cons_succ]
     refine treeQ_h hsure hS (i := 17) (by kernel_rfl) (by rfl) (by rfl) (by kernel_rfl) (by rfl) ?_
     apply Exists.intro
     apply And.intro
     ·rintro w' ⟨k1, k2⟩
      apply VR.mk
      go_simp
      with_reducible rfl
     simp only [List.setIfInBounds_toArray, List.set_cons_zero, List.set_cons_succ]
     refine treeQ_h hsure hS (i := 18) (by kernel_rfl) (by rfl) (by rfl) (by kernel_rfl) (by rfl) ?_
     apply Exists.intro
     apply And.intro
     ·rintro w' ⟨k1, k2⟩
      apply VR.mk
      go_simp
      repeat (refine (if_pos (by first | omega | exact ⟨by omega, by omega⟩)).trans ?_)
      with_reducible rfl
     simp only [List.setIfInBounds_toArray, List.set_cons_zero, List.set_cons_succ]
     refine treeQ_h hsure hS (i := 19) (by kernel_rfl) (by rfl) (by rfl) (by kernel_rfl) (by rfl) ?_
     apply Exists.intro
     apply And.intro
     ·rintro w' ⟨k1, k2⟩
      have hlw := look_word k2 t (by unfold maxLen; omega)
      apply VR.mk
      go_simp
      with_reducible rfl
     simp only [List.setIfInBounds_toArray, List.set_cons_zero, List.set_cons_succ]
     refine treeQ_h hsure hS (i := 20) (by kernel_rfl) (by rfl) (by rfl) (by kernel_rfl) (by rfl) ?_
     apply Exists.intro
     apply And.intro
     ·rintro w' ⟨k1, k2⟩
      apply VR.mk
      go_simp
      with_reducible rfl
     simp only [List.setIfInBounds_toArray, List.set_cons_zero, List.set_cons_succ]
     rw [ht] at HNX
     clear ht
     refine tree_endQ (by kernel_rfl) ?_
     rw [← hQQ]
     clear hsure hQQ hS
     have hbig2 : ¬ n > 40 := hbig
     clear hbig
     have c4 := HT.out.cell 0
     simp only [List.getElem?_toArray, List.getElem?_cons_zero, List.getElem?_cons_succ] at c4
     have f4 := HT.out.frozen 0
     cases hw : wordB t.data.toList with
     | true =>
      replace HNX := Aside0.mk (HNX.out.trans (if_pos hw))
      clear hw
      have hl1 := HH.out.lt
      go_wp2
      go_meet
      case rel => exact ⟨3, n, rfl, ⟨HK.out.setCellG (a := ⟨w1.heap.size, 0, none⟩) (by show w.heap.size ≤ w1.heap.size; omega) _⟩, ⟨HH.out.other (a := ⟨w1.heap.size, 0, none⟩) (by show _ ≠ w1.heap.size; omega) _⟩, ⟨HR.out.other (a := ⟨w1.heap.size, 0, none⟩) (by show _ ≠ w1.heap.size; omega) _⟩, ⟨HT.out.set_ 0 _⟩, ⟨by rw [HNX.out, if_neg hz]⟩, ⟨by omega⟩⟩
     | false =>
      replace HNX := Aside0.mk (HNX.out.trans (if_neg (by rw [hw]; decide)))
      clear hw
      have hl1 := HH.out.lt
      go_wp2
      go_meet
      case rel => exact ⟨1, n, rfl, ⟨HK.out.setCellG (a := ⟨w1.heap.size, 0, none⟩) (by show w.heap.size ≤ w1.heap.size; omega) _⟩, ⟨HH.out.other (a := ⟨w1.heap.size, 0, none⟩) (by show _ ≠ w1.heap.size; omega) _⟩, ⟨HR.out.other (a := ⟨w1.heap.size, 0, none⟩) (by show _ ≠ w1.heap.size; omega) _⟩, ⟨HT.out.set_ 0 _⟩, ⟨by rw [HNX.out, if_neg hz]⟩, ⟨by omega⟩⟩
 case rest =>
  clear HK HH HR HT HM
  obtain ⟨k, n', rfl, HK, HH, HR, HT, HX, HL⟩ := hcut
  have hl2 := HL.out
  by_cases hz : n' = 0
  ·have kz : ((n' : Int) == 0) = true := by simp [hz]
   replace HX := Aside0.mk (HX.out.trans (if_pos hz))
   clear hz
   go_wp2_with (first
     | (
      (with_reducible refine gate_dst (N := 85) rfl ?_)
      go_must (refine Kd.event_run rfl (load35 wc w1.heap.size #[.int .i64 k, .string ⟨#[]⟩, .int .i64 (a : Int)] HT.out rfl _ _ _ rfl rfl) ?_))
     | (
      (with_reducible refine gate_store (t := 35) (p := 2) rfl ?_)
      go_must (refine store_event (t := 35) (p := 2) (v := .tmp 85) (w1 := wc.setRow w.heap.size #[.int .i64 k, .string ⟨#[]⟩, .int .i64 (a : Int)]) ?hg ?ho ?hn ?hr ?_; (case ho => rfl); (case hg => rfl); (case hn => rfl); (case hr => exact store35 wc _ _ _ HR.out rfl rfl (by first | kernel_rfl | (simp [Value.oneCell'])) _ _ _ _ rfl rfl rfl); intro w77 hw77; subst hw77)))
   refine bodyPost_ret (results_ct rfl _ _ w.heap.size 35 #[.int .i64 k, .string ⟨#[]⟩, .int .i64 (a : Int)] (0, 0) _ rfl (has_row HR.out #[.int .i64 k, .string ⟨#[]⟩, .int .i64 (a : Int)]) Tryd.underlying35 rfl (by rfl)) rfl ?_
   refine ⟨kept_row HK.out (Nat.le_refl _) _, ?_⟩
   have h2 : (nextN (fromN s a)).2.1 = 0 := by rw [HX.out]
   have h3 : (nextN (fromN s a)).2.2 = 20 := by rw [HX.out]
   rw [if_pos h2, h3]
   exact ⟨k, rfl, has_row_other HH.out (by omega)⟩
  ·have kz : ((n' : Int) == 0) = false := by simp; omega
   replace HX := Aside0.mk (HX.out.trans (if_neg hz))
   go_upto_region 17 with (fail)
   have hD := below_drew (Below.refl (wc).heap.size (wc))
   replace HH := Aside0.mk (HH.out.belowS hD)
   replace HR := Aside0.mk (HR.out.belowS hD)
   replace HT := Aside0.mk (HT.out.belowS hD)
   replace HK := Aside0.mk (HK.out.below hD)
   clear hD
   obtain ⟨W6, hW⟩ : ∃ W, (wc).drew = W := ⟨_, rfl⟩
   rw [hW] at HH HR HT HK
   refine region_treeQ (by kernel_rfl) (fun w' => Has w' m (lxC s a mp) 65) (hW ▸ HH.out) fun hS => ?_
   rw [hW] at hS ⊢
   clear hW
   generalize hQQ : Exit.then _ _ = QQ
   have hsure : Sure QQ := by
    rw [← hQQ]
    intro c a a' w1 hd h
    simp +zetaDelta only [Exit.then, Exit.inBlock, bodyPost] at h ⊢
    first | (simp at h; done) | simpa [hd] using h
   obtain ⟨t, ht⟩ : ∃ t, s.extract a (a + n') = t := ⟨_, rfl⟩
   have kn : ((a : Int) + (n' : Int)).toNat = a + n' := by omega
   have kwn2 : IntKind.i64.wrap ((a : Int) + (n' : Int)) = (a : Int) + (n' : Int) := IntWalk.i64_in _ (by omega)
   have hl1 := HH.out.lt
   refine treeQ_h hsure hS (i := 0) (by kernel_rfl) (by rfl) (by rfl) (by kernel_rfl) (by rfl) ?_
   apply Exists.intro
   apply And.intro
   ·rintro w' k1
    apply VR.mk
    go_simp
    with_reducible rfl
   simp only [List.setIfInBounds_toArray, List.set_cons_zero, List.set_cons_succ]
   refine treeQ_h hsure hS (i := 1) (by kernel_rfl) (by rfl) (by rfl) (by kernel_rfl) (by rfl) ?_
   apply Exists.intro
   apply And.intro
   ·rintro w' k1
    apply VR.mk
    go_simp
    with_reducible rfl
   simp only [List.setIfInBounds_toArray, List.set_cons_zero, List.set_cons_succ]
   refine treeQ_h hsure hS (i := 2) (by kernel_rfl) (by rfl) (by rfl) (by kernel_rfl) (by rfl) ?_
   apply Exists.intro
   apply And.intro
   ·rintro w' k1
    apply VR.mk
    go_simp
    with_reducible rfl
   simp only [List.setIfInBounds_toArray, List.set_cons_zero, List.set_cons_succ]
   refine treeQ_h hsure hS (i := 3) (by kernel_rfl) (by rfl) (by rfl) (by kernel_rfl) (by rfl) ?_
   apply Exists.intro
   apply And.intro
   ·rintro w' k1
    have cc0 := k1.cell 0
    simp only [List.getElem?_toArray, List.getElem?_cons_zero, List.getElem?_cons_succ] at cc0
    apply VR.mk
    go_simp
    with_reducible rfl
   simp only [List.setIfInBounds_toArray, List.set_cons_zero, List.set_cons_succ]
   refine treeQ_h hsure hS (i := 4) (by kernel_rfl) (by rfl) (by rfl) (by kernel_rfl) (by rfl) ?_
   apply Exists.intro
   apply And.intro
   ·rintro w' k1
    apply VR.mk
    go_simp
    with_reducible rfl
   simp only [List.setIfInBounds_toArray, List.set_cons_zero, List.set_cons_succ]
   refine treeQ_h hsure hS (i := 5) (by kernel_rfl) (by rfl) (by rfl) (by kernel_rfl) (by rfl) ?_
   apply Exists.intro
   apply And.intro
   ·rintro w' k1
    apply VR.mk
    go_simp
    with_reducible rfl
   simp only [List.setIfInBounds_toArray, List.set_cons_zero, List.set_cons_succ]
   refine treeQ_h hsure hS (i := 6) (by kernel_rfl) (by rfl) (by rfl) (by kernel_rfl) (by rfl) ?_
   apply Exists.intro
   apply And.intro
   ·rintro w' k1
    apply VR.mk
    go_simp
    with_reducible rfl
   simp only [List.setIfInBounds_toArray, List.set_cons_zero, List.set_cons_succ]
   refine treeQ_h hsure hS (i := 7) (by kernel_rfl) (by rfl) (by rfl) (by kernel_rfl) (by rfl) ?_
   apply Exists.intro
   apply And.intro
   ·rintro w' k1
    have cc0 := k1.cell 1
    simp only [List.getElem?_toArray, List.getElem?_cons_zero, List.getElem?_cons_succ] at cc0
    apply VR.mk
    go_simp
    with_reducible rfl
   simp only [List.setIfInBounds_toArray, List.set_cons_zero, List.set_cons_succ]
   refine treeQ_h hsure hS (i := 8) (by kernel_rfl) (by rfl) (by rfl) (by kernel_rfl) (by rfl) ?_
   apply Exists.intro
   apply And.intro
   ·rintro w' k1
    apply VR.mk
    go_simp
    with_reducible rfl
   simp only [List.setIfInBounds_toArray, List.set_cons_zero, List.set_cons_succ]
   refine treeQ_h hsure hS (i := 9) (by kernel_rfl) (by rfl) (by rfl) (by kernel_rfl) (by rfl) ?_
   apply Exists.intro
   apply And.intro
   ·rintro w' k1
    apply VR.mk
    go_simp
    with_reducible rfl
   simp only [List.setIfInBounds_toArray, List.set_cons_zero, List.set_cons_succ]
   refine treeQ_h hsure hS (i := 10) (by kernel_rfl) (by rfl) (by rfl) (by kernel_rfl) (by rfl) ?_
   apply Exists.intro
   apply And.intro
   ·rintro w' k1
    apply VR.mk
    go_simp
    with_reducible rfl
   simp only [List.setIfInBounds_toArray, List.set_cons_zero, List.set_cons_succ]
   refine treeQ_h hsure hS (i := 11) (by kernel_rfl) (by rfl) (by rfl) (by kernel_rfl) (by rfl) ?_
   apply Exists.intro
   apply And.intro
   ·rintro w' k1
    have cc0 := k1.cell 1
    simp only [List.getElem?_toArray, List.getElem?_cons_zero, List.getElem?_cons_succ] at cc0
    apply VR.mk
    go_simp
    with_reducible rfl
   simp only [List.setIfInBounds_toArray, List.set_cons_zero, List.set_cons_succ]
   refine treeQ_h hsure hS (i := 12) (by kernel_rfl) (by rfl) (by rfl) (by kernel_rfl) (by rfl) ?_
   apply Exists.intro
   apply And.intro
   ·rintro w' k1
    apply VR.mk
    go_simp
    with_reducible rfl
   simp only [List.setIfInBounds_toArray, List.set_cons_zero, List.set_cons_succ]
   refine treeQ_h hsure hS (i := 13) (by kernel_rfl) (by rfl) (by rfl) (by kernel_rfl) (by rfl) ?_
   apply Exists.intro
   apply And.intro
   ·rintro w' k1
    apply VR.mk
    go_simp
    with_reducible rfl
   simp only [List.setIfInBounds_toArray, List.set_cons_zero, List.set_cons_succ]
   refine treeQ_h hsure hS (i := 14) (by kernel_rfl) (by rfl) (by rfl) (by kernel_rfl) (by rfl) ?_
   apply Exists.intro
   apply And.intro
   ·rintro w' k1
    apply VR.mk
    go_simp
    repeat (refine (if_pos (by first | omega | exact ⟨by omega, by omega⟩)).trans ?_)
    with_reducible rfl
   simp only [List.setIfInBounds_toArray, List.set_cons_zero, List.set_cons_succ]
   refine treeQ_h hsure hS (i := 15) (by kernel_rfl) (by rfl) (by rfl) (by kernel_rfl) (by rfl) ?_
   apply Exists.intro
   apply And.intro
   ·rintro w' k1
    apply VR.mk
    go_simp
    with_reducible rfl
   simp only [List.setIfInBounds_toArray, List.set_cons_zero, List.set_cons_succ]
   refine tree_1Q (i := 16) (by kernel_rfl) ?_
   refine step_list (by rfl) ?_
   have c5 := HT.out.cell 1
   simp only [List.getElem?_toArray, List.getElem?_cons_zero, List.getElem?_cons_succ] at c5
   have f5 := HT.out.frozen 1
   go_wp2
   clear c5 f5
   have hx : Has (W6.setCell ⟨w1.heap.size, 1, none⟩ (.string t)) w1.heap.size #[.int .i64 k, .string t, .int .i64 (a : Int)] 35 := HT.out.set_ 1 _
   replace HH := Aside0.mk (HH.out.other (a := ⟨w1.heap.size, 1, none⟩) (by show _ ≠ w1.heap.size; omega) (.string t))
   replace HR := Aside0.mk (HR.out.other (a := ⟨w1.heap.size, 1, none⟩) (by show _ ≠ w1.heap.size; omega) (.string t))
   replace HK := Aside0.mk (HK.out.setCellG (a := ⟨w1.heap.size, 1, none⟩) (by show w.heap.size ≤ w1.heap.size; omega) (.string t))
   replace HT := Aside0.mk hx
   clear hx
   refine ⟨HH.out, tree_endQ (by kernel_rfl) ?_⟩
   rw [← hQQ]
   clear hsure hQQ hS
   obtain ⟨w7, hw7⟩ : ∃ W, W6.setCell ⟨w1.heap.size, 1, none⟩ (.string t) = W := ⟨_, rfl⟩
   rw [hw7] at HH HR HT HK ⊢
   clear hw7
   have c6 := HH.out.cell 1
   simp only [List.getElem?_toArray, List.getElem?_cons_zero, List.getElem?_cons_succ] at c6
   have f6 := HH.out.frozen 1
   have hx : Has (w7.setCell ⟨m, 1, none⟩ (.int .i64 ((a : Int) + (n' : Int)))) m (lxC s ((a + n' : Nat) : Int) mp) 65 := HH.out.set_ 1 _
   replace HR := Aside0.mk (HR.out.other (a := ⟨m, 1, none⟩) (by show _ ≠ m; omega) (.int .i64 ((a : Int) + (n' : Int))))
   replace HT := Aside0.mk (HT.out.other (a := ⟨m, 1, none⟩) (by show _ ≠ m; omega) (.int .i64 ((a : Int) + (n' : Int))))
   replace HK := Aside0.mk (HK.out.setCell (a := ⟨m, 1, none⟩) rfl (.int .i64 ((a : Int) + (n' : Int))))
   replace HH := Aside0.mk hx
   clear hx
   go_wp2_with (first
     | (
      (with_reducible refine gate_dst (N := 110) rfl ?_)
      go_must (refine Kd.event_run rfl (load35 (w7.setCell ⟨m, 1, none⟩ (.int .i64 ((a : Int) + (n' : Int)))) w1.heap.size #[.int .i64 k, .string t, .int .i64 (a : Int)] HT.out rfl _ _ _ rfl rfl) ?_))
     | (
      (with_reducible refine gate_store (t := 35) (p := 2) rfl ?_)
      go_must (refine store_event (t := 35) (p := 2) (v := .tmp 110) (w1 := (w7.setCell ⟨m, 1, none⟩ (.int .i64 ((a : Int) + (n' : Int)))).setRow w.heap.size #[.int .i64 k, .string t, .int .i64 (a : Int)]) ?hg ?ho ?hn ?hr ?_; (case ho => rfl); (case hg => rfl); (case hn => rfl); (case hr => exact store35 (w7.setCell ⟨m, 1, none⟩ (.int .i64 ((a : Int) + (n' : Int)))) _ _ _ HR.out rfl rfl (by first | kernel_rfl | (simp [Value.oneCell'])) _ _ _ _ rfl rfl rfl); intro w77 hw77; subst hw77)))
   refine bodyPost_ret (results_ct rfl _ _ w.heap.size 35 #[.int .i64 k, .string t, .int .i64 (a : Int)] (0, 0) _ rfl (has_row HR.out #[.int .i64 k, .string t, .int .i64 (a : Int)]) Tryd.underlying35 rfl (by rfl)) rfl ?_
   refine ⟨kept_row HK.out (Nat.le_refl _) _, ?_⟩
   have h2 : (nextN (fromN s a)).2.1 = n' := by rw [HX.out]
   have h3 : (nextN (fromN s a)).1 = k := by rw [HX.out]
   rw [h2, h3, if_neg hz, ht]
   exact ⟨rfl, has_row_other HH.out (by omega), hl2⟩
end Go.Proofs.YtngpgdmafmkddaaDoor.Lex
end
section
namespace Go.Proofs.YtngpgdmafmkddaaDoor.Lex
open Go.Proofs.YtngpgdmafmkddaaDoor.PParseBlanks (k35_mkM) 
open Go.Proofs.YtngpgdmafmkddaaDoor.Calm Go.Proofs.YtngpgdmafmkddaaDoor.Par Go.RowKit Go.Proofs.YtngpgdmafmkddaaDoorW.PrintWords Go.Proofs.YtngpgdmafmkddaaDoorW.PrintLast Go.Proofs.YtngpgdmafmkddaaDoorW.PrintMore
open Go.Proofs.YtngpgdmafmkddaaDoor.PParseBlanks (S35 S25 S27 k35 k25 k27 rd_T35 rd_T25 rd_T27 at_T35 at_T25 at_T27)
set_option linter.unusedVariables false
set_option linter.unusedSimpArgs false
theorem nextN_two (l : List UInt8) : ((nextN l).2.1 = 0 ∧ (nextN l).2.2 ≠ 0) ∨ (¬ (nextN l).2.1 = 0 ∧ (nextN l).2.2 = 0) := by
 unfold nextN
 repeat' split
 all_goals simp_all
theorem nextN_bad {l : List UInt8} (h : (nextN l).2.1 = 0) : (nextN l).2.2 ≠ 0 := (nextN_two l).elim (fun h => h.2) fun h2 => absurd h h2.1
theorem nextN_ok {l : List UInt8} (h : ¬ (nextN l).2.1 = 0) : (nextN l).2.2 = 0 := (nextN_two l).elim (fun h2 => absurd h2.1 h) fun h => h.2
def lexN : Nat → Nat → List UInt8 → Except (Nat × Int) (List S35)
 | 0, _, _ => .error (0, 0)
 | _ + 1, _, [] => .ok []
 | k + 1, a, b :: r =>
  if (nextN (b :: r)).2.1 = 0 then .error (a, (nextN (b :: r)).2.2)
  else match lexN k (a + (nextN (b :: r)).2.1 + skipN (((b :: r).drop (nextN (b :: r)).2.1).length + 1) ((b :: r).drop (nextN (b :: r)).2.1)) (((b :: r).drop (nextN (b :: r)).2.1).drop (skipN (((b :: r).drop (nextN (b :: r)).2.1).length + 1) ((b :: r).drop (nextN (b :: r)).2.1))) with
   | .error e => .error e
   | .ok ts => .ok (⟨(nextN (b :: r)).1, ⟨((b :: r).take (nextN (b :: r)).2.1).toArray⟩, a⟩ :: ts)
def lexP (s : ByteArray) : Except (Nat × Int) (List S35) :=
 if s.size > 65536 then .error (0, 3) else lexN (s.size + 1) (skipN (s.size + 1) s.data.toList) (s.data.toList.drop (skipN (s.size + 1) s.data.toList))
def preE (acc : List S35) : Except (Nat × Int) (List S35) → Except (Nat × Int) (List S35)
 | .error e => .error e
 | .ok ts => .ok (acc ++ ts)
def XPost (R : Except (Nat × Int) (List S35)) (w : World) (en : Ending) (w' : World) : Prop :=
 Below w.heap.size w w' ∧ match R with
 | .ok ts => ∃ A c, en = .returned (.tuple #[.slice A ts.length c, .int .i64 0, .int .i64 0]) ∧ ts.length ≤ c ∧ Kd.C k35 w' A ts.length ts ∧ RowT w' A
 | .error e => en = .returned (.tuple #[.slice none 0 0, .int .i64 e.1, .int .i64 e.2])
theorem R35_kept {w w' : World} {m B : Nat} {v : Value} {ts : List S35} (h : k35.R 35 w B Any v ts) (hk : Par.Kept (fun b => b = m) w w') (hm : m < B) : k35.R 35 w' B Any v ts :=
 Kd.R_mono (Kd.R_step (Kd.R_bound h) fun k hk1 hk2 => hk.block k hk2 (by have := hk1.2.1; omega)) fun _ _ => trivial
theorem info35 : (Tryd.prog.info? 35).map (fun i => (i.zero, i.size, i.bytes)) = some (some (.agg #[.int .i64 0, .string ⟨#[]⟩, .int .i64 0]), 3, 32) := by kernel_rfl
theorem lexN_step {s : ByteArray} {a k : Nat} (ha : a < s.size) (n : Nat) (hn : (nextN (fromN s a)).2.1 = n) : lexN (k + 1) a (fromN s a) = if n = 0 then .error (a, (nextN (fromN s a)).2.2) else preE [⟨(nextN (fromN s a)).1, s.extract a (a + n), a⟩] (lexN k (a + n + skipN (s.size - (a + n) + 1) (fromN s (a + n))) (fromN s (a + n + skipN (s.size - (a + n) + 1) (fromN s (a + n))))) := by
 obtain ⟨b, e, _⟩ := bt_get ha
 by_cases hle : a + n ≤ s.size
 ·rw [ext_take s a n hle]
  have h2 : lexN (k + 1) a (fromN s a) = lexN (k + 1) a (b :: fromN s (a + 1)) := by rw [← e]
  rw [h2]
  simp only [lexN]
  rw [← e, hn, from_from, from_len, from_from]
  by_cases hz : n = 0
  ·rw [if_pos hz, if_pos hz]
  ·rw [if_neg hz, if_neg hz]
   cases lexN k (a + n + skipN (s.size - (a + n) + 1) (fromN s (a + n))) (fromN s (a + n + skipN (s.size - (a + n) + 1) (fromN s (a + n)))) <;> rfl
 ·have h3 : s.extract a (a + n) = ⟨((fromN s a).take n).toArray⟩ := by
   apply ByteArray.ext
   apply Array.toList_inj.1
   rw [ByteArray.data_extract, Array.toList_extract, List.extract_eq_take_drop]
   simp
  rw [h3]
  have h2 : lexN (k + 1) a (fromN s a) = lexN (k + 1) a (b :: fromN s (a + 1)) := by rw [← e]
  rw [h2]
  simp only [lexN]
  rw [← e, hn, from_from, from_len, from_from]
  by_cases hz : n = 0
  ·rw [if_pos hz, if_pos hz]
  ·rw [if_neg hz, if_neg hz]
   cases lexN k (a + n + skipN (s.size - (a + n) + 1) (fromN s (a + n))) (fromN s (a + n + skipN (s.size - (a + n) + 1) (fromN s (a + n)))) <;> rfl
theorem below_tr {B : Nat} {w w1 w2 : World} (h1 : Below B w w1) (h2 : Below B w1 w2) : Below B w w2 := ⟨h2.os.trans h1.os, h2.tape.trans h1.tape, h2.output.trans h1.output, Nat.le_trans h1.size h2.size, fun k hk => (h2.block k hk).trans (h1.block k hk)⟩
theorem preE_pre (x y : List S35) (R : Except (Nat × Int) (List S35)) : preE x (preE y R) = preE (x ++ y) R := by
 cases R <;> simp [preE]
set_option maxRecDepth 100000 in
set_option maxHeartbeats 4000000 in
theorem lex_said (s : ByteArray) (w : World) (HT : Tab w) :
  Calls Tryd.prog 9 #[.string s] w (XPost (lexP s) w) := by
 by_cases hbig : s.size > 65536
 ·have h : lexP s = .error (0, 3) := if_pos hbig
  rw [h]
  have kb : decide ((s.size : Int) > 65536) = true := decide_eq_true (by omega)
  have kb2 : decide (65536 < (s.size : Int)) = true := decide_eq_true (by omega)
  clear h hbig
  go_enter Tryd.func9, Tryd.ntmps9
  go_wp2
  go_ret3
  exact ⟨Below.refl _ _, rfl⟩
 have hs : s.size < 4611686018427387904 := by omega
 have hsz : s.size ≤ 65536 := by omega
 have kb : decide ((s.size : Int) > 65536) = false := decide_eq_false (by omega)
 have kb2 : decide (65536 < (s.size : Int)) = false := decide_eq_false (by omega)
 have hR : lexP s = lexN (s.size + 1) (0 + skipN (s.size - 0 + 1) (fromN s 0)) (fromN s (0 + skipN (s.size - 0 + 1) (fromN s 0))) := by
  unfold lexP
  rw [if_neg hbig]
  simp
 obtain ⟨R, hRR⟩ : ∃ R, lexP s = R := ⟨_, rfl⟩
 rw [hRR] at hR ⊢
 have HRX := Aside0.mk hR
 have HTT := Aside0.mk HT
 clear hR hRR hbig HT
 go_enter Tryd.func9, Tryd.ntmps9
 go_upto_block 0 with (first
  | (
   go_at_call 21
   (with_reducible refine Calls.mono (words_said _ HTT.out) ?_)
   rintro en w1 ⟨wb, rfl, hM, hwb, hb1⟩
   have hwl := World.ownsMap.lt hM
   have b2 := below_alloc (Below.refl w1.heap.size w1) (Obj.cells (lxC s 0 (.map (some wb))) 65)
   have HM := Aside0.mk (own_below hM b2)
   have HH : Aside0 (Has (w1.alloc (Obj.cells (lxC s 0 (.map (some wb))) 65)) w1.heap.size (lxC s ((0 : Nat) : Int) (.map (some wb))) 65) := ⟨Has.new w1 (lxC s 0 (.map (some wb))) 65⟩
   have HB := Aside0.mk (below_then hb1 hb1.size b2)
   clear b2 hM)
  | (
   go_at_call 22
   (with_reducible refine Calls.mono (skip_said w1.heap.size s 0 (.map (some wb)) _ HH.out (Nat.zero_le _) hs) ?_)
   rintro en w2 ⟨rfl, hk2, hh2, hl2⟩
   replace HM := Aside0.mk (own_kept HM.out hk2 (by omega))
   replace HH := Aside0.mk hh2
   have HK := Aside0.mk hk2
   have HL := Aside0.mk hl2
   have hz2 := hk2.size
   try simp at hz2
   clear hk2 hh2 hl2))
 obtain ⟨a0, ha0⟩ : ∃ a, 0 + skipN (s.size - 0 + 1) (fromN s 0) = a := ⟨_, rfl⟩
 rw [ha0] at HH HL HRX
 have hw1 : w.heap.size ≤ w1.heap.size := hb1.size
 obtain ⟨m, hm⟩ : ∃ m, w1.heap.size = m := ⟨_, rfl⟩
 rw [hm] at HH hwl hz2 hw1
 have hwb' : wb ≠ m := by omega
 have hlx := Aside0.mk (below_tr HB.out (Par.Kept.below_of HK.out (B := w.heap.size) (fun b hb => by omega) HB.out.size))
 have HST : Aside0 (∃ (a : Nat) (acc : List S35), a ≤ s.size ∧ Has w2 m (lxC s a (.map (some wb))) 65 ∧ w2.ownsMap Tryd.prog 9 E4 wb 17 (wdD wordL) ∧ k35.R 35 w2 (m + 1) Any (.slice none 0 0) acc ∧ (acc = [] → (Value.slice none 0 0) = .slice none 0 0) ∧ acc.length ≤ a ∧ Below w.heap.size w w2 ∧ preE acc (lexN (s.size + 1) a (fromN s a)) = R ∧ s.size - a < s.size + 1) :=
  ⟨a0, [], HL.out, HH.out, HM.out, Kd.R_nil _ _ _ _ _, fun _ => rfl, Nat.zero_le _, hlx.out, by rw [HRX.out]; cases lexN (s.size + 1) a0 (fromN s a0) <;> rfl, by omega⟩
 have hmw : m < w2.heap.size := HH.out.lt
 clear HL HH HM HB HK HRX hlx HTT hb1 hz2
 go_wp2
 go_loopg [6] (s.size + 1) (fun k v wr => Aside0 (∃ (a : Nat) (acc : List S35), a ≤ s.size ∧ Has wr m (lxC s a (.map (some wb))) 65 ∧ wr.ownsMap Tryd.prog 9 E4 wb 17 (wdD wordL) ∧ k35.R 35 wr (m + 1) Any v acc ∧ (acc = [] → v = .slice none 0 0) ∧ acc.length ≤ a ∧ Below w.heap.size w wr ∧ preE acc (lexN k a (fromN s a)) = R ∧ s.size - a < k))
 case atStart =>
  obtain ⟨a, acc, h1, h2, h3, h4, h5, h6, h7, h8, h9⟩ := HST.out
  exact ⟨⟨a, acc, h1, h2, h3, h4, fun _ => rfl, h6, h7, h8, h9⟩⟩
 case round =>
  clear HST
  obtain ⟨a, acc, ha, hH, hM, hR, hv, hl, hB, hE, hk⟩ := hrel.out
  clear hrel
  cases gk with
  | zero => omega
  | succ k =>
   have HH := Aside0.mk hH
   have HM := Aside0.mk hM
   have HR := Aside0.mk hR
   have HV := Aside0.mk hv
   have HB := Aside0.mk hB
   have hml := hH.lt
   clear hH hM hB hv
   obtain ⟨A, c, rfl⟩ := Kd.R_slice hR
   clear hR
   have c1 := HH.out.cell 1
   simp only [List.getElem?_toArray, List.getElem?_cons_zero, List.getElem?_cons_succ] at c1
   by_cases hlt : a < s.size
   ·have kl : decide ((a : Int) < (s.size : Int)) = true := decide_eq_true (by omega)
    rw [lexN_step hlt _ rfl] at hE
    obtain ⟨t, ht⟩ : ∃ t, nextN (fromN s a) = t := ⟨_, rfl⟩
    obtain ⟨tk, n, ne⟩ := t
    have HNX := Aside0.mk ht
    rw [ht] at hE
    by_cases hz : n = 0
    ·rw [if_pos hz] at hE
     have HE := Aside0.mk hE
     have hne : ne ≠ 0 := by have h := nextN_bad (l := fromN s a) (by rw [ht]; exact hz); rwa [ht] at h
     have kne : (ne != 0) = true := by simp [hne]
     clear hE ht hne
     go_upto_region 10 with (
      go_at_call 23
      (with_reducible refine Calls.mono (next_said m s a wb _ HH.out HM.out hwb' hlt hs) ?_)
      rintro en w4 ⟨hk4, hq4⟩
      clear c1
      rw [HNX.out, if_pos hz] at hq4
      obtain ⟨kk, rfl, hh4⟩ := hq4
      replace HB := Aside0.mk (below_tr HB.out (Par.Kept.below_of hk4 (B := w.heap.size) (fun b hb => by omega) HB.out.size)))
     have b5 := below_drew (below_alloc HB.out (Obj.cells #[.int .i64 kk, .string ⟨#[]⟩, .int .i64 (a : Int)] 35))
     have h5 : Has (w4.alloc (Obj.cells #[.int .i64 kk, .string ⟨#[]⟩, .int .i64 (a : Int)] 35)).drew w4.heap.size #[.int .i64 kk, .string ⟨#[]⟩, .int .i64 (a : Int)] 35 := (Has.new w4 #[.int .i64 kk, .string ⟨#[]⟩, .int .i64 (a : Int)] 35).drewN 1
     obtain ⟨W, hW⟩ : ∃ W, (w4.alloc (Obj.cells #[.int .i64 kk, .string ⟨#[]⟩, .int .i64 (a : Int)] 35)).drew = W := ⟨_, rfl⟩
     rw [hW] at b5 h5
     refine region_treeQ (by kernel_rfl) (fun w' => Has w' w4.heap.size #[.int .i64 kk, .string ⟨#[]⟩, .int .i64 (a : Int)] 35) (hW ▸ h5) fun hS => ?_
     rw [hW] at hS ⊢
     clear hW
     generalize hQQ : Exit.then _ _ = QQ
     have hsure : Sure QQ := by
      rw [← hQQ]
      intro c a a' w1 hd h
      simp +zetaDelta only [Exit.then, Exit.inBlock, bodyPost] at h ⊢
      first | (simp at h; done) | simpa [hd] using h
     refine treeQ_h hsure hS (i := 0) (by kernel_rfl) (by rfl) (by rfl) (by kernel_rfl) (by rfl) ?_
     apply Exists.intro
     apply And.intro
     ·rintro w' k1
      apply VR.mk
      go_simp
      with_reducible rfl
     simp only [List.setIfInBounds_toArray, List.set_cons_zero, List.set_cons_succ]
     refine treeQ_h hsure hS (i := 1) (by kernel_rfl) (by rfl) (by rfl) (by kernel_rfl) (by rfl) ?_
     apply Exists.intro
     apply And.intro
     ·rintro w' k1
      have cc0 := k1.cell 2
      simp only [List.getElem?_toArray, List.getElem?_cons_zero, List.getElem?_cons_succ] at cc0
      apply VR.mk
      go_simp
      with_reducible rfl
     simp only [List.setIfInBounds_toArray, List.set_cons_zero, List.set_cons_succ]
     refine treeQ_h hsure hS (i := 2) (by kernel_rfl) (by rfl) (by rfl) (by kernel_rfl) (by rfl) ?_
     apply Exists.intro
     apply And.intro
     ·rintro w' k1
      apply VR.mk
      go_simp
      with_reducible rfl
     simp only [List.setIfInBounds_toArray, List.set_cons_zero, List.set_cons_succ]
     refine treeQ_h hsure hS (i := 3) (by kernel_rfl) (by rfl) (by rfl) (by kernel_rfl) (by rfl) ?_
     apply Exists.intro
     apply And.intro
     ·rintro w' k1
      apply VR.mk
      go_simp
      with_reducible rfl
     simp only [List.setIfInBounds_toArray, List.set_cons_zero, List.set_cons_succ]
     refine treeQ_h hsure hS (i := 4) (by kernel_rfl) (by rfl) (by rfl) (by kernel_rfl) (by rfl) ?_
     apply Exists.intro
     apply And.intro
     ·rintro w' k1
      apply VR.mk
      go_simp
      with_reducible rfl
     simp only [List.setIfInBounds_toArray, List.set_cons_zero, List.set_cons_succ]
     refine treeQ_h hsure hS (i := 5) (by kernel_rfl) (by rfl) (by rfl) (by kernel_rfl) (by rfl) ?_
     apply Exists.intro
     apply And.intro
     ·rintro w' k1
      apply VR.mk
      go_simp
      with_reducible rfl
     simp only [List.setIfInBounds_toArray, List.set_cons_zero, List.set_cons_succ]
     refine tree_endQ (by kernel_rfl) ?_
     rw [← hQQ]
     go_wp2
     go_ret3
     rw [← HE.out]
     exact ⟨b5, rfl⟩
    ·rw [if_neg hz] at hE
     have HE := Aside0.mk hE
     have hne : ne = 0 := by have h := nextN_ok (l := fromN s a) (by rw [ht]; exact hz); rwa [ht] at h
     have kne : (ne != 0) = false := by simp [hne]
     skip
     go_wp2_with (first
       | (
        go_at_call 23
        (with_reducible refine Calls.mono (next_said m s a wb _ HH.out HM.out hwb' hlt hs) ?_)
        rintro en w4 ⟨hk4, hq4⟩
        clear c1
        rw [HNX.out, if_neg hz] at hq4
        obtain ⟨rfl, hh4, hle4⟩ := hq4
        replace HB := Aside0.mk (below_tr HB.out (Par.Kept.below_of hk4 (B := w.heap.size) (fun b hb => by omega) HB.out.size))
        replace HM := Aside0.mk (own_kept HM.out hk4 hwb')
        replace HR := Aside0.mk (R35_kept HR.out hk4 (Nat.lt_succ_self m))
        replace HH := Aside0.mk hh4
        have hml4 := hh4.lt
        have b5 := below_alloc (Below.refl w4.heap.size w4) (Obj.cells #[.int .i64 tk, .string (s.extract a (a + n)), .int .i64 (a : Int)] 35)
        have HT := Aside0.mk (Has.new w4 #[.int .i64 tk, .string (s.extract a (a + n)), .int .i64 (a : Int)] 35)
        replace HH := Aside0.mk (HH.out.belowS b5)
        replace HM := Aside0.mk (own_below HM.out b5)
        replace HR := Aside0.mk (Kd.R_below HR.out b5)
        replace HB := Aside0.mk (below_alloc HB.out (Obj.cells #[.int .i64 tk, .string (s.extract a (a + n)), .int .i64 (a : Int)] 35))
        clear b5 hh4 hk4
        obtain ⟨w5, hw5⟩ : ∃ W, w4.alloc (Obj.cells #[.int .i64 tk, .string (s.extract a (a + n)), .int .i64 (a : Int)] 35) = W := ⟨_, rfl⟩
        rw [hw5] at HH HM HR HB HT
        have hz5 : w4.heap.size < w5.heap.size := HT.out.lt
        have HW5 := Aside0.mk hw5
        clear hw5)
       | (
        (with_reducible refine gate_dst (N := 38) rfl ?_)
        rw [HW5.out]
        go_must (refine Kd.event_run rfl (load35 w5 w4.heap.size #[.int .i64 tk, .string (s.extract a (a + n)), .int .i64 (a : Int)] HT.out rfl _ _ _ rfl rfl) ?_))
       | (
        at_builtin
        refine Kd.R_append k35 (w0 := w5) (m + 1) rfl (.tmp 37) (.tmp 39) 31 35 (.agg #[.int .i64 0, .string ⟨#[]⟩, .int .i64 0]) 32 rfl Tryd.underlying31 info35 rfl (by decide) (by decide) (.slice A acc.length c) acc ⟨tk, s.extract a (a + n), (a : Int)⟩ _ Any (fun _ => False) rfl rfl (k35_mkM _ _ _ _) (fun _ h => h.elim) (fun _ _ => trivial) HR.out (Below.refl _ _) (by omega) (by omega) ?_
        intro v6 w6 hR6 _ hG6 hat6)
       | (
        go_at_call 22
        have hrow : ∀ kk, (Value.slice A acc.length c).ownBlock = some kk → m + 1 ≤ kk := fun kk h => ((Kd.R_bound HR.out).1 kk h).2.1
        have hm6 : some m ≠ (Value.slice A acc.length c).ownBlock := fun h => by have := hrow m h.symm; omega
        have hw6 : some wb ≠ (Value.slice A acc.length c).ownBlock := fun h => by have := hrow wb h.symm; omega
        replace HH := Aside0.mk (HH.out.of_block (hG6.block m HH.out.lt hm6))
        replace HM := Aside0.mk (HM.out.kept hG6 hw6)
        replace HB := Aside0.mk (pw_below_grown HB.out _ HB.out.size hG6 (fun kk h => by have := hrow kk h; omega))
        have HR6 := Aside0.mk hR6
        clear hR6 hrow hm6 hw6 hat6 hG6
        (with_reducible refine Calls.mono (skip_said m s (a + n) (.map (some wb)) _ HH.out hle4 hs) ?_)
        rintro en w7 ⟨rfl, hk7, hh7, hl7⟩
        replace HB := Aside0.mk (below_tr HB.out (Par.Kept.below_of hk7 (B := w.heap.size) (fun b hb => by omega) HB.out.size))
        replace HM := Aside0.mk (own_kept HM.out hk7 hwb')
        replace HR6 := Aside0.mk (R35_kept HR6.out hk7 (Nat.lt_succ_self m))
        replace HH := Aside0.mk hh7
        clear hk7 hh7))
     go_roundg k
     case measure => omega
     case rel =>
      have HE2 := HE.out
      rw [preE_pre] at HE2
      exact ⟨⟨_, _, hl7, HH.out, HM.out, HR6.out, fun h => by simp at h, by simp; omega, HB.out, HE2, by omega⟩⟩
   ·have kl : decide ((a : Int) < (s.size : Int)) = false := decide_eq_false (by omega)
    rw [from_end (by omega)] at hE
    have HE := Aside0.mk hE
    clear hE
    by_cases hnil : acc = []
    ·subst hnil
     have hv0 := HV.out rfl
     injection hv0 with hA hn hc
     subst hA hc
     go_wp2
     go_ret3
     rw [← HE.out]
     exact ⟨HB.out, none, 0, rfl, Nat.le_refl 0, nil_row _ _, fun ad h => by cases h⟩
    ·obtain ⟨hcl, hcc, hC⟩ := Kd.R_reads' HR.out
     obtain ⟨_, inner, hown, _⟩ := HR.out
     obtain ⟨g, cap, h1, h2, h3⟩ := hown.form (by
      rcases Nat.eq_zero_or_pos acc.length with h | h
      ·exact absurd (List.eq_nil_of_length_eq_zero h) hnil
      ·exact h)
     injection h1 with hA hn hc
     subst hA hc
     have hrt : Aside0 (RowT wr (some ⟨g, 0, none⟩)) := ⟨fun ad h => by
      injection h with h
      subst h
      exact own_typed hown g rfl⟩
     have hC := Aside0.mk hC
     clear hown
     go_wp2
     go_ret3
     rw [← HE.out]
     simp only [preE, List.append_nil, lexN]
     exact ⟨HB.out, _, _, rfl, Nat.le_refl _, hC.out, hrt.out⟩
end Go.Proofs.YtngpgdmafmkddaaDoor.Lex
end
section
namespace Go.Proofs.YtngpgdmafmkddaaDoor.Par
open Go.RowKit Go.Proofs.YtngpgdmafmkddaaDoorW.PrintWords Go.Proofs.YtngpgdmafmkddaaDoorW.PrintLast Go.Proofs.YtngpgdmafmkddaaDoorW.PrintMore
open Go.Proofs.YtngpgdmafmkddaaDoor.PParseBlanks (S35 S25 S27 k35 k25 k27 rd_T35 rd_T25 rd_T27 at_T35 at_T25 at_T27)
set_option linter.unusedVariables false
set_option linter.unusedSimpArgs false
def TreeOK (n : Nat) : Prop := ∀ (g : Nat) (e d : Int) (op : Bool) (l : List S35) (w : World), 0 ≤ d → d ≤ 1000 → PS w g l e → climbP e n d op 1 l ≠ .out →
 Calls Tryd.prog 18 #[.pointer (some ⟨g, 0, none⟩), .int .i64 d, .bool op] w (PPost g e (VE w.heap.size) (climbP e n d op 1 l) w)
def BehindOK (n : Nat) : Prop := ∀ (g : Nat) (e d : Int) (x : S27) (v : Value) (B : Nat) (l : List S35) (w : World), 0 ≤ d → d < 60 → PS w g l e → VE B w v x → B ≤ w.heap.size → behindP e n d x l ≠ .out →
 Calls Tryd.prog 78 #[.pointer (some ⟨g, 0, none⟩), v, .int .i64 d] w (PPost g e (VE B) (behindP e n d x l) w)
theorem PS.rowP {w : World} {g r0 : Nat} {l : List S35} {e : Int} {old : Array Value} (h : PS w g l e) (hr : Has w r0 old 27) (cs : Array Value) : PS (w.setRow r0 cs) g l e := by
 obtain ⟨A, c, HP⟩ := h
 exact ⟨A, c, has_row_other HP.has (HP.has.ne hr (by decide)), HP.le, C_row HP.toks (HP.row.ne hr (by decide)) _, HP.row.of fun ad ea => row_block _ _ _ _ (HP.row.ne hr (by decide) ad ea)⟩
set_option maxRecDepth 100000 in
set_option maxHeartbeats 2000000 in
theorem tree_ok {n : Nat} (HC : ClimbOK n) : TreeOK n := by
 intro g e d op l w h0 h1 HP hne
 unfold ClimbOK at HC
 have HPS := Aside0.mk HP
 have HCC := Aside0.mk HC
 have hu27 := Tryd.underlying27
 have B0 := below_alloc (Below.refl w.heap.size w) (Obj.cells #[.int .i64 0, .int .i64 0, .int .i64 0, .string ⟨#[]⟩, .slice none 0 0, .slice none 0 0, .int .i64 0, .string ⟨#[]⟩, .int .i64 0, .slice none 0 0] 27)
 obtain ⟨A0, c0, HP0⟩ := HP
 have hgw : g < w.heap.size := HP0.has.lt
 clear HP0 HC
 cases hr : climbP e n d op 1 l with
 | out => exact absurd hr hne
 | bad a er =>
  have HR := Aside0.mk hr
  clear hr hne
  go_enter Tryd.func18, Tryd.ntmps18
  go_wp2_with (go_at_call 28; (with_reducible refine (HCC.out g e d op 1 l _ h0 h1 (by omega) (by omega) (HPS.out.below B0) (by rw [HR.out]; exact PR.bad_ne _ _)).mono ?_); rintro en w1 ⟨hk, hq⟩; rw [HR.out] at hq; subst hq)
  exact ⟨rfl, (Kept.of_below B0).then_ hk, rfl⟩
 | ok x l2 =>
  have HR := Aside0.mk hr
  clear hr hne
  go_enter Tryd.func18, Tryd.ntmps18
  go_wp2_with (first | (go_at_call 28; (with_reducible refine (HCC.out g e d op 1 l _ h0 h1 (by omega) (by omega) (HPS.out.below B0) (by rw [HR.out]; exact PR.ok_ne _ _)).mono ?_); rintro en w1 ⟨hk, hq⟩; rw [HR.out] at hq; obtain ⟨v, rfl, hv, hp⟩ := hq; obtain ⟨a4, ac4, a5, ac5, a9, ac9, rfl⟩ := hv.form; have HZ1 := Aside0.mk (Kept.has hk (Has.new w #[.int .i64 0, .int .i64 0, .int .i64 0, .string ⟨#[]⟩, .slice none 0 0, .slice none 0 0, .int .i64 0, .string ⟨#[]⟩, .int .i64 0, .slice none 0 0] 27) (by omega))) | ((with_reducible refine gate_store (t := 27) (p := 6) rfl ?_); go_must (refine store_event (t := 27) (p := 6) (v := .tmp 10) (w1 := w1.setRow w.heap.size #[.int .i64 x.f0, .int .i64 x.f1, .int .i64 x.f2, .string x.f3, .slice a4 x.f4.length ac4, .slice a5 x.f5.length ac5, .int .i64 x.f6.f0, .string x.f6.f1, .int .i64 x.f6.f2, .slice a9 x.f6.f3.length ac9]) ?hg ?ho ?hn ?hr ?_; (case ho => rfl); (case hg => rfl); (case hn => rfl); (case hr => exact store27 w1 _ _ _ HZ1.out rfl rfl (by first | kernel_rfl | (simp [Value.oneCell'])) _ _ _ _ rfl rfl rfl); intro w7 hw7; subst hw7)))
  have HR7 := has_row HZ1.out #[.int .i64 x.f0, .int .i64 x.f1, .int .i64 x.f2, .string x.f3, .slice a4 x.f4.length ac4, .slice a5 x.f5.length ac5, .int .i64 x.f6.f0, .string x.f6.f1, .int .i64 x.f6.f2, .slice a9 x.f6.f3.length ac9]
  have HV7 : VE w.heap.size (w1.setRow w.heap.size #[.int .i64 x.f0, .int .i64 x.f1, .int .i64 x.f2, .string x.f3, .slice a4 x.f4.length ac4, .slice a5 x.f5.length ac5, .int .i64 x.f6.f0, .string x.f6.f1, .int .i64 x.f6.f2, .slice a9 x.f6.f3.length ac9]) (.agg #[.int .i64 x.f0, .int .i64 x.f1, .int .i64 x.f2, .string x.f3, .slice a4 x.f4.length ac4, .slice a5 x.f5.length ac5, .int .i64 x.f6.f0, .string x.f6.f1, .int .i64 x.f6.f2, .slice a9 x.f6.f3.length ac9]) x := (VO.row (hv.lower (show w.heap.size + 1 ≤ _ from by simp)) (Nat.lt_succ_self _) _).lower (Nat.le_succ _)
  refine bodyPost_ret (results_cell_row rfl _ _ w.heap.size 27 #[.int .i64 x.f0, .int .i64 x.f1, .int .i64 x.f2, .string x.f3, .slice a4 x.f4.length ac4, .slice a5 x.f5.length ac5, .int .i64 x.f6.f0, .string x.f6.f1, .int .i64 x.f6.f2, .slice a9 x.f6.f3.length ac9] (0, 0) _ rfl HR7 Tryd.underlying27 rfl (by rfl)) rfl ?_
  exact ⟨kept_row ((Kept.of_below B0).then_ hk) (Nat.le_refl _) _, _, rfl, HV7, hp.rowP HZ1.out _⟩
end Go.Proofs.YtngpgdmafmkddaaDoor.Par
end
section
namespace Go.Proofs.YtngpgdmafmkddaaDoor.Par
open Go.RowKit Go.Proofs.YtngpgdmafmkddaaDoorW.PrintWords Go.Proofs.YtngpgdmafmkddaaDoorW.PrintLast Go.Proofs.YtngpgdmafmkddaaDoorW.PrintMore
open Go.Proofs.YtngpgdmafmkddaaDoor.PParseBlanks (S35 S25 S27 k35 k25 k27 rd_T35 rd_T25 rd_T27 at_T35 at_T25 at_T27)
set_option linter.unusedVariables false
set_option linter.unusedSimpArgs false
set_option maxRecDepth 100000 in
set_option maxHeartbeats 2000000 in
theorem behind_ok (n : Nat) : BehindOK (n + 1) := by
 intro g e d x v B l w h0 h1 HP HVX hB hne
 have hu27 := Tryd.underlying27
 cases hd : isP sDot l with
 | true => simp only [behindP, hd] at hne; exact absurd rfl hne
 | false =>
 cases hl : isP sLbra l with
 | true => simp only [behindP, hd, hl] at hne; exact absurd rfl hne
 | false =>
 have HE : Aside0 (behindP e (n + 1) d x l = .ok x l) := ⟨by simp only [behindP, hd, hl]; rfl⟩
 have HD := Aside0.mk hd
 have HL := Aside0.mk hl
 clear hd hl hne
 obtain ⟨a4, ac4, a5, ac5, a9, ac9, rfl⟩ := HVX.form
 have HV := Aside0.mk (HVX.bound.mono (ok' := fun k => k < w.heap.size) fun k hk => hk.2.2)
 have B1 := below_alloc (below_alloc (Below.refl w.heap.size w) (Obj.cells #[.int .i64 x.f0, .int .i64 x.f1, .int .i64 x.f2, .string x.f3, .slice a4 x.f4.length ac4, .slice a5 x.f5.length ac5, .int .i64 x.f6.f0, .string x.f6.f1, .int .i64 x.f6.f2, .slice a9 x.f6.f3.length ac9] 27)) (Obj.cells #[.int .i64 0, .int .i64 0, .int .i64 0, .string ⟨#[]⟩, .slice none 0 0, .slice none 0 0, .int .i64 0, .string ⟨#[]⟩, .int .i64 0, .slice none 0 0] 27)
 have HX := Aside0.mk ((Has.new w #[.int .i64 x.f0, .int .i64 x.f1, .int .i64 x.f2, .string x.f3, .slice a4 x.f4.length ac4, .slice a5 x.f5.length ac5, .int .i64 x.f6.f0, .string x.f6.f1, .int .i64 x.f6.f2, .slice a9 x.f6.f3.length ac9] 27).alloc (Obj.cells #[.int .i64 0, .int .i64 0, .int .i64 0, .string ⟨#[]⟩, .slice none 0 0, .slice none 0 0, .int .i64 0, .string ⟨#[]⟩, .int .i64 0, .slice none 0 0] 27))
 have HZ : Aside0 (Has ((w.alloc (Obj.cells #[.int .i64 x.f0, .int .i64 x.f1, .int .i64 x.f2, .string x.f3, .slice a4 x.f4.length ac4, .slice a5 x.f5.length ac5, .int .i64 x.f6.f0, .string x.f6.f1, .int .i64 x.f6.f2, .slice a9 x.f6.f3.length ac9] 27)).alloc (Obj.cells #[.int .i64 0, .int .i64 0, .int .i64 0, .string ⟨#[]⟩, .slice none 0 0, .slice none 0 0, .int .i64 0, .string ⟨#[]⟩, .int .i64 0, .slice none 0 0] 27)) (w.heap.size + 1) #[.int .i64 0, .int .i64 0, .int .i64 0, .string ⟨#[]⟩, .slice none 0 0, .slice none 0 0, .int .i64 0, .string ⟨#[]⟩, .int .i64 0, .slice none 0 0] 27) := ⟨by
  have := Has.new (w.alloc (Obj.cells #[.int .i64 x.f0, .int .i64 x.f1, .int .i64 x.f2, .string x.f3, .slice a4 x.f4.length ac4, .slice a5 x.f5.length ac5, .int .i64 x.f6.f0, .string x.f6.f1, .int .i64 x.f6.f2, .slice a9 x.f6.f3.length ac9] 27)) #[.int .i64 0, .int .i64 0, .int .i64 0, .string ⟨#[]⟩, .slice none 0 0, .slice none 0 0, .int .i64 0, .string ⟨#[]⟩, .int .i64 0, .slice none 0 0] 27
  rwa [show (w.alloc (Obj.cells #[.int .i64 x.f0, .int .i64 x.f1, .int .i64 x.f2, .string x.f3, .slice a4 x.f4.length ac4, .slice a5 x.f5.length ac5, .int .i64 x.f6.f0, .string x.f6.f1, .int .i64 x.f6.f2, .slice a9 x.f6.f3.length ac9] 27)).heap.size = w.heap.size + 1 by simp] at this⟩
 have HPS := Aside0.mk (HP.below B1)
 obtain ⟨A0, c0, HP0⟩ := HP
 have hgw : g < w.heap.size := HP0.has.lt
 have BB := Aside0.mk B1
 clear HP0 HVX B1
 go_enter Tryd.func78, Tryd.ntmps78
 go_wp2
 obtain ⟨W2, hW2⟩ : ∃ W, (w.alloc (Obj.cells #[.int .i64 x.f0, .int .i64 x.f1, .int .i64 x.f2, .string x.f3, .slice a4 x.f4.length ac4, .slice a5 x.f5.length ac5, .int .i64 x.f6.f0, .string x.f6.f1, .int .i64 x.f6.f2, .slice a9 x.f6.f3.length ac9] 27)).alloc (Obj.cells #[.int .i64 0, .int .i64 0, .int .i64 0, .string ⟨#[]⟩, .slice none 0 0, .slice none 0 0, .int .i64 0, .string ⟨#[]⟩, .int .i64 0, .slice none 0 0] 27) = W := ⟨_, rfl⟩
 rw [hW2] at HX HZ HPS BB ⊢
 clear hW2
 go_loopw [7] (fun _ wr => wr = W2) (fun _ _ => 0)
 case atStart => rfl
 case round =>
  subst hrel
  obtain ⟨A1, c1, HP1⟩ := HPS.out
  have HP1 := Aside0.mk HP1
  go_wp2_with (first | (go_at_call 29; (with_reducible refine (at_said g l e A1 c1 _ HP1.out).mono ?_); rintro en w3 ⟨rfl, hb3⟩) | (go_at_call 41; (with_reducible refine (take_said g l e sDot _ (HP1.out.below hb3).ps).mono ?_); rintro en w4 ⟨he, hk4, hp4⟩; rw [HD.out] at he hp4; rw [if_neg (by decide)] at hp4; subst he) | (go_at_call 41; (with_reducible refine (take_said g l e sLbra _ hp4).mono ?_); rintro en w5 ⟨he, hk5, hp5⟩; rw [HL.out] at he hp5; rw [if_neg (by decide)] at hp5; subst he; have HK5 := (Kept.of_below hb3).then_ (hk4.then_ hk5); have HX5 := Aside0.mk (Kept.has HK5 HX.out (by omega)); have HZ5 := Aside0.mk (Kept.has HK5 HZ.out (by omega))) | ((with_reducible refine gate_dst (N := 11) rfl ?_); go_must (refine Kd.event_run rfl (load27 w5 w.heap.size #[.int .i64 x.f0, .int .i64 x.f1, .int .i64 x.f2, .string x.f3, .slice a4 x.f4.length ac4, .slice a5 x.f5.length ac5, .int .i64 x.f6.f0, .string x.f6.f1, .int .i64 x.f6.f2, .slice a9 x.f6.f3.length ac9] HX5.out rfl _ _ _ rfl rfl) ?_)) | ((with_reducible refine gate_store (t := 27) (p := 6) rfl ?_); go_must (refine store_event (t := 27) (p := 6) (v := .tmp 11) (w1 := w5.setRow (w.heap.size + 1) #[.int .i64 x.f0, .int .i64 x.f1, .int .i64 x.f2, .string x.f3, .slice a4 x.f4.length ac4, .slice a5 x.f5.length ac5, .int .i64 x.f6.f0, .string x.f6.f1, .int .i64 x.f6.f2, .slice a9 x.f6.f3.length ac9]) ?hg ?ho ?hn ?hr ?_; (case ho => rfl); (case hg => rfl); (case hn => rfl); (case hr => exact store27 w5 _ _ _ HZ5.out rfl rfl (by first | kernel_rfl | (simp [Value.oneCell'])) _ _ _ _ rfl rfl rfl); intro w7 hw7; subst hw7)))
  have HR7 := has_row HZ5.out #[.int .i64 x.f0, .int .i64 x.f1, .int .i64 x.f2, .string x.f3, .slice a4 x.f4.length ac4, .slice a5 x.f5.length ac5, .int .i64 x.f6.f0, .string x.f6.f1, .int .i64 x.f6.f2, .slice a9 x.f6.f3.length ac9]
  have HP2 := HPS.out
  have HV5 := ((HV.out.below BB.out).kept HP1.out.has HK5).rowO (g := w.heap.size + 1) (fun k hk _ => by omega) #[.int .i64 x.f0, .int .i64 x.f1, .int .i64 x.f2, .string x.f3, .slice a4 x.f4.length ac4, .slice a5 x.f5.length ac5, .int .i64 x.f6.f0, .string x.f6.f1, .int .i64 x.f6.f2, .slice a9 x.f6.f3.length ac9]
  refine bodyPost_ret (results_cell_row rfl _ _ (w.heap.size + 1) 27 #[.int .i64 x.f0, .int .i64 x.f1, .int .i64 x.f2, .string x.f3, .slice a4 x.f4.length ac4, .slice a5 x.f5.length ac5, .int .i64 x.f6.f0, .string x.f6.f1, .int .i64 x.f6.f2, .slice a9 x.f6.f3.length ac9] (0, 0) _ rfl HR7 Tryd.underlying27 rfl (by rfl)) rfl ?_
  rw [HE.out]
  exact ⟨kept_row ((Kept.of_below BB.out).then_ HK5) (by omega) _, _, rfl, HV5.mono fun _ _ => trivial, hp5.rowP HZ5.out _⟩
end Go.Proofs.YtngpgdmafmkddaaDoor.Par
end
section
namespace Go.Proofs.YtngpgdmafmkddaaDoor.Par
open Go.RowKit Go.Proofs.YtngpgdmafmkddaaDoorW.PrintWords Go.Proofs.YtngpgdmafmkddaaDoorW.PrintLast Go.Proofs.YtngpgdmafmkddaaDoorW.PrintMore
open Go.Proofs.YtngpgdmafmkddaaDoor.PParseBlanks (S35 S25 S27 k35 k25 k27 rd_T35 rd_T25 rd_T27 at_T35 at_T25 at_T27)
set_option linter.unusedVariables false
set_option linter.unusedSimpArgs false
def BlockOK (n : Nat) : Prop := ∀ (g : Nat) (e d : Int) (l : List S35) (w : World), 0 ≤ d → d ≤ 1000 → PS w g l e → blockP e n d l ≠ .out →
 Calls Tryd.prog 47 #[.pointer (some ⟨g, 0, none⟩), .int .i64 d] w (PPost g e (VE w.heap.size) (blockP e n d l) w)
def ClosedOK (n : Nat) : Prop := ∀ (g : Nat) (e d : Int) (l : List S35) (w : World), 0 ≤ d → d ≤ 1000 → PS w g l e → closedP e n d l ≠ .out →
 Calls Tryd.prog 76 #[.pointer (some ⟨g, 0, none⟩), .int .i64 d] w (PPost g e (VE w.heap.size) (closedP e n d l) w)
set_option maxRecDepth 100000 in
set_option maxHeartbeats 2000000 in
theorem closed_ok {n : Nat} (HB : BlockOK n) : ClosedOK (n + 1) := by
 intro g e d l w h0 h1 HP hne
 unfold BlockOK at HB
 have hu27 := Tryd.underlying27
 cases hi : isP sLbrace l with
 | false => simp only [closedP, hi] at hne; exact absurd rfl hne
 | true =>
 have HEQ : closedP e (n + 1) d l = blockP e n d l := by simp only [closedP, hi]; rfl
 rw [HEQ] at hne ⊢
 have HI := Aside0.mk hi
 have HBB := Aside0.mk HB
 have HNE := Aside0.mk hne
 have hs1 : (w.alloc (Obj.cells #[.pointer (some ⟨g, 0, none⟩)] 52)).heap.size = w.heap.size + 1 := by simp
 have hs2 : ((w.alloc (Obj.cells #[.pointer (some ⟨g, 0, none⟩)] 52)).alloc (Obj.cells #[.int .i64 d] 3)).heap.size = w.heap.size + 2 := by simp
 have BB := below_alloc (below_alloc (below_alloc (Below.refl w.heap.size w) (Obj.cells #[.pointer (some ⟨g, 0, none⟩)] 52)) (Obj.cells #[.int .i64 d] 3)) (Obj.cells #[.int .i64 0, .int .i64 0, .int .i64 0, .string ⟨#[]⟩, .slice none 0 0, .slice none 0 0, .int .i64 0, .string ⟨#[]⟩, .int .i64 0, .slice none 0 0] 27)
 have H2 := Aside0.mk (((Has.new w #[.pointer (some ⟨g, 0, none⟩)] 52).alloc (Obj.cells #[.int .i64 d] 3)).alloc (Obj.cells #[.int .i64 0, .int .i64 0, .int .i64 0, .string ⟨#[]⟩, .slice none 0 0, .slice none 0 0, .int .i64 0, .string ⟨#[]⟩, .int .i64 0, .slice none 0 0] 27))
 have H3 : Aside0 (Has (((w.alloc (Obj.cells #[.pointer (some ⟨g, 0, none⟩)] 52)).alloc (Obj.cells #[.int .i64 d] 3)).alloc (Obj.cells #[.int .i64 0, .int .i64 0, .int .i64 0, .string ⟨#[]⟩, .slice none 0 0, .slice none 0 0, .int .i64 0, .string ⟨#[]⟩, .int .i64 0, .slice none 0 0] 27)) (w.heap.size + 1) #[.int .i64 d] 3) := ⟨by
  have h := Has.new (w.alloc (Obj.cells #[.pointer (some ⟨g, 0, none⟩)] 52)) #[.int .i64 d] 3
  rw [hs1] at h
  exact h.alloc _⟩
 have H4 : Aside0 (Has (((w.alloc (Obj.cells #[.pointer (some ⟨g, 0, none⟩)] 52)).alloc (Obj.cells #[.int .i64 d] 3)).alloc (Obj.cells #[.int .i64 0, .int .i64 0, .int .i64 0, .string ⟨#[]⟩, .slice none 0 0, .slice none 0 0, .int .i64 0, .string ⟨#[]⟩, .int .i64 0, .slice none 0 0] 27)) (w.heap.size + 2) #[.int .i64 0, .int .i64 0, .int .i64 0, .string ⟨#[]⟩, .slice none 0 0, .slice none 0 0, .int .i64 0, .string ⟨#[]⟩, .int .i64 0, .slice none 0 0] 27) := ⟨by
  have h := Has.new ((w.alloc (Obj.cells #[.pointer (some ⟨g, 0, none⟩)] 52)).alloc (Obj.cells #[.int .i64 d] 3)) #[.int .i64 0, .int .i64 0, .int .i64 0, .string ⟨#[]⟩, .slice none 0 0, .slice none 0 0, .int .i64 0, .string ⟨#[]⟩, .int .i64 0, .slice none 0 0] 27
  rwa [hs2] at h⟩
 have HP3 := HP.below BB
 obtain ⟨A0, c0, HP0⟩ := HP
 have hgw : g < w.heap.size := HP0.has.lt
 obtain ⟨A1, c1, HP1⟩ := HP3
 have HP1 := Aside0.mk HP1
 have BB := Aside0.mk BB
 have p2 := H2.out.cell 0
 simp only [List.getElem?_toArray, List.getElem?_cons_zero] at p2
 clear HP0 HB hi hne HEQ hs1 hs2
 cases hr : blockP e n d l with
 | out => exact absurd hr HNE.out
 | bad a er =>
  have HR := Aside0.mk hr
  clear hr
  go_enter Tryd.func76, Tryd.ntmps76
  go_wp2_with (first | (go_at_call 60; (with_reducible refine (is_said g l e A1 c1 sLbrace _ HP1.out).mono ?_); rintro en w1 ⟨he, hb⟩; rw [HI.out] at he; subst he; have q2 := (H2.out.belowS hb).cell 0; have q3 := (H3.out.belowS hb).cell 0; simp only [List.getElem?_toArray, List.getElem?_cons_zero] at q2 q3) | (go_at_call 47; (with_reducible refine (HBB.out g e d l _ h0 h1 (HP1.out.below hb).ps HNE.out).mono ?_); rintro en w2 ⟨hk, hq⟩; rw [HR.out] at hq; subst hq))
  exact ⟨rfl, ((Kept.of_below BB.out).below hb).then_ hk, rfl⟩
 | ok x l2 =>
  have HR := Aside0.mk hr
  clear hr
  go_enter Tryd.func76, Tryd.ntmps76
  go_wp2_with (first | (go_at_call 60; (with_reducible refine (is_said g l e A1 c1 sLbrace _ HP1.out).mono ?_); rintro en w1 ⟨he, hb⟩; rw [HI.out] at he; subst he; have q2 := (H2.out.belowS hb).cell 0; have q3 := (H3.out.belowS hb).cell 0; simp only [List.getElem?_toArray, List.getElem?_cons_zero] at q2 q3) | (go_at_call 47; (with_reducible refine (HBB.out g e d l _ h0 h1 (HP1.out.below hb).ps HNE.out).mono ?_); rintro en w2 ⟨hk, hq⟩; rw [HR.out] at hq; obtain ⟨v, rfl, hv, hp⟩ := hq; obtain ⟨a4, ac4, a5, ac5, a9, ac9, rfl⟩ := hv.form; have HZ2 := Aside0.mk (Kept.has hk (H4.out.belowS hb) (by omega))) | ((with_reducible refine gate_store (t := 27) (p := 4) rfl ?_); go_must (refine store_event (t := 27) (p := 4) (v := .tmp 11) (w1 := w2.setRow (w.heap.size + 2) #[.int .i64 x.f0, .int .i64 x.f1, .int .i64 x.f2, .string x.f3, .slice a4 x.f4.length ac4, .slice a5 x.f5.length ac5, .int .i64 x.f6.f0, .string x.f6.f1, .int .i64 x.f6.f2, .slice a9 x.f6.f3.length ac9]) ?hg ?ho ?hn ?hr ?_; (case ho => rfl); (case hg => rfl); (case hn => rfl); (case hr => exact store27 w2 _ _ _ HZ2.out rfl rfl (by first | kernel_rfl | (simp [Value.oneCell'])) _ _ _ _ rfl rfl rfl); intro w7 hw7; subst hw7)))
  have HR7 := has_row HZ2.out #[.int .i64 x.f0, .int .i64 x.f1, .int .i64 x.f2, .string x.f3, .slice a4 x.f4.length ac4, .slice a5 x.f5.length ac5, .int .i64 x.f6.f0, .string x.f6.f1, .int .i64 x.f6.f2, .slice a9 x.f6.f3.length ac9]
  have hsz : w.heap.size + 2 < w1.heap.size := (H4.out.belowS hb).lt
  have HV7 : VE w.heap.size (w2.setRow (w.heap.size + 2) #[.int .i64 x.f0, .int .i64 x.f1, .int .i64 x.f2, .string x.f3, .slice a4 x.f4.length ac4, .slice a5 x.f5.length ac5, .int .i64 x.f6.f0, .string x.f6.f1, .int .i64 x.f6.f2, .slice a9 x.f6.f3.length ac9]) (.agg #[.int .i64 x.f0, .int .i64 x.f1, .int .i64 x.f2, .string x.f3, .slice a4 x.f4.length ac4, .slice a5 x.f5.length ac5, .int .i64 x.f6.f0, .string x.f6.f1, .int .i64 x.f6.f2, .slice a9 x.f6.f3.length ac9]) x := (VO.row (hv.lower (show w.heap.size + 3 ≤ _ from by omega)) (by omega) _).lower (by omega)
  refine bodyPost_ret (results_cell_row rfl _ _ (w.heap.size + 2) 27 #[.int .i64 x.f0, .int .i64 x.f1, .int .i64 x.f2, .string x.f3, .slice a4 x.f4.length ac4, .slice a5 x.f5.length ac5, .int .i64 x.f6.f0, .string x.f6.f1, .int .i64 x.f6.f2, .slice a9 x.f6.f3.length ac9] (0, 0) _ rfl HR7 Tryd.underlying27 rfl (by rfl)) rfl ?_
  exact ⟨kept_row (((Kept.of_below BB.out).below hb).then_ hk) (by omega) _, _, rfl, HV7, hp.rowP HZ2.out _⟩
end Go.Proofs.YtngpgdmafmkddaaDoor.Par
end
section
namespace Go.Proofs.YtngpgdmafmkddaaDoor.Par
open Go.RowKit Go.Proofs.YtngpgdmafmkddaaDoorW.PrintWords Go.Proofs.YtngpgdmafmkddaaDoorW.PrintLast Go.Proofs.YtngpgdmafmkddaaDoorW.PrintMore
open Go.Proofs.YtngpgdmafmkddaaDoor.PParseBlanks (S35 S25 S27 k35 k25 k27 rd_T35 rd_T25 rd_T27 at_T35 at_T25 at_T27)
set_option linter.unusedVariables false
set_option linter.unusedSimpArgs false
def StmtOK (n : Nat) : Prop := ∀ (g : Nat) (e d : Int) (l : List S35) (w : World), 0 ≤ d → d < 60 → PS w g l e → stmtP e n d l ≠ .out →
 Calls Tryd.prog 67 #[.pointer (some ⟨g, 0, none⟩), .int .i64 d] w (PPost g e (fun w' v (x : S27 × Bool) => ∃ u, v = .tuple #[u, .bool x.2] ∧ VE w.heap.size w' u x.1) (stmtP e n d l) w)
theorem PS.setC {w : World} {g b : Nat} {l : List S35} {e : Int} {old : Array Value} (h : PS w g l e) (hr : Has w b old 27) (i : Nat) (u : Value) : PS (w.setCell ⟨b, i, none⟩ u) g l e := by
 obtain ⟨A, c, HP⟩ := h
 exact ⟨A, c, HP.has.other (HP.has.ne hr (by decide)) u, HP.le, C_far HP.toks (HP.row.ne hr (by decide)) u, HP.row.set (HP.row.ne hr (by decide)) u⟩
theorem info27 : (Tryd.prog.info? 27).map (fun i => (i.zero, i.size, i.bytes)) = some (some (.agg #[.int .i64 0, .int .i64 0, .int .i64 0, .string ⟨#[]⟩, .slice none 0 0, .slice none 0 0, .int .i64 0, .string ⟨#[]⟩, .int .i64 0, .slice none 0 0]), 10, 144) := by kernel_rfl
set_option maxRecDepth 100000 in
set_option maxHeartbeats 4000000 in
theorem block_ok {n : Nat} (HS : StmtOK n) : BlockOK (n + 1) := by
 intro g e d l w h0 h1 HP hne
 unfold StmtOK at HS
 have hu27 := Tryd.underlying27
 cases hi : isP sLbrace l with
 | false => simp only [blockP, hi] at hne; exact absurd rfl hne
 | true =>
 have HI := Aside0.mk hi
 have hs1 : (w.alloc (Obj.cells #[.int .i64 0, .int .i64 0, .int .i64 0, .string ⟨#[]⟩, .slice none 0 0, .slice none 0 0, .int .i64 0, .string ⟨#[]⟩, .int .i64 0, .slice none 0 0] 27)).heap.size = w.heap.size + 1 := by simp
 have B0 := below_alloc (Below.refl w.heap.size w) (Obj.cells #[.int .i64 0, .int .i64 0, .int .i64 0, .string ⟨#[]⟩, .slice none 0 0, .slice none 0 0, .int .i64 0, .string ⟨#[]⟩, .int .i64 0, .slice none 0 0] 27)
 have HPS := HP.below B0
 obtain ⟨A0, c0, HP0⟩ := HP
 have hgw : g < w.heap.size := HP0.has.lt
 obtain ⟨A1, c1, HP1⟩ := HPS
 have HP1 := Aside0.mk HP1
 have HSS := Aside0.mk HS
 have B0 := Aside0.mk B0
 have HR0 := Aside0.mk (Has.new w #[.int .i64 0, .int .i64 0, .int .i64 0, .string ⟨#[]⟩, .slice none 0 0, .slice none 0 0, .int .i64 0, .string ⟨#[]⟩, .int .i64 0, .slice none 0 0] 27)
 clear HP0 HS
 have A29 : True := trivial
 by_cases hd : d ≥ 60
 ·have HE : Aside0 (blockP e (n + 1) d l = .bad (atP e l) 31) := ⟨by simp only [blockP, hi]; rw [if_neg (by decide), if_pos hd]⟩
  clear hi hne
  go_enter Tryd.func47, Tryd.ntmps47
  go_wp2_with (first | (go_at_call 29; (with_reducible refine (at_said g l e A1 c1 _ HP1.out).mono ?_); rintro en w1 ⟨rfl, hb1⟩; have b1a := below_then hb1 hb1.size (below_alloc (Below.refl w1.heap.size w1) (Obj.cells #[.int .i64 19, .int .i64 (atP e l), .int .i64 0, .string ⟨#[]⟩, .slice none 0 0, .slice none 0 0, .int .i64 0, .string ⟨#[]⟩, .int .i64 0, .slice none 0 0] 27))) | (go_at_call 60; (with_reducible refine (is_said g l e A1 c1 sLbrace _ (HP1.out.below b1a)).mono ?_); rintro en w2 ⟨he, hb2⟩; rw [HI.out] at he; subst he; have b2a := below_then b1a b1a.size hb2) | (go_at_call 62; (with_reducible refine (deep_said g l e d _ (HP1.out.below b2a).ps).mono ?_); rintro en w3 ⟨hk3, hq3⟩; rw [if_pos hd] at hq3; subst hq3))
  rw [HE.out]
  exact ⟨rfl, ((Kept.of_below B0.out).below b2a).then_ hk3, rfl⟩
 cases l with
 | nil => exact Bool.noConfusion hi
 | cons t r =>
 cases hz : isP sRbrace r with
 | true => simp only [blockP, hi, List.tail_cons, hz] at hne; rw [if_neg (by decide), if_neg hd, if_pos trivial] at hne; exact absurd rfl hne
 | false =>
 have HEQ : blockP e (n + 1) d (t :: r) = (stmtP e n d r).andThen (fun x l1 => if x.2 = true then (if isP sRbrace l1 = true then .ok (mkE 19 (atP e (t :: r)) 1 ⟨#[]⟩ [x.1] []) l1.tail else .bad (atP e l1) 30) else .out) := by
  simp only [blockP, hi, List.tail_cons, hz]; rw [if_neg (by decide), if_neg hd, if_neg (by decide)]
 rw [HEQ] at hne ⊢
 have HZ := Aside0.mk hz
 have hd1 : d < 60 := by omega
 clear hz hi HEQ hd
 have HNE := Aside0.mk hne
 clear hne
 obtain ⟨a0, ha0⟩ : ∃ a0, atP e (t :: r) = a0 := ⟨_, rfl⟩
 have HA0 := Aside0.mk ha0
 rw [ha0] at HNE
 rw [ha0]
 clear ha0
 cases hr : stmtP e n d r with
 | out => simp only [hr, PR.andThen] at HNE; exact absurd rfl HNE.out
 | bad a er =>
  have HR := Aside0.mk hr
  clear hr
  go_enter Tryd.func47, Tryd.ntmps47
  go_wp2_with (first | (go_at_call 29; (with_reducible refine (at_said g (t :: r) e A1 c1 _ HP1.out).mono ?_); rintro en w1 ⟨he, hb1⟩; rw [HA0.out] at he; subst he; have b1a := below_then hb1 hb1.size (below_alloc (Below.refl w1.heap.size w1) (Obj.cells #[.int .i64 19, .int .i64 a0, .int .i64 0, .string ⟨#[]⟩, .slice none 0 0, .slice none 0 0, .int .i64 0, .string ⟨#[]⟩, .int .i64 0, .slice none 0 0] 27)); have HX1 := Has.new w1 #[.int .i64 19, .int .i64 a0, .int .i64 0, .string ⟨#[]⟩, .slice none 0 0, .slice none 0 0, .int .i64 0, .string ⟨#[]⟩, .int .i64 0, .slice none 0 0] 27) | (go_at_call 60; (with_reducible refine (is_said g (t :: r) e A1 c1 sLbrace _ (HP1.out.below b1a)).mono ?_); rintro en w2 ⟨he, hb2⟩; rw [HI.out] at he; subst he; have b2a := below_then b1a b1a.size hb2; have HX2 := HX1.belowS hb2) | (go_at_call 62; (with_reducible refine (deep_said g (t :: r) e d _ (HP1.out.below b2a).ps).mono ?_); rintro en w3 ⟨hk3, hq3⟩; rw [if_neg (by omega)] at hq3; obtain ⟨v3, rfl, rfl, hp3⟩ := hq3; obtain ⟨A3, c3, HP3⟩ := hp3) | (go_at_call 54; (with_reducible refine (next_said g t r e A3 c3 _ HP3).mono ?_); rintro en w4 ⟨rfl, hk4, hp4⟩))
  have hgx : w1.heap.size ≠ g := by have := hb1.size; simp at this; omega
  have HX4 := Aside0.mk (Kept.has hk4 (Kept.has hk3 HX2 hgx) hgx)
  have HR4 := Aside0.mk (Kept.has hk4 (Kept.has hk3 (HR0.out.belowS b2a) (by omega)) (by omega))
  have HK4 := Aside0.mk ((((Kept.of_below B0.out).below b2a).then_ hk3).then_ hk4)
  obtain ⟨A4, c4, HP4⟩ := hp4
  have HP4 := Aside0.mk HP4
  have hxr : w.heap.size < w1.heap.size := by have := hb1.size; simp at this; omega
  clear hk3 hk4 HP3 HX1 HX2 b1a b2a hb1 hb2
  generalize w1.heap.size = b5 at *
  go_loopw [7] (fun _ wr => wr = w4) (fun _ _ => 0)
  case atStart => rfl
  case round =>
   subst hrel
   go_wp2_with (first | (go_at_call 60; (with_reducible refine (is_said g r e A4 c4 sRbrace _ HP4.out).mono ?_); rintro en w5 ⟨he, hb5⟩; rw [HZ.out] at he; subst he) | (go_at_call 67; (with_reducible refine (HSS.out g e d r _ h0 hd1 (HP4.out.below hb5).ps (by rw [HR.out]; exact PR.bad_ne _ _)).mono ?_); rintro en w6 ⟨hk6, hq6⟩; rw [HR.out] at hq6; subst hq6))
   simp only [PR.andThen]
   exact ⟨rfl, (HK4.out.below hb5).then_ hk6, rfl⟩
 | ok x l1 =>
  obtain ⟨x, bv⟩ := x
  cases bv with
  | false => simp only [hr, PR.andThen] at HNE; exact absurd (if_neg (by decide)) HNE.out
  | true =>
  have HR := Aside0.mk hr
  clear hr
  go_enter Tryd.func47, Tryd.ntmps47
  go_wp2_with (first | (go_at_call 29; (with_reducible refine (at_said g (t :: r) e A1 c1 _ HP1.out).mono ?_); rintro en w1 ⟨he, hb1⟩; rw [HA0.out] at he; subst he; have b1a := below_then hb1 hb1.size (below_alloc (Below.refl w1.heap.size w1) (Obj.cells #[.int .i64 19, .int .i64 a0, .int .i64 0, .string ⟨#[]⟩, .slice none 0 0, .slice none 0 0, .int .i64 0, .string ⟨#[]⟩, .int .i64 0, .slice none 0 0] 27)); have HX1 := Has.new w1 #[.int .i64 19, .int .i64 a0, .int .i64 0, .string ⟨#[]⟩, .slice none 0 0, .slice none 0 0, .int .i64 0, .string ⟨#[]⟩, .int .i64 0, .slice none 0 0] 27) | (go_at_call 60; (with_reducible refine (is_said g (t :: r) e A1 c1 sLbrace _ (HP1.out.below b1a)).mono ?_); rintro en w2 ⟨he, hb2⟩; rw [HI.out] at he; subst he; have b2a := below_then b1a b1a.size hb2; have HX2 := HX1.belowS hb2) | (go_at_call 62; (with_reducible refine (deep_said g (t :: r) e d _ (HP1.out.below b2a).ps).mono ?_); rintro en w3 ⟨hk3, hq3⟩; rw [if_neg (by omega)] at hq3; obtain ⟨v3, rfl, rfl, hp3⟩ := hq3; obtain ⟨A3, c3, HP3⟩ := hp3) | (go_at_call 54; (with_reducible refine (next_said g t r e A3 c3 _ HP3).mono ?_); rintro en w4 ⟨rfl, hk4, hp4⟩))
  have hgx : w1.heap.size ≠ g := by have := hb1.size; simp at this; omega
  have HX4 := Aside0.mk (Kept.has hk4 (Kept.has hk3 HX2 hgx) hgx)
  have HR4 := Aside0.mk (Kept.has hk4 (Kept.has hk3 (HR0.out.belowS b2a) (by omega)) (by omega))
  have HK4 := Aside0.mk ((((Kept.of_below B0.out).below b2a).then_ hk3).then_ hk4)
  obtain ⟨A4, c4, HP4⟩ := hp4
  have HP4 := Aside0.mk HP4
  have hxr : w.heap.size < w1.heap.size := by have := hb1.size; simp at this; omega
  clear hk3 hk4 HP3 HX1 HX2 b1a b2a hb1 hb2
  generalize w1.heap.size = b5 at *
  go_loopw [7] (fun _ wr => wr = w4) (fun _ _ => 0)
  case atStart => rfl
  case round =>
   subst hrel
   go_wp2_with (first | (go_at_call 60; (with_reducible refine (is_said g r e A4 c4 sRbrace _ HP4.out).mono ?_); rintro en w5 ⟨he, hb5⟩; rw [HZ.out] at he; subst he) | (go_at_call 67; (with_reducible refine (HSS.out g e d r _ h0 hd1 (HP4.out.below hb5).ps (by rw [HR.out]; exact PR.ok_ne _ _)).mono ?_); rintro en w6 ⟨hk6, hq6⟩; rw [HR.out] at hq6; obtain ⟨v6, rfl, ⟨u6, rfl, hv6⟩, hp6⟩ := hq6; obtain ⟨a4, ac4, a5, ac5, a9, ac9, rfl⟩ := hv6.form; have HX6 := Aside0.mk ((Kept.has hk6 (HX4.out.belowS hb5) hgx).alloc (Obj.cells #[.int .i64 x.f0, .int .i64 x.f1, .int .i64 x.f2, .string x.f3, .slice a4 x.f4.length ac4, .slice a5 x.f5.length ac5, .int .i64 x.f6.f0, .string x.f6.f1, .int .i64 x.f6.f2, .slice a9 x.f6.f3.length ac9] 27)); have q4 := HX6.out.cell 4; simp only [List.getElem?_toArray, List.getElem?_cons_zero, List.getElem?_cons_succ] at q4; have hlt5 : b5 + 1 ≤ w6.heap.size := (by have q1 := HX4.out.lt; have q2 := hb5.size; have q3 := hk6.size; omega); have V6 := Aside0.mk ((hv6.below (below_alloc (Below.refl w6.heap.size w6) (Obj.cells #[.int .i64 x.f0, .int .i64 x.f1, .int .i64 x.f2, .string x.f3, .slice a4 x.f4.length ac4, .slice a5 x.f5.length ac5, .int .i64 x.f6.f0, .string x.f6.f1, .int .i64 x.f6.f2, .slice a9 x.f6.f3.length ac9] 27))).lower (show b5 + 1 ≤ w5.heap.size from (by have q1 := HX4.out.lt; have q2 := hb5.size; omega)))) | (at_builtin; refine Kd.R_append k27 (w0 := w6.alloc (Obj.cells #[.int .i64 x.f0, .int .i64 x.f1, .int .i64 x.f2, .string x.f3, .slice a4 x.f4.length ac4, .slice a5 x.f5.length ac5, .int .i64 x.f6.f0, .string x.f6.f1, .int .i64 x.f6.f2, .slice a9 x.f6.f3.length ac9] 27)) (W := w6.alloc (Obj.cells #[.int .i64 x.f0, .int .i64 x.f1, .int .i64 x.f2, .string x.f3, .slice a4 x.f4.length ac4, .slice a5 x.f5.length ac5, .int .i64 x.f6.f0, .string x.f6.f1, .int .i64 x.f6.f2, .slice a9 x.f6.f3.length ac9] 27)) (b5 + 1) rfl _ _ 22 27 (.agg #[.int .i64 0, .int .i64 0, .int .i64 0, .string ⟨#[]⟩, .slice none 0 0, .slice none 0 0, .int .i64 0, .string ⟨#[]⟩, .int .i64 0, .slice none 0 0]) 144 rfl Tryd.underlying22 info27 rfl (by decide) (by decide) (.slice none 0 0) [] x [.int .i64 x.f0, .int .i64 x.f1, .int .i64 x.f2, .string x.f3, .slice a4 x.f4.length ac4, .slice a5 x.f5.length ac5, .int .i64 x.f6.f0, .string x.f6.f1, .int .i64 x.f6.f2, .slice a9 x.f6.f3.length ac9] Any Any rfl (by rw [show (w6.alloc (Obj.cells #[.int .i64 x.f0, .int .i64 x.f1, .int .i64 x.f2, .string x.f3, .slice a4 x.f4.length ac4, .slice a5 x.f5.length ac5, .int .i64 x.f6.f0, .string x.f6.f1, .int .i64 x.f6.f2, .slice a9 x.f6.f3.length ac9] 27)).heap.size = w6.heap.size + 1 by simp]; rfl) (VO.lit V6.out).1 (fun k _ => ⟨trivial, by simp [Value.ownBlock]⟩) (fun _ _ => trivial) (Kd.R_nil _ _ _ _ _) (Below.refl _ _) (by simp; omega) (by simp) ?_; intro v1 w7 hR1 hB1 hG1 hat1; obtain ⟨A7, c7, e7⟩ := Kd.R_slice hR1; have e7 : v1 = .slice A7 1 c7 := e7; subst e7; have b67 : Below (w6.alloc (Obj.cells #[.int .i64 x.f0, .int .i64 x.f1, .int .i64 x.f2, .string x.f3, .slice a4 x.f4.length ac4, .slice a5 x.f5.length ac5, .int .i64 x.f6.f0, .string x.f6.f1, .int .i64 x.f6.f2, .slice a9 x.f6.f3.length ac9] 27)).heap.size (w6.alloc (Obj.cells #[.int .i64 x.f0, .int .i64 x.f1, .int .i64 x.f2, .string x.f3, .slice a4 x.f4.length ac4, .slice a5 x.f5.length ac5, .int .i64 x.f6.f0, .string x.f6.f1, .int .i64 x.f6.f2, .slice a9 x.f6.f3.length ac9] 27)) w7 := ⟨hG1.os, hG1.tape, hG1.output, hG1.size, fun k hk => hG1.block k hk (by simp [Value.ownBlock])⟩; have HX7 := Aside0.mk (HX6.out.belowS b67); have f4 := HX7.out.frozen 4; have f2 := HX7.out.frozen 2; have p4 := HX7.out.cell 4; have p2 := HX7.out.cell 2; simp only [List.getElem?_toArray, List.getElem?_cons_zero, List.getElem?_cons_succ] at p4 p2))
   have HX8a := (HX7.out.set_ 4 (.slice A7 1 c7)).set_ 2 (.int .i64 1)
   have HX8 : Has ((w7.setCell ⟨b5, 4, none⟩ (.slice A7 1 c7)).setCell ⟨b5, 2, none⟩ (.int .i64 1)) b5 #[.int .i64 19, .int .i64 a0, .int .i64 1, .string ⟨#[]⟩, .slice A7 1 c7, .slice none 0 0, .int .i64 0, .string ⟨#[]⟩, .int .i64 0, .slice none 0 0] 27 := HX8a
   have HP8 := Aside0.mk ((((hp6.below (below_alloc (Below.refl w6.heap.size w6) (Obj.cells #[.int .i64 x.f0, .int .i64 x.f1, .int .i64 x.f2, .string x.f3, .slice a4 x.f4.length ac4, .slice a5 x.f5.length ac5, .int .i64 x.f6.f0, .string x.f6.f1, .int .i64 x.f6.f2, .slice a9 x.f6.f3.length ac9] 27))).below b67).setC HX7.out 4 (.slice A7 1 c7)).setC (HX7.out.set_ 4 _) 2 (.int .i64 1))
   have HK8 := Aside0.mk ((((((HK4.out.below hb5).then_ hk6).alloc (Obj.cells #[.int .i64 x.f0, .int .i64 x.f1, .int .i64 x.f2, .string x.f3, .slice a4 x.f4.length ac4, .slice a5 x.f5.length ac5, .int .i64 x.f6.f0, .string x.f6.f1, .int .i64 x.f6.f2, .slice a9 x.f6.f3.length ac9] 27)).below b67).setCellG (a := ⟨b5, 4, none⟩) (by show w.heap.size ≤ b5; omega) (.slice A7 1 c7)).setCellG (a := ⟨b5, 2, none⟩) (by show w.heap.size ≤ b5; omega) (.int .i64 1))
   have V8 := Aside0.mk (((VO.node 19 a0 1 ⟨#[]⟩ hR1).setO (a := ⟨b5, 4, none⟩) (fun k _ h => by show k ≠ b5; omega) (.slice A7 1 c7)).setO (a := ⟨b5, 2, none⟩) (fun k _ h => by show k ≠ b5; omega) (.int .i64 1))
   have HX8 := Aside0.mk HX8
   have HR8 := Aside0.mk ((((Kept.has hk6 (HR4.out.belowS hb5) (by omega)).alloc (Obj.cells #[.int .i64 x.f0, .int .i64 x.f1, .int .i64 x.f2, .string x.f3, .slice a4 x.f4.length ac4, .slice a5 x.f5.length ac5, .int .i64 x.f6.f0, .string x.f6.f1, .int .i64 x.f6.f2, .slice a9 x.f6.f3.length ac9] 27)).belowS b67).other (a := ⟨b5, 4, none⟩) (by show w.heap.size ≠ b5; omega) (.slice A7 1 c7) |>.other (a := ⟨b5, 2, none⟩) (by show w.heap.size ≠ b5; omega) (.int .i64 1))
   clear HX8a hR1 hp6 hk6 hv6 b67 hB1 hG1 hat1 p4 p2 f4 f2
   generalize (w7.setCell ⟨b5, 4, none⟩ (.slice A7 1 c7)).setCell ⟨b5, 2, none⟩ (.int .i64 1) = w8 at *
   cases hz2 : isP sRbrace l1 with
   | false =>
    have HZ2 := Aside0.mk hz2
    clear hz2
    go_wp2_with (go_at_call 42; (with_reducible refine (need_said g l1 e sRbrace _ HP8.out).mono ?_); rintro en w9 ⟨hk9, hq9⟩; rw [HZ2.out, if_neg (by decide)] at hq9; subst hq9)
    simp only [PR.andThen, HZ2.out]
    exact ⟨rfl, HK8.out.then_ hk9, rfl⟩
   | true =>
    have HZ2 := Aside0.mk hz2
    clear hz2
    go_wp2_with (first | (go_at_call 42; (with_reducible refine (need_said g l1 e sRbrace _ HP8.out).mono ?_); rintro en w9 ⟨hk9, hq9⟩; rw [HZ2.out, if_pos rfl] at hq9; obtain ⟨v9, rfl, rfl, hp9⟩ := hq9; have HX9 := Aside0.mk (Kept.has hk9 HX8.out hgx); have HR9 := Aside0.mk (Kept.has hk9 HR8.out (by omega))) | ((with_reducible refine gate_dst (N := 40) rfl ?_); go_must (refine Kd.event_run rfl (load27 w9 b5 #[.int .i64 19, .int .i64 a0, .int .i64 1, .string ⟨#[]⟩, .slice A7 1 c7, .slice none 0 0, .int .i64 0, .string ⟨#[]⟩, .int .i64 0, .slice none 0 0] HX9.out rfl _ _ _ rfl rfl) ?_)) | ((with_reducible refine gate_store (t := 27) (p := 4) rfl ?_); go_must (refine store_event (t := 27) (p := 4) (v := .tmp 40) (w1 := w9.setRow w.heap.size #[.int .i64 19, .int .i64 a0, .int .i64 1, .string ⟨#[]⟩, .slice A7 1 c7, .slice none 0 0, .int .i64 0, .string ⟨#[]⟩, .int .i64 0, .slice none 0 0]) ?hg ?ho ?hn ?hr ?_; (case ho => rfl); (case hg => rfl); (case hn => rfl); (case hr => exact store27 w9 _ _ _ HR9.out rfl rfl (by first | kernel_rfl | (simp [Value.oneCell'])) _ _ _ _ rfl rfl rfl); intro w7 hw7; subst hw7)))
    have HRA := has_row HR9.out #[.int .i64 19, .int .i64 a0, .int .i64 1, .string ⟨#[]⟩, .slice A7 1 c7, .slice none 0 0, .int .i64 0, .string ⟨#[]⟩, .int .i64 0, .slice none 0 0]
    obtain ⟨A8, c8, HPA⟩ := HP8.out
    have HV := (((V8.out.kept HPA.has hk9).rowO (g := w.heap.size) (fun k _ h => by omega) #[.int .i64 19, .int .i64 a0, .int .i64 1, .string ⟨#[]⟩, .slice A7 1 c7, .slice none 0 0, .int .i64 0, .string ⟨#[]⟩, .int .i64 0, .slice none 0 0]).lower (show w.heap.size ≤ b5 + 1 by omega))
    refine bodyPost_ret (results_cell_row rfl _ _ w.heap.size 27 #[.int .i64 19, .int .i64 a0, .int .i64 1, .string ⟨#[]⟩, .slice A7 1 c7, .slice none 0 0, .int .i64 0, .string ⟨#[]⟩, .int .i64 0, .slice none 0 0] (0, 0) _ rfl HRA Tryd.underlying27 rfl (by rfl)) rfl ?_
    simp only [PR.andThen, HZ2.out]
    exact ⟨kept_row (HK8.out.then_ hk9) (Nat.le_refl _) _, _, rfl, HV, hp9.rowP HR9.out _⟩
end Go.Proofs.YtngpgdmafmkddaaDoor.Par
end
