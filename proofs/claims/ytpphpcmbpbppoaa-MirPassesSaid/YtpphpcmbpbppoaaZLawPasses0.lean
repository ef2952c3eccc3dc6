/- Steps toward laws of the middle form (LawPasses), merged from several texts (some of them began as the kit's print). No condition. -/
import Derived.Test.YtpphpcmbpbppoaaZM13
section
namespace Go.Proofs.Ytpphpcmbpbppoaa.Mach
open Go.RowKit Go.Proofs.YtpphpcmbpbppoaaW.PrintWords Go.Proofs.YtpphpcmbpbppoaaW.PrintLast Go.Proofs.YtpphpcmbpbppoaaW.PrintMore
open Go.Proofs.Ytpphpcmbpbppoaa.Calm
open Go.Proofs.Ytpphpcmbpbppoaa.PMirFuel (S30 S57 S34 S37 S40 S43 S45 S48 k30 k57 k34 k37 k40 k43 k45 k48 rd_T30 rd_T57 rd_T34 rd_T37 rd_T40 rd_T43 rd_T45 rd_T48 at_T30 at_T57 at_T34 at_T40 at_T45 at_T48)
set_option linter.unusedVariables false
set_option linter.unusedSimpArgs false
structure RowD where
  v : Value
  e : TypeId
  n : Nat
  size : Nat
  cs : List Value
def RowD.ok (b : Nat) (w : World) (r : RowD) : Prop := w.ownsRow b r.e r.size r.v r.n r.cs
structure BoxD where
  at_ : Nat
  cs : Array Value
  t : TypeId
structure Bun (b : Nat) (w0 w : World) (R : List RowD) (B : List BoxD) : Prop where
  hb : Below b w0 w
  hs : b ≤ w.heap.size
  own : ∀ r, r ∈ R → r.ok b w
  ne : R.Pairwise fun r s => NeRow r.v s.v
  box : ∀ x, x ∈ B → Has w x.at_ x.cs x.t
  apart : B.Pairwise fun x y => x.at_ ≠ y.at_
  lo : ∀ x, x ∈ B → b ≤ x.at_
  ap : ∀ x, x ∈ B → ∀ r, r ∈ R → r.v.ownBlock ≠ some x.at_
namespace Bun
variable {b : Nat} {w0 w w1 : World} {R : List RowD} {B : List BoxD}
theorem below (H : Bun b w0 w R B) (h : Below w.heap.size w w1) : Bun b w0 w1 R B :=
  ⟨below_then H.hb H.hs h, Nat.le_trans H.hs h.size, fun r hr => pw_own_below (H.own r hr) h, H.ne, fun x hx => (H.box x hx).belowS h, H.apart, H.lo, H.ap⟩
theorem junk (H : Bun b w0 w R B) (o : Obj) : Bun b w0 (w.alloc o) R B := H.below (below_alloc (Below.refl _ _) o)
theorem start (w : World) : Bun w.heap.size w w [] [] :=
  ⟨Below.refl _ _, Nat.le_refl _, (fun _ h => nomatch h), List.Pairwise.nil, (fun _ h => nomatch h), List.Pairwise.nil, (fun _ h => nomatch h), (fun _ h => nomatch h)⟩
theorem none_ (H : Bun b w0 w R B) (e : TypeId) (size : Nat) : Bun b w0 w (⟨.slice none 0 0, e, 0, size, []⟩ :: R) B := by
  refine ⟨H.hb, H.hs, ?_, .cons (fun r _ => ne_nil _) H.ne, H.box, H.apart, H.lo, ?_⟩
  · intro r hr
    rcases List.mem_cons.1 hr with rfl | hr
    · exact own_nil _ _ _ _
    · exact H.own r hr
  · intro x hx r hr
    rcases List.mem_cons.1 hr with rfl | hr
    · exact fun e => nomatch e
    · exact H.ap x hx r hr
theorem row (H : Bun b w0 w R B) (ys : List Value) (e : TypeId) (n size : Nat) (hy : ys.length = n * size) (hn : n ≤ 9223372036854775807) :
    Bun b w0 (w.alloc (.cells ys.toArray e)) (⟨.slice (some ⟨w.heap.size, 0, none⟩) n n, e, n, size, ys⟩ :: R) B := by
  have H1 := H.junk (.cells ys.toArray e)
  refine ⟨H1.hb, H1.hs, ?_, .cons (fun r hr => ne_made (H.own r hr)) H1.ne, H1.box, H1.apart, H1.lo, ?_⟩
  · intro r hr
    rcases List.mem_cons.1 hr with rfl | hr
    · have h := World.ownsRow_lit (base := b) (e := e) (size := size) w ys.toArray n H.hs (by simpa [maxLen] using hn) (by simpa using hy)
      simpa [RowD.ok] using h
    · exact H1.own r hr
  · intro x hx r hr
    rcases List.mem_cons.1 hr with rfl | hr
    · intro e'
      have h1 := (H.box x hx).lt
      have : w.heap.size = x.at_ := by simpa [Value.ownBlock] using e'
      omega
    · exact H.ap x hx r hr
theorem new (H : Bun b w0 w R B) (cs : Array Value) (t : TypeId) : Bun b w0 (w.alloc (.cells cs t)) R (⟨w.heap.size, cs, t⟩ :: B) := by
  have H1 := H.junk (.cells cs t)
  refine ⟨H1.hb, H1.hs, H1.own, H1.ne, ?_, .cons (fun x hx e => Nat.lt_irrefl _ (e ▸ (H.box x hx).lt)) H1.apart, ?_, ?_⟩
  · intro x hx
    rcases List.mem_cons.1 hx with rfl | hx
    · exact Has.new w cs t
    · exact H1.box x hx
  · intro x hx
    rcases List.mem_cons.1 hx with rfl | hx
    · exact H.hs
    · exact H.lo x hx
  · intro x hx r hr
    rcases List.mem_cons.1 hx with rfl | hx
    · exact fun e => Nat.lt_irrefl _ (own_lt (H.own r hr) _ e)
    · exact H.ap x hx r hr
theorem perm (H : Bun b w0 w R B) {R' : List RowD} (h : R.Perm R') : Bun b w0 w R' B :=
  ⟨H.hb, H.hs, fun r hr => H.own r (h.mem_iff.2 hr), (h.pairwise_iff (fun h => ne_symm h)).1 H.ne, H.box, H.apart, H.lo, fun x hx r hr => H.ap x hx r (h.mem_iff.2 hr)⟩
theorem permB (H : Bun b w0 w R B) {B' : List BoxD} (h : B.Perm B') : Bun b w0 w R B' :=
  ⟨H.hb, H.hs, H.own, H.ne, fun x hx => H.box x (h.mem_iff.2 hx), (h.pairwise_iff (fun h => Ne.symm h)).1 H.apart, fun x hx => H.lo x (h.mem_iff.2 hx), fun x hx => H.ap x (h.mem_iff.2 hx)⟩
theorem set0 {x : BoxD} (H : Bun b w0 w R (x :: B)) (i : Nat) (v : Value) : Bun b w0 (w.setCell ⟨x.at_, i, none⟩ v) R (⟨x.at_, x.cs.setIfInBounds i v, x.t⟩ :: B) := by
  have h0 := H.box x (List.mem_cons_self ..)
  have hap := List.pairwise_cons.1 H.apart
  refine ⟨?_, ?_, ?_, H.ne, ?_, .cons (fun y hy => hap.1 y hy) hap.2, ?_, ?_⟩
  · exact H.hb.trans (((Kept.refl (fun k => k = x.at_) w).setCell (a := ⟨x.at_, i, none⟩) rfl v).below_of (fun k hk => hk ▸ H.lo x (List.mem_cons_self ..)) H.hs)
  · simpa using H.hs
  · intro r hr
    exact own_setCell (p := ⟨x.at_, i, none⟩) (H.own r hr) (fun e => H.ap x (List.mem_cons_self ..) r hr e.symm) v
  · intro y hy
    rcases List.mem_cons.1 hy with rfl | hy
    · exact h0.set_ i v
    · exact (H.box y (List.mem_cons_of_mem _ hy)).other (a := ⟨x.at_, i, none⟩) (Ne.symm (hap.1 y hy)) v
  · intro y hy
    rcases List.mem_cons.1 hy with rfl | hy
    · exact H.lo x (List.mem_cons_self ..)
    · exact H.lo y (List.mem_cons_of_mem _ hy)
  · intro y hy
    rcases List.mem_cons.1 hy with rfl | hy
    · exact H.ap x (List.mem_cons_self ..)
    · exact H.ap y (List.mem_cons_of_mem _ hy)
theorem grown0 {r r1 : RowD} (H : Bun b w0 w (r :: R) B) (hown : r1.ok b w1) (hb1 : Below b w0 w1) (hg : w.grownBy w1 r.v.ownBlock) (hat : r1.v.ownBlock = r.v.ownBlock ∨ ∃ k, r1.v.ownBlock = some k ∧ w.heap.size ≤ k) : Bun b w0 w1 (r1 :: R) B := by
  have hne := List.pairwise_cons.1 H.ne
  refine ⟨hb1, Nat.le_trans H.hs hg.size, ?_, .cons (fun s hs => ne_append (hne.1 s hs) hat (H.own s (List.mem_cons_of_mem _ hs))) hne.2, ?_, H.apart, H.lo, ?_⟩
  · intro s hs
    rcases List.mem_cons.1 hs with rfl | hs
    · exact hown
    · exact own_other (H.own s (List.mem_cons_of_mem _ hs)) hg (ne_other (hne.1 s hs))
  · intro x hx
    exact has_grown (H.box x hx) hg (fun e => H.ap x hx r (List.mem_cons_self ..) e.symm)
  · intro x hx s hs
    rcases List.mem_cons.1 hs with rfl | hs
    · intro e
      rcases hat with hat | ⟨k, hk, hle⟩
      · exact H.ap x hx r (List.mem_cons_self ..) (hat ▸ e)
      · have h1 := (H.box x hx).lt
        rw [hk] at e
        injection e with e
        omega
    · exact H.ap x hx s (List.mem_cons_of_mem _ hs)
section
variable {P : Program} {ops : Array Oper} {Q : Exit → Act → World → Prop} {a : Act} {rest : List Oper} {o : Oper}
theorem append {r : RowD} (H : Bun b w0 w (r :: R) B) (hgd : o.guard = none) {d : Tmp} (hd : o.dst = some d) (s x : Operand) (t : TypeId) (z : Value) (bytes : Nat)
    (ho : o.op = .call { callee := .builtin .append, args := #[s, x], argTypes := #[t, t] })
    (ht : P.underlying t = some (.slice r.e)) (hinfo : (P.info? r.e).map (fun i => (i.zero, i.size, i.bytes)) = some (some z, r.size, bytes)) (hz : z.cells.size = r.size) (hs0 : 0 < r.size) (hb0 : 0 < bytes)
    (cs : List Value) (hs : a.eval s = r.v) (hx : a.eval x = .slice (some ⟨w.heap.size, 0, none⟩) 1 1) (hcs : cs.length = r.size) (h1 : ∀ u ∈ cs, u.oneCell' = true) (hl : (r.n + 1) * bytes ≤ 140737488355328)
    (h : ∀ A c w1, Bun b w0 w1 (⟨.slice A (r.n + 1) c, r.e, r.n + 1, r.size, r.cs ++ cs⟩ :: R) B → wpList P ops Q rest { tmps := a.tmps.setIfInBounds d (.slice A (r.n + 1) c), defers := a.defers } w1) : wpList P ops Q (o :: rest) a (w.alloc (.cells cs.toArray r.e)) := by
  refine print_append_cells b hgd s x t r.e z r.size bytes ho ht hinfo hz hs0 hb0 r.v r.n r.cs cs hs hx hcs h1 (H.own r (List.mem_cons_self ..)) H.hb H.hs hl ?_
  intro v1 w1 hown hb1 hg hat
  obtain ⟨A, c, rfl⟩ := own_slice hown
  rw [hd]
  exact h A c w1 (H.grown0 hown hb1 hg hat)
theorem appendRow {r s : RowD} (H : Bun b w0 w (r :: s :: R) B) (hgd : o.guard = none) {d : Tmp} (hd : o.dst = some d) (p x : Operand) (t : TypeId) (z : Value) (bytes : Nat)
    (ho : o.op = .call { callee := .builtin .append, args := #[p, x], argTypes := #[t, t] })
    (ht : P.underlying t = some (.slice r.e)) (hinfo : (P.info? r.e).map (fun i => (i.zero, i.size, i.bytes)) = some (some z, r.size, bytes)) (hz : z.cells.size = r.size) (hs0 : 0 < r.size) (hb0 : 0 < bytes) (hss : s.size = r.size)
    (hs : a.eval p = r.v) (hx : a.eval x = s.v) (hpos : 0 < s.n) (h1 : ∀ u ∈ s.cs, u.oneCell' = true) (hl : (r.n + s.n) * bytes ≤ 140737488355328)
    (h : ∀ A c w1, Bun b w0 w1 (⟨.slice A (r.n + s.n) c, r.e, r.n + s.n, r.size, r.cs ++ s.cs⟩ :: s :: R) B → wpList P ops Q rest { tmps := a.tmps.setIfInBounds d (.slice A (r.n + s.n) c), defers := a.defers } w1) : wpList P ops Q (o :: rest) a w := by
  obtain ⟨i0, hi, hzz⟩ := Option.map_eq_some_iff.1 hinfo
  simp only [Prod.mk.injEq] at hzz
  obtain ⟨hz0, hz1, hz2⟩ := hzz
  have hso : w.ownsRow b s.e s.size s.v s.n s.cs := H.own s (List.mem_cons_of_mem _ (List.mem_cons_self ..))
  have hlen : r.n + s.n ≤ 140737488355328 := Nat.le_trans (Nat.le_mul_of_pos_right _ hb0) hl
  obtain ⟨g, cap, hv, hcell⟩ : ∃ g cap, s.v = .slice (some ⟨g, 0, none⟩) s.n cap ∧ ∀ j, j < s.n * s.size → w.cell? ⟨g, j, none⟩ = s.cs[j]? := by
    rcases hso.2 with ⟨_, h0⟩ | ⟨g, cap, cur, hv, _⟩
    · omega
    · refine ⟨g, cap, hv, fun j hj => ?_⟩
      rw [hv] at hso
      exact World.ownsRow.cellAt hso j hj
  refine wpList_append_own_at w hgd p x t ho b r.e i0 z r.size bytes ht hi hz0 hz1 hz2 hz hs0 r.v r.n r.cs hs (H.own r (List.mem_cons_self ..)) ⟨g, 0, none⟩ s.n cap s.cs (hx.trans hv) (by rw [hso.1, hss]) ?_ h1 (by simp only [maxLen]; omega) hl H.hs ?_
  · intro j u hu
    have hj : j < s.cs.length := (List.getElem?_eq_some_iff.1 hu).1
    have := hcell j (by rw [← hso.1]; exact hj)
    rw [hu] at this
    rw [show Addr.add ⟨g, 0, none⟩ j = ⟨g, j, none⟩ by cases j <;> simp [Addr.add]]
    exact this
  · intro v1 w1 hown hg _ hat
    obtain ⟨A, c, rfl⟩ := own_slice hown
    rw [hd]
    refine h A c w1 (H.grown0 hown (H.hb.grown hg H.hs (own_base (H.own r (List.mem_cons_self ..)))) hg ?_)
    rcases hat with hat | hat
    · exact .inl hat
    · exact .inr ⟨_, hat, Nat.le_refl _⟩
end
end Bun
theorem reps_flat {α : Type} {R : α → List Value → Prop} {size : Nat} {enc : α → List Value} (hR : ∀ p, R p (enc p)) (hs : ∀ p, (enc p).length = size) : ∀ ps : List α, Reps R size ps (ps.flatMap enc)
  | [] => Reps.none _ _
  | p :: r => by
    rw [List.flatMap_cons]
    exact reps_cons (hR p) (hs p) (reps_flat hR hs r)
theorem RowD.C {α : Type} (d : Kd α) {b : Nat} {w : World} {A : Option Addr} {c n : Nat} {e : TypeId} {cs : List Value} {ps : List α} (h : RowD.ok b w ⟨.slice A n c, e, n, d.sz, cs⟩) (hr : Reps (d.K w) d.sz ps cs) (hn : ps.length = n) : n ≤ c ∧ d.C w A n ps := by
  have h' : w.ownsRow b e d.sz (.slice A n c) n cs := h
  obtain ⟨A', c', he, hr'⟩ := own_reads_row h' hr hn
  injection he with h1 h2 h3
  subst h1
  exact ⟨own_le h', hr'⟩
end Go.Proofs.Ytpphpcmbpbppoaa.Mach
end
section
namespace Go.Proofs.Ytpphpcmbpbppoaa.Mach
open Go.RowKit Go.Proofs.YtpphpcmbpbppoaaW.PrintWords Go.Proofs.YtpphpcmbpbppoaaW.PrintLast Go.Proofs.YtpphpcmbpbppoaaW.PrintMore
open Go.Proofs.Ytpphpcmbpbppoaa.Calm
open Go.Proofs.Ytpphpcmbpbppoaa.PMirFuel (S30 S57 S34 S37 S40 S43 S45 S48 k30 k57 k34 k37 k40 k43 k45 k48 rd_T30 rd_T57 rd_T34 rd_T37 rd_T40 rd_T43 rd_T45 rd_T48 at_T30 at_T57 at_T34 at_T40 at_T45 at_T48)
set_option linter.unusedVariables false
set_option linter.unusedSimpArgs false
open Go.Proofs.Ytpphpcmbpbppoaa.PMirFuel (z30 z34 z37 z40)
open LawP Go.Proofs.Ytpphpcmbpbppoaa.Form
namespace PassLaw
def fT : ByteArray := ⟨#[102]⟩
def ld (n t i : Nat) : S40 := ⟨3, ((n - t + i : Nat) : Int), z30, z30, ⟨0, [⟨1, (i : Int), 0⟩]⟩, z34, 0, ⟨#[]⟩, z37, [], []⟩
def pr (i : Nat) : S40 := ⟨13, 0, ⟨false, (i : Int)⟩, z30, z34, z34, 0, ⟨#[]⟩, z37, [], []⟩
def lo (i : Nat) : S30 := ⟨false, (i : Int)⟩
def co (w : Int) : S30 := ⟨true, w⟩
def loads (n t k : Nat) : List S40 := (List.range k).map (ld n t)
def outA (n t k : Nat) : List S30 := (List.range k).map fun i => lo (n - t + i)
def outB (k : Nat) : List S30 := (List.range k).map fun i => lo (i + 1)
def dsts (k : Nat) : List Int := (List.range k).map fun i : Nat => (i : Int)
def prints (k : Nat) : List S40 := (List.range k).map pr
def locF (t k : Nat) : List Int := ((t + 1 : Nat) : Int) :: List.replicate k 1
def fF (n t : Nat) : S48 := ⟨fT, locF t n, ((n - t : Nat) : Int), (n : Int), false, [⟨loads n t (t + 1), ⟨3, z30, 0, 0, outA n t (t + 1) ++ outB (n - 1 - t)⟩⟩]⟩
def call (W : List Int) : S40 := ⟨15, 0, z30, z30, z34, z34, 0, fT, z37, W.map co, dsts W.length⟩
def fM (W : List Int) : S48 := ⟨mainT, List.replicate W.length 1, 0, 0, false, [⟨call W :: prints W.length, ⟨3, z30, 0, 0, []⟩⟩]⟩
def fs (W : List Int) (t : Nat) : List S48 := [fM W, fF W.length t]
def good : ResC → Option (List Int)
  | .ok st [] [] => some st.print
  | _ => none
theorem of_good {r : ResC} {p : List Int} (h : good r = some p) : ∃ st : St, st.print = p ∧ r = .ok st [] [] := by
  unfold good at h
  split at h
  · exact ⟨_, Option.some.inj h, rfl⟩
  · cases h
theorem g1_0 (w0 : Int) : good (callP (XG (fs [w0] 0) 1000) (st0 1000 []) [] (fM [w0]) []) = some [w32 w0] := by kernel_rfl
theorem g2_0 (w0 w1 : Int) : good (callP (XG (fs [w0, w1] 0) 1000) (st0 1000 []) [] (fM [w0, w1]) []) = some [w32 w0, w32 w1] := by kernel_rfl
theorem g2_1 (w0 w1 : Int) : good (callP (XG (fs [w0, w1] 1) 1000) (st0 1000 []) [] (fM [w0, w1]) []) = some [w32 w0, w32 w1] := by kernel_rfl
theorem g3_0 (w0 w1 w2 : Int) : good (callP (XG (fs [w0, w1, w2] 0) 1000) (st0 1000 []) [] (fM [w0, w1, w2]) []) = some [w32 w0, w32 w1, w32 w2] := by kernel_rfl
theorem g3_1 (w0 w1 w2 : Int) : good (callP (XG (fs [w0, w1, w2] 1) 1000) (st0 1000 []) [] (fM [w0, w1, w2]) []) = some [w32 w0, w32 w1, w32 w2] := by kernel_rfl
theorem g3_2 (w0 w1 w2 : Int) : good (callP (XG (fs [w0, w1, w2] 2) 1000) (st0 1000 []) [] (fM [w0, w1, w2]) []) = some [w32 w0, w32 w1, w32 w2] := by kernel_rfl
theorem g4_0 (w0 w1 w2 w3 : Int) : good (callP (XG (fs [w0, w1, w2, w3] 0) 1000) (st0 1000 []) [] (fM [w0, w1, w2, w3]) []) = some [w32 w0, w32 w1, w32 w2, w32 w3] := by kernel_rfl
theorem g4_1 (w0 w1 w2 w3 : Int) : good (callP (XG (fs [w0, w1, w2, w3] 1) 1000) (st0 1000 []) [] (fM [w0, w1, w2, w3]) []) = some [w32 w0, w32 w1, w32 w2, w32 w3] := by kernel_rfl
theorem g4_2 (w0 w1 w2 w3 : Int) : good (callP (XG (fs [w0, w1, w2, w3] 2) 1000) (st0 1000 []) [] (fM [w0, w1, w2, w3]) []) = some [w32 w0, w32 w1, w32 w2, w32 w3] := by kernel_rfl
theorem g4_3 (w0 w1 w2 w3 : Int) : good (callP (XG (fs [w0, w1, w2, w3] 3) 1000) (st0 1000 []) [] (fM [w0, w1, w2, w3]) []) = some [w32 w0, w32 w1, w32 w2, w32 w3] := by kernel_rfl
theorem g5_0 (w0 w1 w2 w3 w4 : Int) : good (callP (XG (fs [w0, w1, w2, w3, w4] 0) 1000) (st0 1000 []) [] (fM [w0, w1, w2, w3, w4]) []) = some [w32 w0, w32 w1, w32 w2, w32 w3, w32 w4] := by kernel_rfl
theorem g5_1 (w0 w1 w2 w3 w4 : Int) : good (callP (XG (fs [w0, w1, w2, w3, w4] 1) 1000) (st0 1000 []) [] (fM [w0, w1, w2, w3, w4]) []) = some [w32 w0, w32 w1, w32 w2, w32 w3, w32 w4] := by kernel_rfl
theorem g5_2 (w0 w1 w2 w3 w4 : Int) : good (callP (XG (fs [w0, w1, w2, w3, w4] 2) 1000) (st0 1000 []) [] (fM [w0, w1, w2, w3, w4]) []) = some [w32 w0, w32 w1, w32 w2, w32 w3, w32 w4] := by kernel_rfl
theorem g5_3 (w0 w1 w2 w3 w4 : Int) : good (callP (XG (fs [w0, w1, w2, w3, w4] 3) 1000) (st0 1000 []) [] (fM [w0, w1, w2, w3, w4]) []) = some [w32 w0, w32 w1, w32 w2, w32 w3, w32 w4] := by kernel_rfl
theorem g5_4 (w0 w1 w2 w3 w4 : Int) : good (callP (XG (fs [w0, w1, w2, w3, w4] 4) 1000) (st0 1000 []) [] (fM [w0, w1, w2, w3, w4]) []) = some [w32 w0, w32 w1, w32 w2, w32 w3, w32 w4] := by kernel_rfl
theorem g6_0 (w0 w1 w2 w3 w4 w5 : Int) : good (callP (XG (fs [w0, w1, w2, w3, w4, w5] 0) 1000) (st0 1000 []) [] (fM [w0, w1, w2, w3, w4, w5]) []) = some [w32 w0, w32 w1, w32 w2, w32 w3, w32 w4, w32 w5] := by kernel_rfl
theorem g6_1 (w0 w1 w2 w3 w4 w5 : Int) : good (callP (XG (fs [w0, w1, w2, w3, w4, w5] 1) 1000) (st0 1000 []) [] (fM [w0, w1, w2, w3, w4, w5]) []) = some [w32 w0, w32 w1, w32 w2, w32 w3, w32 w4, w32 w5] := by kernel_rfl
theorem g6_2 (w0 w1 w2 w3 w4 w5 : Int) : good (callP (XG (fs [w0, w1, w2, w3, w4, w5] 2) 1000) (st0 1000 []) [] (fM [w0, w1, w2, w3, w4, w5]) []) = some [w32 w0, w32 w1, w32 w2, w32 w3, w32 w4, w32 w5] := by kernel_rfl
theorem g6_3 (w0 w1 w2 w3 w4 w5 : Int) : good (callP (XG (fs [w0, w1, w2, w3, w4, w5] 3) 1000) (st0 1000 []) [] (fM [w0, w1, w2, w3, w4, w5]) []) = some [w32 w0, w32 w1, w32 w2, w32 w3, w32 w4, w32 w5] := by kernel_rfl
theorem g6_4 (w0 w1 w2 w3 w4 w5 : Int) : good (callP (XG (fs [w0, w1, w2, w3, w4, w5] 4) 1000) (st0 1000 []) [] (fM [w0, w1, w2, w3, w4, w5]) []) = some [w32 w0, w32 w1, w32 w2, w32 w3, w32 w4, w32 w5] := by kernel_rfl
theorem g6_5 (w0 w1 w2 w3 w4 w5 : Int) : good (callP (XG (fs [w0, w1, w2, w3, w4, w5] 5) 1000) (st0 1000 []) [] (fM [w0, w1, w2, w3, w4, w5]) []) = some [w32 w0, w32 w1, w32 w2, w32 w3, w32 w4, w32 w5] := by kernel_rfl
theorem g7_0 (w0 w1 w2 w3 w4 w5 w6 : Int) : good (callP (XG (fs [w0, w1, w2, w3, w4, w5, w6] 0) 1000) (st0 1000 []) [] (fM [w0, w1, w2, w3, w4, w5, w6]) []) = some [w32 w0, w32 w1, w32 w2, w32 w3, w32 w4, w32 w5, w32 w6] := by kernel_rfl
theorem g7_1 (w0 w1 w2 w3 w4 w5 w6 : Int) : good (callP (XG (fs [w0, w1, w2, w3, w4, w5, w6] 1) 1000) (st0 1000 []) [] (fM [w0, w1, w2, w3, w4, w5, w6]) []) = some [w32 w0, w32 w1, w32 w2, w32 w3, w32 w4, w32 w5, w32 w6] := by kernel_rfl
theorem g7_2 (w0 w1 w2 w3 w4 w5 w6 : Int) : good (callP (XG (fs [w0, w1, w2, w3, w4, w5, w6] 2) 1000) (st0 1000 []) [] (fM [w0, w1, w2, w3, w4, w5, w6]) []) = some [w32 w0, w32 w1, w32 w2, w32 w3, w32 w4, w32 w5, w32 w6] := by kernel_rfl
theorem g7_3 (w0 w1 w2 w3 w4 w5 w6 : Int) : good (callP (XG (fs [w0, w1, w2, w3, w4, w5, w6] 3) 1000) (st0 1000 []) [] (fM [w0, w1, w2, w3, w4, w5, w6]) []) = some [w32 w0, w32 w1, w32 w2, w32 w3, w32 w4, w32 w5, w32 w6] := by kernel_rfl
theorem g7_4 (w0 w1 w2 w3 w4 w5 w6 : Int) : good (callP (XG (fs [w0, w1, w2, w3, w4, w5, w6] 4) 1000) (st0 1000 []) [] (fM [w0, w1, w2, w3, w4, w5, w6]) []) = some [w32 w0, w32 w1, w32 w2, w32 w3, w32 w4, w32 w5, w32 w6] := by kernel_rfl
theorem g7_5 (w0 w1 w2 w3 w4 w5 w6 : Int) : good (callP (XG (fs [w0, w1, w2, w3, w4, w5, w6] 5) 1000) (st0 1000 []) [] (fM [w0, w1, w2, w3, w4, w5, w6]) []) = some [w32 w0, w32 w1, w32 w2, w32 w3, w32 w4, w32 w5, w32 w6] := by kernel_rfl
theorem g7_6 (w0 w1 w2 w3 w4 w5 w6 : Int) : good (callP (XG (fs [w0, w1, w2, w3, w4, w5, w6] 6) 1000) (st0 1000 []) [] (fM [w0, w1, w2, w3, w4, w5, w6]) []) = some [w32 w0, w32 w1, w32 w2, w32 w3, w32 w4, w32 w5, w32 w6] := by kernel_rfl
theorem g8_0 (w0 w1 w2 w3 w4 w5 w6 w7 : Int) : good (callP (XG (fs [w0, w1, w2, w3, w4, w5, w6, w7] 0) 1000) (st0 1000 []) [] (fM [w0, w1, w2, w3, w4, w5, w6, w7]) []) = some [w32 w0, w32 w1, w32 w2, w32 w3, w32 w4, w32 w5, w32 w6, w32 w7] := by kernel_rfl
theorem g8_1 (w0 w1 w2 w3 w4 w5 w6 w7 : Int) : good (callP (XG (fs [w0, w1, w2, w3, w4, w5, w6, w7] 1) 1000) (st0 1000 []) [] (fM [w0, w1, w2, w3, w4, w5, w6, w7]) []) = some [w32 w0, w32 w1, w32 w2, w32 w3, w32 w4, w32 w5, w32 w6, w32 w7] := by kernel_rfl
theorem g8_2 (w0 w1 w2 w3 w4 w5 w6 w7 : Int) : good (callP (XG (fs [w0, w1, w2, w3, w4, w5, w6, w7] 2) 1000) (st0 1000 []) [] (fM [w0, w1, w2, w3, w4, w5, w6, w7]) []) = some [w32 w0, w32 w1, w32 w2, w32 w3, w32 w4, w32 w5, w32 w6, w32 w7] := by kernel_rfl
theorem g8_3 (w0 w1 w2 w3 w4 w5 w6 w7 : Int) : good (callP (XG (fs [w0, w1, w2, w3, w4, w5, w6, w7] 3) 1000) (st0 1000 []) [] (fM [w0, w1, w2, w3, w4, w5, w6, w7]) []) = some [w32 w0, w32 w1, w32 w2, w32 w3, w32 w4, w32 w5, w32 w6, w32 w7] := by kernel_rfl
theorem g8_4 (w0 w1 w2 w3 w4 w5 w6 w7 : Int) : good (callP (XG (fs [w0, w1, w2, w3, w4, w5, w6, w7] 4) 1000) (st0 1000 []) [] (fM [w0, w1, w2, w3, w4, w5, w6, w7]) []) = some [w32 w0, w32 w1, w32 w2, w32 w3, w32 w4, w32 w5, w32 w6, w32 w7] := by kernel_rfl
theorem g8_5 (w0 w1 w2 w3 w4 w5 w6 w7 : Int) : good (callP (XG (fs [w0, w1, w2, w3, w4, w5, w6, w7] 5) 1000) (st0 1000 []) [] (fM [w0, w1, w2, w3, w4, w5, w6, w7]) []) = some [w32 w0, w32 w1, w32 w2, w32 w3, w32 w4, w32 w5, w32 w6, w32 w7] := by kernel_rfl
theorem g8_6 (w0 w1 w2 w3 w4 w5 w6 w7 : Int) : good (callP (XG (fs [w0, w1, w2, w3, w4, w5, w6, w7] 6) 1000) (st0 1000 []) [] (fM [w0, w1, w2, w3, w4, w5, w6, w7]) []) = some [w32 w0, w32 w1, w32 w2, w32 w3, w32 w4, w32 w5, w32 w6, w32 w7] := by kernel_rfl
theorem g8_7 (w0 w1 w2 w3 w4 w5 w6 w7 : Int) : good (callP (XG (fs [w0, w1, w2, w3, w4, w5, w6, w7] 7) 1000) (st0 1000 []) [] (fM [w0, w1, w2, w3, w4, w5, w6, w7]) []) = some [w32 w0, w32 w1, w32 w2, w32 w3, w32 w4, w32 w5, w32 w6, w32 w7] := by kernel_rfl
theorem ends (W : List Int) (t : Nat) (h8 : W.length ≤ 8) (ht : t < W.length) : ∃ st : St, st.print = W.map w32 ∧ callP (XG (fs W t) 1000) (st0 1000 []) [] (fM W) [] = .ok st [] [] := by
  apply of_good
  rcases W with _ | ⟨w0, W⟩
  · exact absurd ht (Nat.not_lt_zero _)
  rcases W with _ | ⟨w1, W⟩
  · have ht' : t < 1 := ht
    clear h8 ht
    match t, ht' with
    | 0, _ => exact g1_0 w0
  rcases W with _ | ⟨w2, W⟩
  · have ht' : t < 2 := ht
    clear h8 ht
    match t, ht' with
    | 0, _ => exact g2_0 w0 w1
    | 1, _ => exact g2_1 w0 w1
  rcases W with _ | ⟨w3, W⟩
  · have ht' : t < 3 := ht
    clear h8 ht
    match t, ht' with
    | 0, _ => exact g3_0 w0 w1 w2
    | 1, _ => exact g3_1 w0 w1 w2
    | 2, _ => exact g3_2 w0 w1 w2
  rcases W with _ | ⟨w4, W⟩
  · have ht' : t < 4 := ht
    clear h8 ht
    match t, ht' with
    | 0, _ => exact g4_0 w0 w1 w2 w3
    | 1, _ => exact g4_1 w0 w1 w2 w3
    | 2, _ => exact g4_2 w0 w1 w2 w3
    | 3, _ => exact g4_3 w0 w1 w2 w3
  rcases W with _ | ⟨w5, W⟩
  · have ht' : t < 5 := ht
    clear h8 ht
    match t, ht' with
    | 0, _ => exact g5_0 w0 w1 w2 w3 w4
    | 1, _ => exact g5_1 w0 w1 w2 w3 w4
    | 2, _ => exact g5_2 w0 w1 w2 w3 w4
    | 3, _ => exact g5_3 w0 w1 w2 w3 w4
    | 4, _ => exact g5_4 w0 w1 w2 w3 w4
  rcases W with _ | ⟨w6, W⟩
  · have ht' : t < 6 := ht
    clear h8 ht
    match t, ht' with
    | 0, _ => exact g6_0 w0 w1 w2 w3 w4 w5
    | 1, _ => exact g6_1 w0 w1 w2 w3 w4 w5
    | 2, _ => exact g6_2 w0 w1 w2 w3 w4 w5
    | 3, _ => exact g6_3 w0 w1 w2 w3 w4 w5
    | 4, _ => exact g6_4 w0 w1 w2 w3 w4 w5
    | 5, _ => exact g6_5 w0 w1 w2 w3 w4 w5
  rcases W with _ | ⟨w7, W⟩
  · have ht' : t < 7 := ht
    clear h8 ht
    match t, ht' with
    | 0, _ => exact g7_0 w0 w1 w2 w3 w4 w5 w6
    | 1, _ => exact g7_1 w0 w1 w2 w3 w4 w5 w6
    | 2, _ => exact g7_2 w0 w1 w2 w3 w4 w5 w6
    | 3, _ => exact g7_3 w0 w1 w2 w3 w4 w5 w6
    | 4, _ => exact g7_4 w0 w1 w2 w3 w4 w5 w6
    | 5, _ => exact g7_5 w0 w1 w2 w3 w4 w5 w6
    | 6, _ => exact g7_6 w0 w1 w2 w3 w4 w5 w6
  rcases W with _ | ⟨w8, W⟩
  · have ht' : t < 8 := ht
    clear h8 ht
    match t, ht' with
    | 0, _ => exact g8_0 w0 w1 w2 w3 w4 w5 w6 w7
    | 1, _ => exact g8_1 w0 w1 w2 w3 w4 w5 w6 w7
    | 2, _ => exact g8_2 w0 w1 w2 w3 w4 w5 w6 w7
    | 3, _ => exact g8_3 w0 w1 w2 w3 w4 w5 w6 w7
    | 4, _ => exact g8_4 w0 w1 w2 w3 w4 w5 w6 w7
    | 5, _ => exact g8_5 w0 w1 w2 w3 w4 w5 w6 w7
    | 6, _ => exact g8_6 w0 w1 w2 w3 w4 w5 w6 w7
    | 7, _ => exact g8_7 w0 w1 w2 w3 w4 w5 w6 w7
  · simp at h8
abbrev big : Nat := 4611686018427387904
def loadB (n t : Nat) : Bool := (loads n t (t + 1)).all fun s => decide (s.f0 = 3) && (scB (locF t n) s.f1 && plB (locF t n) s.f4) && decide (s.f4.f1.length < big) && decide (s.f5.f1.length < big)
theorem load_ok : ∀ n, n < 9 → ∀ t, t < n → loadB n t = true := by decide +kernel
def printB (n : Nat) : Bool := (prints n).all fun s => decide (s.f0 = 13) && opB (List.replicate n 1) s.f2 && decide (s.f4.f1.length < big) && decide (s.f5.f1.length < big)
theorem print_ok : ∀ n, n < 9 → printB n = true := by decide +kernel
theorem frame_ok : ∀ n, n < 9 → ∀ t, t < n → (frB (fF n t) && decide (widthP (fF n t) = n) && teB (fF n t) ⟨3, z30, 0, 0, outA n t (t + 1) ++ outB (n - 1 - t)⟩) = true := by decide +kernel
theorem frame_M : ∀ n, n < 9 → (frB ⟨mainT, List.replicate n 1, 0, 0, false, [⟨[], ⟨3, z30, 0, 0, []⟩⟩]⟩ && (dsts n).all (scB (List.replicate n 1))) = true := by decide +kernel
theorem main_at (W : List Int) (t : Nat) : findP (fs W t) mainT = 0 := by kernel_rfl
theorem f_at (W : List Int) (t : Nat) : findP (fs W t) fT = 1 := by kernel_rfl
theorem len_loads (n t k : Nat) : (loads n t k).length = k := by simp [loads]
theorem len_prints (k : Nat) : (prints k).length = k := by simp [prints]
theorem len_dsts (k : Nat) : (dsts k).length = k := by simp [dsts]
theorem ca (W : List Int) (t : Nat) (h8 : W.length ≤ 8) (ht : t < W.length) : CaOk (fs W t) (call W) := by
  have e : findP (fs W t) (call W).f7 = 1 := f_at W t
  have e2 : rd_T48 (fs W t) (findP (fs W t) (call W).f7) = fF W.length t := by rw [e]; rfl
  have hw := frame_ok W.length (by omega) t ht
  simp only [Bool.and_eq_true, decide_eq_true_eq] at hw
  refine ⟨by show 2 < big; decide, ?_, ?_, by rw [e]; decide, ?_, ?_, ?_, ?_, ?_⟩
  · show (W.map co).length < big
    rw [List.length_map]; show W.length < 4611686018427387904; omega
  · show (dsts W.length).length < big
    rw [len_dsts]; show W.length < 4611686018427387904; omega
  · rw [e2]; show ¬ ((W.length - t : Nat) : Int) < 0; omega
  · rw [e2]; show ¬ ((W.length - t : Nat) : Int) > ((locF t W.length).length : Int)
    simp [locF]; omega
  · rw [e2]; show (locF t W.length).length < big
    simp only [locF, List.length_cons, List.length_replicate]; show _ < 4611686018427387904; omega
  · rw [e2, hw.1.2]; show ((W.map co).length : Int) = _; rw [List.length_map]
  · rw [e2]; show ((dsts W.length).length : Int) = (W.length : Int); rw [len_dsts]
theorem fn_M (W : List Int) (t : Nat) (h8 : W.length ≤ 8) (ht : t < W.length) : FnL (fs W t) 0 (fM W) := by
  have hf := frame_M W.length (by omega)
  simp only [Bool.and_eq_true] at hf
  refine ⟨main_at W t, hf.1, ?_, by show 1 < big; decide, ?_, ?_⟩
  · show (List.replicate W.length (1 : Int)).length < big
    rw [List.length_replicate]; show W.length < 4611686018427387904; omega
  · intro B hB
    have hB' : B ∈ [(⟨call W :: prints W.length, ⟨3, z30, 0, 0, []⟩⟩ : S45)] := hB
    simp only [List.mem_cons, List.not_mem_nil, or_false] at hB'
    subst hB'
    refine ⟨?_, by show 0 < big; decide, by rfl⟩
    show (call W :: prints W.length).length < big
    rw [List.length_cons, len_prints]; show _ < 4611686018427387904; omega
  · intro B hB s hs
    have hB' : B ∈ [(⟨call W :: prints W.length, ⟨3, z30, 0, 0, []⟩⟩ : S45)] := hB
    simp only [List.mem_cons, List.not_mem_nil, or_false] at hB'
    subst hB'
    have hs' : s ∈ call W :: prints W.length := hs
    rcases List.mem_cons.1 hs' with rfl | hs'
    · refine ⟨.call rfl (ca W t h8 ht) ?_, by show 0 < big; decide, by show 0 < big; decide⟩
      show ((W.map co).all (opB (List.replicate W.length 1)) && (dsts W.length).all (scB (List.replicate W.length 1))) = true
      rw [hf.2, Bool.and_true, List.all_map]
      simp [co, opB]
    · have hp := print_ok W.length (by omega)
      unfold printB at hp
      have hp := List.all_eq_true.1 hp s hs'
      simp only [Bool.and_eq_true, decide_eq_true_eq] at hp
      exact ⟨.print hp.1.1.1 hp.1.1.2, hp.1.2, hp.2⟩
theorem fn_F (W : List Int) (t : Nat) (h8 : W.length ≤ 8) (ht : t < W.length) : FnL (fs W t) 1 (fF W.length t) := by
  have hf := frame_ok W.length (by omega) t ht
  simp only [Bool.and_eq_true, decide_eq_true_eq] at hf
  refine ⟨f_at W t, hf.1.1, ?_, by show 1 < big; decide, ?_, ?_⟩
  · show (locF t W.length).length < big
    simp only [locF, List.length_cons, List.length_replicate]; show _ < 4611686018427387904; omega
  · intro B hB
    have hB' : B ∈ [(⟨loads W.length t (t + 1), ⟨3, z30, 0, 0, outA W.length t (t + 1) ++ outB (W.length - 1 - t)⟩⟩ : S45)] := hB
    simp only [List.mem_cons, List.not_mem_nil, or_false] at hB'
    subst hB'
    refine ⟨?_, ?_, hf.2⟩
    · show (loads W.length t (t + 1)).length < big
      rw [len_loads]; show _ < 4611686018427387904; omega
    · show (outA W.length t (t + 1) ++ outB (W.length - 1 - t)).length < big
      simp only [outA, outB, List.length_append, List.length_map, List.length_range]; show _ < 4611686018427387904; omega
  · intro B hB s hs
    have hB' : B ∈ [(⟨loads W.length t (t + 1), ⟨3, z30, 0, 0, outA W.length t (t + 1) ++ outB (W.length - 1 - t)⟩⟩ : S45)] := hB
    simp only [List.mem_cons, List.not_mem_nil, or_false] at hB'
    subst hB'
    have hs' : s ∈ loads W.length t (t + 1) := hs
    have hp := load_ok W.length (by omega) t ht
    unfold loadB at hp
    have hp := List.all_eq_true.1 hp s hs'
    simp only [Bool.and_eq_true, decide_eq_true_eq] at hp
    exact ⟨.load hp.1.1.1 (by rw [Bool.and_eq_true]; exact hp.1.1.2), hp.1.2, hp.2⟩
theorem two (W : List Int) (t : Nat) (k : Int) (h0 : 0 ≤ k) (h1 : k < (fs W t).length) : k = 0 ∨ k = 1 := by
  have : k < 2 := h1
  omega
theorem chk (W : List Int) (t : Nat) (h8 : W.length ≤ 8) (ht : t < W.length) : ChkT (fs W t) := ⟨by show 2 < big; decide, fun k h0 h1 => by
  rcases two W t k h0 h1 with rfl | rfl
  · exact (fn_M W t h8 ht).t
  · exact (fn_F W t h8 ht).t⟩
theorem formed (W : List Int) (t : Nat) (h8 : W.length ≤ 8) (ht : t < W.length) : Forms (fs W t) := forms_of (chk W t h8 ht) fun k h0 h1 => by
  rcases two W t k h0 h1 with rfl | rfl
  · show (List.replicate W.length (1 : Int)).length < 100000
    rw [List.length_replicate]; omega
  · show (locF t W.length).length < 100000
    simp only [locF, List.length_cons, List.length_replicate]; omega
end PassLaw
end Go.Proofs.Ytpphpcmbpbppoaa.Mach
end
section
namespace Go.Proofs.Ytpphpcmbpbppoaa.Mach
open Go.RowKit Go.Proofs.YtpphpcmbpbppoaaW.PrintWords Go.Proofs.YtpphpcmbpbppoaaW.PrintLast Go.Proofs.YtpphpcmbpbppoaaW.PrintMore
open Go.Proofs.Ytpphpcmbpbppoaa.Calm
open Go.Proofs.Ytpphpcmbpbppoaa.PMirFuel (S30 S57 S34 S37 S40 S43 S45 S48 k30 k57 k34 k37 k40 k43 k45 k48 rd_T30 rd_T57 rd_T34 rd_T37 rd_T40 rd_T43 rd_T45 rd_T48 at_T30 at_T57 at_T34 at_T40 at_T45 at_T48)
set_option linter.unusedVariables false
set_option linter.unusedSimpArgs false
open Go.Proofs.Ytpphpcmbpbppoaa.PMirFuel (k57_mk k34_mk k30_mk k37_mk k40_mk k43_mk k45_mk k48_mk z30 z34 z37 z40)
open PassLaw
namespace PassLaw
def opc (p : S30) : List Value := [.bool p.f0, .int .i64 p.f1]
def rwA (words : List Int) (n : Nat) (A5 : Option Addr) (c5 : Nat) : RowD := ⟨.slice A5 n c5, 30, n, 2, ((words.take n).map co).flatMap opc⟩
def rwW (words : List Int) (n : Nat) (A6 : Option Addr) (c6 : Nat) : RowD := ⟨.slice A6 n c6, 3, n, 1, nums .i64 ((words.take n).map w32)⟩
def R0 (words : List Int) (n : Nat) (A5 : Option Addr) (c5 : Nat) (A6 : Option Addr) (c6 : Nat) : List RowD := [rwA words n A5 c5, rwW words n A6 c6]
def rwF (t k : Nat) (A : Option Addr) (c : Nat) : RowD := ⟨.slice A (k + 1) c, 3, k + 1, 1, nums .i64 (locF t k)⟩
def bxF (bb k p n : Nat) (A : Option Addr) (c : Nat) (bl : Value) : BoxD := ⟨bb, #[.string ⟨#[102]⟩, .slice A (k + 1) c, .int .i64 (p : Int), .int .i64 (n : Int), .bool false, bl], 48⟩
def listCells (n t : Nat) : List Nat → List Value
  | [] => []
  | a :: r => listCells n t r ++ encI (some ⟨a, 0, none⟩) (ld n t r.length)
def rwL (n t : Nat) (ads : List Nat) (A : Option Addr) (c : Nat) : RowD := ⟨.slice A ads.length c, 40, ads.length, 18, listCells n t ads⟩
def stepRow (a i : Nat) : RowD := ⟨.slice (some ⟨a, 0, none⟩) 1 1, 57, 1, 3, [.int .i64 1, .int .i64 (i : Int), .int .i64 0]⟩
def stepRows : List Nat → List RowD
  | [] => []
  | a :: r => stepRow a r.length :: stepRows r
def rwO (n t i j : Nat) (A : Option Addr) (c : Nat) : RowD := ⟨.slice A (i + j) c, 30, i + j, 2, (outA n t i ++ outB j).flatMap opc⟩
def rwM (i : Nat) (A : Option Addr) (c : Nat) : RowD := ⟨.slice A i c, 3, i, 1, nums .i64 (List.replicate i 1)⟩
def rwD (i : Nat) (A : Option Addr) (c : Nat) : RowD := ⟨.slice A i c, 3, i, 1, nums .i64 (dsts i)⟩
def rwP (i : Nat) (A : Option Addr) (c : Nat) : RowD := ⟨.slice A i c, 40, i, 18, (prints i).flatMap (encI none)⟩
def bxM (bm i : Nat) (A : Option Addr) (c : Nat) (bl : Value) : BoxD := ⟨bm, #[.string ⟨#[109, 97, 105, 110]⟩, .slice A i c, .int .i64 0, .int .i64 0, .bool false, bl], 48⟩
def callC (n : Nat) (A5 : Option Addr) (c5 : Nat) (ds : Value) : List Value := [.int .i64 15, .int .i64 0, .bool false, .int .i64 0, .bool false, .int .i64 0, .int .i64 0, .slice none 0 0, .int .i64 0, .slice none 0 0, .int .i64 0, .string ⟨#[102]⟩, .int .i64 0, .string ⟨#[]⟩, .int .i64 0, .slice none 0 0, .slice A5 n c5, ds]
def bxC (bc n : Nat) (A5 : Option Addr) (c5 i : Nat) (A : Option Addr) (c : Nat) : BoxD := ⟨bc, (callC n A5 c5 (.slice A i c)).toArray, 40⟩
theorem dsts_snoc (i : Nat) : dsts (i + 1) = dsts i ++ [(i : Int)] := by simp [dsts, List.range_succ]
theorem prints_snoc (i : Nat) : prints (i + 1) = prints i ++ [pr i] := by simp [prints, List.range_succ]
theorem locF_snoc (t k : Nat) : locF t (k + 1) = locF t k ++ [1] := by simp [locF, List.replicate_succ']
theorem outA_snoc (n t i : Nat) : outA n t (i + 1) = outA n t i ++ [lo (n - t + i)] := by simp [outA, List.range_succ]
theorem outB_snoc (j : Nat) : outB (j + 1) = outB j ++ [lo (j + 1)] := by simp [outB, List.range_succ]
theorem loads_snoc (n t i : Nat) : loads n t (i + 1) = loads n t i ++ [ld n t i] := by simp [loads, List.range_succ]
theorem opc_one (p : S30) : ∀ u ∈ opc p, u.oneCell' = true := by
  intro u hu
  simp [opc] at hu
  rcases hu with rfl | rfl <;> rfl
theorem perm2 {α : Type} (a b c : α) (l : List α) : (a :: b :: c :: l).Perm (c :: a :: b :: l) := List.perm_middle (l₁ := [a, b])
theorem perm5 {α : Type} (s a b c d e : α) (l : List α) : (s :: a :: b :: c :: d :: e :: l).Perm (a :: b :: c :: d :: e :: s :: l) := (List.perm_middle (l₁ := [a, b, c, d, e])).symm
theorem take_snoc (words : List Int) (i : Nat) (h : i < words.length) : words.take (i + 1) = words.take i ++ [rd words (i : Int)] := by
  rw [List.take_add_one, List.getElem?_eq_getElem h]
  simp [rd, List.getD_eq_getElem?_getD, h]
theorem reps_flat_mem {α : Type} {R : α → List Value → Prop} {size : Nat} {enc : α → List Value} (hs : ∀ p, (enc p).length = size) : ∀ ps : List α, (∀ p, p ∈ ps → R p (enc p)) → Reps R size ps (ps.flatMap enc)
  | [], _ => Reps.none _ _
  | p :: r, hR => by
    rw [List.flatMap_cons]
    exact reps_cons (hR p (List.mem_cons_self ..)) (hs p) (reps_flat_mem hs r fun q hq => hR q (List.mem_cons_of_mem _ hq))
theorem reps_list {b : Nat} {V : World} (n t : Nat) : ∀ ads : List Nat, (∀ r, r ∈ stepRows ads → r.ok b V) → Reps (k40.K V) 18 (loads n t ads.length) (listCells n t ads)
  | [], _ => Reps.none _ _
  | a :: r, H => by
    have h0 := reps_list n t r fun q hq => H q (List.mem_cons_of_mem _ hq)
    have h1 : RowD.ok b V ⟨.slice (some ⟨a, 0, none⟩) 1 1, 57, 1, 3, [.int .i64 1, .int .i64 (r.length : Int), .int .i64 0]⟩ := H _ (List.mem_cons_self ..)
    obtain ⟨_, hc⟩ := RowD.C k57 (ps := [⟨1, (r.length : Int), 0⟩]) h1 (reps_cons (k57_mk V ⟨1, (r.length : Int), 0⟩) rfl (Reps.none _ _)) rfl
    show Reps _ _ (loads n t (r.length + 1)) (listCells n t r ++ encI (some ⟨a, 0, none⟩) (ld n t r.length))
    rw [loads_snoc]
    exact h0.snoc (encI_K (ld n t r.length) hc rfl rfl rfl rfl) rfl
theorem facts (words : List Int) (i t j : Nat) (hi : i ≤ words.length) (hij : i = j + (t + 1)) {ads : List Nat} (hal : ads.length = t + 1) {b : Nat} {w V : World} {bk bs : Nat} {A5 A6 A AL AQ AM AD AP AX : Option Addr} {c5 c6 c cL cQ cM cD cP cX : Nat} {B : List BoxD}
    (H : Bun b w V (⟨.slice (some ⟨bk, 0, none⟩) 1 1, 45, 1, 7, [Value.slice AX (1 + i) cX, .int .i64 3, .bool false, .int .i64 0, .int .i64 0, .int .i64 0, .slice none 0 0]⟩ :: ⟨.slice AX (1 + i) cX, 40, 1 + i, 18, callC i A5 c5 (.slice AD i cD) ++ (prints i).flatMap (encI none)⟩ :: rwP i AP cP :: rwM i AM cM :: rwD i AD cD ::
      ⟨.slice (some ⟨bs, 0, none⟩) 1 1, 45, 1, 7, [Value.slice AL (t + 1) cL, .int .i64 3, .bool false, .int .i64 0, .int .i64 0, .int .i64 0, .slice AQ (t + 1 + j) cQ]⟩ :: rwF t (j + (t + 1)) A c :: rwL i t ads AL cL :: rwO i t (t + 1) j AQ cQ :: rwA words i A5 c5 :: rwW words i A6 c6 :: stepRows ads) B) :
    k48.K V (fM (words.take i)) [.string ⟨#[109, 97, 105, 110]⟩, .slice AM i cM, .int .i64 0, .int .i64 0, .bool false, .slice (some ⟨bk, 0, none⟩) 1 1] ∧
    k48.K V (fF (words.take i).length t) [.string ⟨#[102]⟩, .slice A (j + (t + 1) + 1) c, .int .i64 ((1 + j : Nat) : Int), .int .i64 (i : Int), .bool false, .slice (some ⟨bs, 0, none⟩) 1 1] ∧
    (Kd.int .i64).C V A6 i ((words.take i).map w32) ∧ i ≤ c6 := by
  have hW : (words.take i).length = i := by rw [List.length_take]; omega
  obtain ⟨W, hWe⟩ : ∃ W, words.take i = W := ⟨_, rfl⟩
  unfold rwA rwW at H
  rw [hWe] at hW H ⊢
  have own := H.own
  simp only [List.mem_cons, forall_eq_or_imp] at own
  obtain ⟨oB2, oX, oP, oM, oD, oB, oF, oL, oO, oA, oW, oS⟩ := own
  obtain ⟨lM, cM'⟩ := RowD.C (Kd.int .i64) (ps := List.replicate i 1) oM (ints_reps V _) (by simp)
  obtain ⟨lD, cD'⟩ := RowD.C (Kd.int .i64) (ps := dsts i) oD (ints_reps V _) (len_dsts i)
  obtain ⟨lF, cF'⟩ := RowD.C (Kd.int .i64) (ps := locF t (j + (t + 1))) oF (ints_reps V _) (by simp [locF])
  obtain ⟨lA, cA'⟩ := RowD.C k30 (ps := W.map co) oA (reps_flat (fun p => k30_mk V p) (fun _ => rfl) _) (by simp [hW])
  obtain ⟨lW, cW'⟩ := RowD.C (Kd.int .i64) (ps := W.map w32) oW (ints_reps V _) (by simp [hW])
  obtain ⟨lO, cO'⟩ := RowD.C k30 (ps := outA i t (t + 1) ++ outB j) oO (reps_flat (fun p => k30_mk V p) (fun _ => rfl) _) (by simp [outA, outB])
  obtain ⟨lL, cL'⟩ := RowD.C k40 (ps := loads i t ads.length) oL (reps_list i t ads oS) (len_loads i t _)
  have kc : k40.K V (call W) (callC i A5 c5 (.slice AD i cD)) := by
    have h := k40_mk V (call W) (A7 := none) (c7 := 0) (Nat.le_refl 0) (Kd.C_nil _ _) (A9 := none) (c9 := 0) (Nat.le_refl 0) (Kd.C_nil _ _) (A15 := none) (c15 := 0) (Nat.le_refl 0) (Kd.C_nil _ _) (A16 := A5) (c16 := c5) (by show (W.map co).length ≤ c5; rw [List.length_map, hW]; exact lA) (by show k30.C V A5 (W.map co).length (W.map co); rw [List.length_map, hW]; exact cA') (A17 := AD) (c17 := cD) (by show (dsts W.length).length ≤ cD; rw [len_dsts, hW]; exact lD) (by show (Kd.int .i64).C V AD (dsts W.length).length (dsts W.length); rw [len_dsts, hW]; exact cD')
    rw [show (call W).f9.length = i by show (W.map co).length = i; rw [List.length_map, hW], show (call W).f10.length = i by show (dsts W.length).length = i; rw [len_dsts, hW]] at h
    exact h
  obtain ⟨lX, cX'⟩ := RowD.C k40 (ps := call W :: prints i) oX (reps_cons kc rfl (reps_flat_mem (enc := encI none) (fun _ => rfl) (prints i) (fun p hp => by
    obtain ⟨q, _, rfl⟩ := List.mem_map.1 hp
    exact encI_K (pr q) (Kd.C_nil _ _) rfl rfl rfl rfl))) (by simp [len_prints]; omega)
  obtain ⟨lB2, cB2⟩ := RowD.C k45 (ps := [⟨call W :: prints i, ⟨3, z30, 0, 0, []⟩⟩]) oB2 (reps_cons (by
    have h := k45_mk V ⟨call W :: prints i, ⟨3, z30, 0, 0, []⟩⟩ (A0 := AX) (c0 := cX) (by show (call W :: prints i).length ≤ cX; rw [List.length_cons, len_prints]; omega) (by show k40.C V AX (call W :: prints i).length _; rw [List.length_cons, len_prints, Nat.add_comm]; exact cX') (A6 := none) (c6 := 0) (Nat.le_refl 0) (Kd.C_nil _ _)
    rw [show (⟨call W :: prints i, ⟨3, z30, 0, 0, []⟩⟩ : S45).f0.length = 1 + i by show (call W :: prints i).length = _; rw [List.length_cons, len_prints, Nat.add_comm]] at h
    exact h) rfl (Reps.none _ _)) rfl
  obtain ⟨lB, cB⟩ := RowD.C k45 (ps := [⟨loads i t (t + 1), ⟨3, z30, 0, 0, outA i t (t + 1) ++ outB j⟩⟩]) oB (reps_cons (by
    rw [hal] at cL' lL
    have hl1 : (loads i t (t + 1)).length = t + 1 := len_loads i t _
    have hl2 : (outA i t (t + 1) ++ outB j).length = t + 1 + j := by simp [outA, outB]
    have h := k45_mk V ⟨loads i t (t + 1), ⟨3, z30, 0, 0, outA i t (t + 1) ++ outB j⟩⟩ (A0 := AL) (c0 := cL) (by show (loads i t (t + 1)).length ≤ cL; rw [hl1]; exact lL) (by show k40.C V AL (loads i t (t + 1)).length _; rw [hl1]; exact cL') (A6 := AQ) (c6 := cQ) (by show (outA i t (t + 1) ++ outB j).length ≤ cQ; rw [hl2]; exact lO) (by show k30.C V AQ (outA i t (t + 1) ++ outB j).length _; rw [hl2]; exact cO')
    rw [show (⟨loads i t (t + 1), ⟨3, z30, 0, 0, outA i t (t + 1) ++ outB j⟩⟩ : S45).f0.length = t + 1 from hl1, show (⟨loads i t (t + 1), ⟨3, z30, 0, 0, outA i t (t + 1) ++ outB j⟩⟩ : S45).f1.f4.length = t + 1 + j from hl2] at h
    exact h) rfl (Reps.none _ _)) rfl
  refine ⟨?_, ?_, cW', lW⟩
  · have hl : (fM W).f1.length = i := by show (List.replicate W.length (1 : Int)).length = i; rw [List.length_replicate, hW]
    have h := k48_mk V (fM W) (A1 := AM) (c1 := cM) (by rw [hl]; exact lM) (by rw [hl]; show (Kd.int .i64).C V AM i (List.replicate W.length 1); rw [hW]; exact cM') (A5 := some ⟨bk, 0, none⟩) (c5 := 1) (Nat.le_refl 1) (by show k45.C V _ 1 [⟨call W :: prints W.length, ⟨3, z30, 0, 0, []⟩⟩]; rw [hW]; exact cB2)
    rw [hl] at h
    exact h
  · rw [hW]
    have hl : (fF i t).f1.length = j + (t + 1) + 1 := by show (locF t i).length = _; simp [locF]; omega
    have h := k48_mk V (fF i t) (A1 := A) (c1 := c) (by rw [hl]; exact lF) (by rw [hl]; show (Kd.int .i64).C V A (j + (t + 1) + 1) (locF t i); rw [hij]; exact cF') (A5 := some ⟨bs, 0, none⟩) (c5 := 1) (Nat.le_refl 1) (by show k45.C V _ 1 [⟨loads i t (t + 1), ⟨3, z30, 0, 0, outA i t (t + 1) ++ outB (i - 1 - t)⟩⟩]; rw [show i - 1 - t = j by omega]; exact cB)
    rw [hl, show (fF i t).f2 = ((1 + j : Nat) : Int) by show ((i - t : Nat) : Int) = _; omega] at h
    exact h
end PassLaw
set_option maxRecDepth 100000 in
set_option maxHeartbeats 8000000 in
theorem passes_le (A0 : Option Addr) (c0 : Nat) (words : List Int) (turn : Int) (w : World) (hR : ReadsInt w .i64 A0 words.length words) (hn : words.length ≤ 8) : Calls Try.prog 6 #[.slice A0 words.length c0, .int .i64 turn] w fun e w' => e = .returned (.bool true) ∧ Below w.heap.size w w' := by
  have HR := Aside0.mk hR
  have hlen := hR.2.1
  have B0 := Aside0.mk (((Bun.start w).none_ 3 1).none_ 30 2)
  clear hR
  go_enter Try.func6, Try.ntmps6
  go_wp2_with fail
  go_loopw [5, 6, 7] (fun v5 v6 v7 wr => ∃ (n : Nat) (A5 : Option Addr) (c5 : Nat) (A6 : Option Addr) (c6 : Nat), v5 = .slice A5 n c5 ∧ v6 = .slice A6 n c6 ∧ v7 = .int .i64 (n : Int) ∧ n ≤ words.length ∧ n ≤ 8 ∧ Aside0 (Bun w.heap.size w wr (R0 words n A5 c5 A6 c6) [])) (fun _ _ v7 _ => 8 - (intOf v7).toNat)
  case atStart => exact ⟨0, none, 0, none, 0, rfl, rfl, rfl, by omega, by omega, B0⟩
  case round =>
    clear B0
    obtain ⟨n, A5, c5, A6, c6, rfl, rfl, rfl, hn0, hn8, HB⟩ := hrel
    by_cases hlt : n < words.length ∧ n < 8
    · have hd1 : decide ((n : Int) < (words.length : Int)) = true := decide_eq_true (by omega)
      have hd2 : decide ((n : Int) < 8) = true := decide_eq_true (by omega)
      obtain ⟨ad, e, hc⟩ := HR.out.at_ (n : Int) (by omega) (by omega)
      subst e
      rw [Int.toNat_natCast] at hc
      have hcr := pw_cell_below HB.out.hb hc
      go_wp2_with ((with_reducible refine gate_dst (N := 36) rfl ?_); refine Hold.out ?_)
      refine ⟨?_⟩
      refine list_call (v := .agg #[.bool true, .int .i64 (rd words (n : Int))]) rfl rfl (ER.go (by go_simp)) (PMirFuel.ferrulelaw12_num.calls (rd words (n : Int)) true (rd words (n : Int)) wr rfl) ?_
      intro V1 q1
      simp only [List.setIfInBounds_toArray, List.set_cons_zero, List.set_cons_succ]
      have H1 := HB.out.below q1
      refine list_alloc (v := .slice (some ⟨V1.heap.size, 0, none⟩) 1 1) (b := Obj.cells (opc (co (rd words (n : Int)))).toArray 30) rfl rfl ⟨run_bsl rfl Try.underlying38 (by kernel_rfl)⟩ ?_
      intro Z eZ
      simp only [List.setIfInBounds_toArray, List.set_cons_zero, List.set_cons_succ]
      subst eZ
      refine Bun.append H1 rfl rfl (.tmp 31) (.tmp 37) 38 (.agg #[.bool false, .int .i64 0]) 16 rfl Try.underlying38 (by kernel_rfl) rfl (by show 0 < 2; decide) (by decide) (opc (co (rd words (n : Int)))) rfl rfl rfl (by intro u hu; simp [opc] at hu; rcases hu with rfl | rfl <;> rfl) (by show (n + 1) * 16 ≤ _; omega) ?_
      intro A5' c5' V2 H2
      simp only [List.setIfInBounds_toArray, List.set_cons_zero, List.set_cons_succ]
      have hc2 := pw_cell_below H2.hb hc
      clear H1 HB hcr
      go_wp2_with ((with_reducible refine gate_dst (N := 44) rfl ?_); refine Hold.out ?_)
      refine ⟨?_⟩
      refine list_call (v := .int .i64 (w32 (rd words (n : Int)))) rfl rfl (ER.go (by go_simp)) (word_said _ V2) ?_
      intro V3 q3
      simp only [List.setIfInBounds_toArray, List.set_cons_zero, List.set_cons_succ]
      have H3 := (H2.below q3).perm (List.Perm.swap ..)
      refine list_alloc (v := .slice (some ⟨V3.heap.size, 0, none⟩) 1 1) (b := Obj.cells [Value.int .i64 (w32 (rd words (n : Int)))].toArray 3) rfl rfl ⟨run_bsl rfl Try.underlying23 (by kernel_rfl)⟩ ?_
      intro Z eZ
      simp only [List.setIfInBounds_toArray, List.set_cons_zero, List.set_cons_succ]
      subst eZ
      refine Bun.append H3 rfl rfl (.tmp 39) (.tmp 45) 23 (.int .i64 0) 8 rfl Try.underlying23 (by kernel_rfl) rfl (by show 0 < 1; decide) (by decide) [Value.int .i64 (w32 (rd words (n : Int)))] rfl rfl rfl (by intro u hu; simp at hu; subst hu; rfl) (by show (n + 1) * 8 ≤ _; omega) ?_
      intro A6' c6' V4 H4
      simp only [List.setIfInBounds_toArray, List.set_cons_zero, List.set_cons_succ]
      have H5 : Bun w.heap.size w V4 (R0 words (n + 1) A5' c5' A6' c6') [] := by
        have := H4.perm (List.Perm.swap ..)
        unfold R0 rwA rwW
        rw [take_snoc words n hlt.1, List.map_append, List.flatMap_append, List.map_append, nums_append]
        exact this
      clear H2 H3 H4 hc2
      have HB' := Aside0.mk H5
      clear H5
      have hw : wrap64 ((n : Int) + 1) = ((n + 1 : Nat) : Int) := by unfold wrap64; omega
      go_wp2_with fail
      exact ⟨⟨n + 1, A5', c5', A6', c6', rfl, rfl, rfl, by omega, by omega, HB'⟩, by simp [intOf]; omega⟩
    · have hd : decide ((n : Int) < (words.length : Int)) = false := decide_eq_false (by omega)
      by_cases hz : n = 0
      · subst hz
        go_wp2_with fail
        refine (Form.check_ok [] none 0 _ (Kd.C_nil _ _) (Nat.le_refl 0) ⟨by show 0 < 4611686018427387904; decide, fun k h0 h1 => absurd h1 (by show ¬ k < 0; omega)⟩).mono ?_
        rintro e W ⟨rfl, hb⟩
        have hbb := below_then HB.out.hb HB.out.hs hb
        go_wp2_with fail
        go_ret
        exact ⟨rfl, hbb⟩
      have hdz : decide ((n : Int) = 0) = false := decide_eq_false (by omega)
      obtain ⟨hT0, hT1⟩ : 0 ≤ (wrap64 (turn.tmod (n : Int) + (n : Int))).tmod (n : Int) ∧ (wrap64 (turn.tmod (n : Int) + (n : Int))).tmod (n : Int) < (n : Int) := kBounds turn n (by omega) (by omega)
      obtain ⟨t, ht⟩ : ∃ t : Nat, (wrap64 (turn.tmod (n : Int) + (n : Int))).tmod (n : Int) = (t : Int) := ⟨_, (Int.toNat_of_nonneg hT0).symm⟩
      rw [ht] at hT1
      have htn : t < n := by omega
      have ht8 : t < 8 := by omega
      clear hT0 hT1
      go_wp2_with ((with_reducible refine gate_dst (N := 61) rfl ?_); refine Hold.out ?_)
      refine ⟨?_⟩
      try rw [ht]
      rw [show ((n : Int) == 0) = false by simp; omega]
      go_wp2_with ((with_reducible refine gate_dst (N := 62) rfl ?_); refine Hold.out ?_)
      refine ⟨?_⟩
      refine list_alloc (v := .slice (some ⟨wr.heap.size, 0, none⟩) 1 1) (b := Obj.cells [Value.int .i64 ((t + 1 : Nat) : Int)].toArray 3) rfl rfl ⟨run_bsl rfl Try.underlying23 (by kernel_rfl)⟩ ?_
      intro V1 e1
      simp only [List.setIfInBounds_toArray, List.set_cons_zero, List.set_cons_succ]
      have H1 : Bun w.heap.size w V1 (rwF t 0 (some ⟨wr.heap.size, 0, none⟩) 1 :: R0 words n A5 c5 A6 c6) [] := e1 ▸ HB.out.row [Value.int .i64 ((t + 1 : Nat) : Int)] 3 1 1 rfl (by decide)
      clear e1
      generalize wr.heap.size = b1 at *
      refine list_value (v := .int .i64 (n : Int)) rfl rfl ⟨rfl⟩ ?_
      simp only [List.setIfInBounds_toArray, List.set_cons_zero, List.set_cons_succ]
      refine list_value (v := .agg #[.string ⟨#[102]⟩, .slice (some ⟨b1, 0, none⟩) 1 1, .int .i64 1, .int .i64 (n : Int), .bool false, .slice none 0 0]) rfl rfl ⟨run_bld rfl (by kernel_rfl)⟩ ?_
      simp only [List.setIfInBounds_toArray, List.set_cons_zero, List.set_cons_succ]
      refine list_alloc (v := .pointer (some ⟨V1.heap.size, 0, none⟩)) (b := Obj.cells #[.string ⟨#[]⟩, .slice none 0 0, .int .i64 0, .int .i64 0, .bool false, .slice none 0 0] 48) rfl rfl ⟨rfl⟩ ?_
      intro Z eZ
      simp only [List.setIfInBounds_toArray, List.set_cons_zero, List.set_cons_succ]
      subst eZ
      refine list_store (w' := V1.alloc (Obj.cells #[.string ⟨#[102]⟩, .slice (some ⟨b1, 0, none⟩) 1 1, .int .i64 1, .int .i64 (n : Int), .bool false, .slice none 0 0] 48)) rfl rfl ⟨storeN 48 6 (by kernel_rfl) _ _ _ rfl rfl (by first | kernel_rfl | simp [Value.oneCell']) _ _ _ _ rfl rfl rfl⟩ ?_
      have H2 : Bun w.heap.size w (V1.alloc (Obj.cells #[.string ⟨#[102]⟩, .slice (some ⟨b1, 0, none⟩) 1 1, .int .i64 1, .int .i64 (n : Int), .bool false, .slice none 0 0] 48)) (rwF t 0 (some ⟨b1, 0, none⟩) 1 :: R0 words n A5 c5 A6 c6) [bxF V1.heap.size 0 1 n (some ⟨b1, 0, none⟩) 1 (.slice none 0 0)] := H1.new _ 48
      obtain ⟨V2, e2⟩ : ∃ V, V1.alloc (Obj.cells #[.string ⟨#[102]⟩, .slice (some ⟨b1, 0, none⟩) 1 1, .int .i64 1, .int .i64 (n : Int), .bool false, .slice none 0 0] 48) = V := ⟨_, rfl⟩
      rw [e2] at H2 ⊢
      clear e2 H1
      generalize V1.heap.size = bb at *
      have HB2 := Aside0.mk H2
      clear H2 HB
      clear V1
      go_wp2_with fail
      go_loopw [10] (fun v10 wr2 => ∃ (k : Nat) (A : Option Addr) (c : Nat), v10 = .int .i64 ((t + 1 + k : Nat) : Int) ∧ t + 1 + k ≤ n ∧ Aside0 (Bun w.heap.size w wr2 (rwF t k A c :: R0 words n A5 c5 A6 c6) [bxF bb k (1 + k) n A c (.slice none 0 0)])) (fun v10 _ => n - (intOf v10).toNat)
      case atStart => exact ⟨0, _, _, rfl, by omega, HB2⟩
      case round =>
        clear HB2
        obtain ⟨k, A, c, rfl, hk, HB⟩ := hrel
        have x := HB.out.box _ (List.mem_cons_self ..)
        have y1 : wr.cell? ⟨bb, 1, none⟩ = some (.slice A (k + 1) c) := x.cell 1
        clear x
        by_cases hkn : t + 1 + k < n
        · have hd : decide (((t + 1 + k : Nat) : Int) < (n : Int)) = true := decide_eq_true (by omega)
          go_wp2_with ((with_reducible refine gate_dst (N := 74) rfl ?_); refine Hold.out ?_)
          refine ⟨?_⟩
          refine list_alloc (v := .slice (some ⟨wr.heap.size, 0, none⟩) 1 1) (b := Obj.cells [Value.int .i64 1].toArray 3) rfl rfl ⟨run_bsl rfl Try.underlying23 (by kernel_rfl)⟩ ?_
          intro Z eZ
          simp only [List.setIfInBounds_toArray, List.set_cons_zero, List.set_cons_succ]
          subst eZ
          refine Bun.append HB.out rfl rfl (.tmp 73) (.tmp 74) 23 (.int .i64 0) 8 rfl Try.underlying23 (by kernel_rfl) rfl (by show 0 < 1; decide) (by decide) [Value.int .i64 1] rfl rfl rfl (by intro u hu; simp at hu; subst hu; rfl) (by show (k + 1 + 1) * 8 ≤ _; omega) ?_
          intro A' c' V2 H2
          simp only [List.setIfInBounds_toArray, List.set_cons_zero, List.set_cons_succ]
          dsimp only [rwF]
          have x2 := H2.box _ (List.mem_cons_self ..)
          have f1 : V2.frozen? ⟨bb, 1, none⟩ = false := x2.frozen 1
          clear y1
          have y1 : V2.cell? ⟨bb, 1, none⟩ = some (.slice A (k + 1) c) := x2.cell 1
          clear x2
          go_wp2_with ((with_reducible refine gate_dst (N := 78) rfl ?_); refine Hold.out ?_)
          refine ⟨?_⟩
          have H3 : Bun w.heap.size w (V2.setCell ⟨bb, 1, none⟩ (.slice A' (k + 1 + 1) c')) (rwF t (k + 1) A' c' :: R0 words n A5 c5 A6 c6) [bxF bb (k + 1) (1 + k) n A' c' (.slice none 0 0)] := by
            have := H2.set0 1 (.slice A' (k + 1 + 1) c')
            unfold rwF at this ⊢
            rw [locF_snoc, nums_append]
            exact this
          obtain ⟨V3, e3⟩ : ∃ V, V2.setCell ⟨bb, 1, none⟩ (.slice A' (k + 1 + 1) c') = V := ⟨_, rfl⟩
          rw [e3] at H3 ⊢
          clear e3 H2 HB f1 y1
          have x3 := H3.box _ (List.mem_cons_self ..)
          have y2 : V3.cell? ⟨bb, 2, none⟩ = some (.int .i64 ((1 + k : Nat) : Int)) := x3.cell 2
          have f2 : V3.frozen? ⟨bb, 2, none⟩ = false := x3.frozen 2
          have H4 : Bun w.heap.size w (V3.setCell ⟨bb, 2, none⟩ (.int .i64 ((1 + (k + 1) : Nat) : Int))) (rwF t (k + 1) A' c' :: R0 words n A5 c5 A6 c6) [bxF bb (k + 1) (1 + (k + 1)) n A' c' (.slice none 0 0)] := H3.set0 2 _
          have HB4 := Aside0.mk H4
          clear x3 H3 H4
          go_wp2_with fail
          exact ⟨⟨k + 1, A', c', rfl, by omega, HB4⟩, by simp [intOf]; omega⟩
        · have hd : decide (((t + 1 + k : Nat) : Int) < (n : Int)) = false := decide_eq_false (by omega)
          have hkn' : n - 1 - t = k := by omega
          have hnt : n - t = k + 1 := by omega
          clear y1
          go_wp2_with fail
          have HB3 := Aside0.mk (((HB.out.none_ 30 2).none_ 40 18).perm (perm2 _ _ _ _))
          clear HB
          go_loopw [11, 12, 13] (fun v11 v12 v13 wr2 => ∃ (ads : List Nat) (A : Option Addr) (c : Nat) (AL : Option Addr) (cL : Nat) (AO : Option Addr) (cO : Nat), v11 = .slice AL ads.length cL ∧ v12 = .slice AO ads.length cO ∧ v13 = .int .i64 (ads.length : Int) ∧ ads.length ≤ t + 1 ∧ Aside0 (Bun w.heap.size w wr2 (rwF t (k + ads.length) A c :: rwL n t ads AL cL :: rwO n t ads.length 0 AO cO :: rwA words n A5 c5 :: rwW words n A6 c6 :: stepRows ads) [bxF bb (k + ads.length) (1 + k) n A c (.slice none 0 0)])) (fun _ _ v13 _ => 9 - (intOf v13).toNat)
          case atStart => exact ⟨[], A, c, none, 0, none, 0, rfl, rfl, rfl, Nat.zero_le _, HB3⟩
          case round =>
            clear HB3
            clear A c
            obtain ⟨ads, A, c, AL, cL, AO, cO, rfl, rfl, rfl, hat, HB⟩ := hrel
            have x := HB.out.box _ (List.mem_cons_self ..)
            have y1 : wr.cell? ⟨bb, 1, none⟩ = some (.slice A (k + ads.length + 1) c) := x.cell 1
            clear x
            by_cases hit : ads.length ≤ t
            · have hd4 : decide ((ads.length : Int) ≤ (t : Int)) = true := decide_eq_true (by omega)
              go_wp2_with ((with_reducible refine gate_dst (N := 88) rfl ?_); refine Hold.out ?_)
              refine ⟨?_⟩
              refine list_alloc (v := .slice (some ⟨wr.heap.size, 0, none⟩) 1 1) (b := Obj.cells [Value.int .i64 1].toArray 3) rfl rfl ⟨run_bsl rfl Try.underlying23 (by kernel_rfl)⟩ ?_
              intro Z eZ
              simp only [List.setIfInBounds_toArray, List.set_cons_zero, List.set_cons_succ]
              subst eZ
              refine Bun.append HB.out rfl rfl (.tmp 87) (.tmp 88) 23 (.int .i64 0) 8 rfl Try.underlying23 (by kernel_rfl) rfl (by show 0 < 1; decide) (by decide) [Value.int .i64 1] rfl rfl rfl (by intro u hu; simp at hu; subst hu; rfl) (by show (k + ads.length + 1 + 1) * 8 ≤ _; omega) ?_
              intro A' c' V2 H2
              simp only [List.setIfInBounds_toArray, List.set_cons_zero, List.set_cons_succ]
              dsimp only [rwF]
              have x2 := H2.box _ (List.mem_cons_self ..)
              have f1 : V2.frozen? ⟨bb, 1, none⟩ = false := x2.frozen 1
              clear y1
              have y1 : V2.cell? ⟨bb, 1, none⟩ = some (.slice A (k + ads.length + 1) c) := x2.cell 1
              clear x2
              go_wp2_with ((with_reducible refine gate_dst (N := 93) rfl ?_); refine Hold.out ?_)
              refine ⟨?_⟩
              have H3 : Bun w.heap.size w (V2.setCell ⟨bb, 1, none⟩ (.slice A' (k + ads.length + 1 + 1) c')) (rwF t (k + ads.length + 1) A' c' :: rwL n t ads AL cL :: rwO n t ads.length 0 AO cO :: rwA words n A5 c5 :: rwW words n A6 c6 :: stepRows ads) [bxF bb (k + ads.length + 1) (1 + k) n A' c' (.slice none 0 0)] := by
                have := H2.set0 1 (.slice A' (k + ads.length + 1 + 1) c')
                unfold rwF at this ⊢
                rw [locF_snoc, nums_append]
                exact this
              obtain ⟨V3, e3⟩ : ∃ V, V2.setCell ⟨bb, 1, none⟩ (.slice A' (k + ads.length + 1 + 1) c') = V := ⟨_, rfl⟩
              rw [e3] at H3 ⊢
              clear e3 H2 HB f1 y1
              have x3 := H3.box _ (List.mem_cons_self ..)
              have y1 : V3.cell? ⟨bb, 1, none⟩ = some (.slice A' (k + ads.length + 1 + 1) c') := x3.cell 1
              clear x3
              go_wp2_with ((with_reducible refine gate_dst (N := 97) rfl ?_); refine Hold.out ?_)
              refine ⟨?_⟩
              rw [show (k : Int) + (ads.length : Int) + 1 = ((n - t + ads.length : Nat) : Int) by omega]
              refine list_value (v := .agg #[.int .i64 1, .int .i64 (ads.length : Int), .int .i64 0]) rfl rfl ⟨run_bld rfl (by kernel_rfl)⟩ ?_
              simp only [List.setIfInBounds_toArray, List.set_cons_zero, List.set_cons_succ]
              refine list_alloc (v := .slice (some ⟨V3.heap.size, 0, none⟩) 1 1) (b := Obj.cells [Value.int .i64 1, .int .i64 (ads.length : Int), .int .i64 0].toArray 57) rfl rfl ⟨run_bsl rfl Try.underlying32 (by kernel_rfl)⟩ ?_
              intro V4 e4
              simp only [List.setIfInBounds_toArray, List.set_cons_zero, List.set_cons_succ]
              have H4 : Bun w.heap.size w V4 (stepRow V3.heap.size ads.length :: rwF t (k + ads.length + 1) A' c' :: rwL n t ads AL cL :: rwO n t ads.length 0 AO cO :: rwA words n A5 c5 :: rwW words n A6 c6 :: stepRows ads) [bxF bb (k + ads.length + 1) (1 + k) n A' c' (.slice none 0 0)] := e4 ▸ H3.row [Value.int .i64 1, .int .i64 (ads.length : Int), .int .i64 0] 57 1 3 rfl (by decide)
              clear e4 H3 y1
              generalize V3.heap.size = sa at *
              have H5 := (H4.perm (perm5 _ _ _ _ _ _ _)).perm (List.Perm.swap ..)
              clear H4
              refine list_value (v := .agg #[.int .i64 0, .slice (some ⟨sa, 0, none⟩) 1 1]) rfl rfl ⟨run_bld rfl (by kernel_rfl)⟩ ?_
              simp only [List.setIfInBounds_toArray, List.set_cons_zero, List.set_cons_succ]
              refine list_value (v := .agg (encI (some ⟨sa, 0, none⟩) (ld n t ads.length)).toArray) rfl rfl ⟨run_bld rfl (by kernel_rfl)⟩ ?_
              simp only [List.setIfInBounds_toArray, List.set_cons_zero, List.set_cons_succ]
              refine list_alloc (v := .slice (some ⟨V4.heap.size, 0, none⟩) 1 1) (b := Obj.cells (encI (some ⟨sa, 0, none⟩) (ld n t ads.length)).toArray 40) rfl rfl ⟨run_bsl rfl Try.underlying41 (by kernel_rfl)⟩ ?_
              intro Z eZ
              simp only [List.setIfInBounds_toArray, List.set_cons_zero, List.set_cons_succ]
              subst eZ
              refine Bun.append H5 rfl rfl (.tmp 91) (.tmp 101) 41 (.agg #[.int .i64 0, .int .i64 0, .bool false, .int .i64 0, .bool false, .int .i64 0, .int .i64 0, .slice none 0 0, .int .i64 0, .slice none 0 0, .int .i64 0, .string ⟨#[]⟩, .int .i64 0, .string ⟨#[]⟩, .int .i64 0, .slice none 0 0, .slice none 0 0, .slice none 0 0]) 240 rfl Try.underlying41 (by kernel_rfl) rfl (by show 0 < 18; decide) (by decide) (encI (some ⟨sa, 0, none⟩) (ld n t ads.length)) rfl rfl rfl (encI_one _ _) (by show (ads.length + 1) * 240 ≤ _; omega) ?_
              intro AL' cL' V5 H6
              simp only [List.setIfInBounds_toArray, List.set_cons_zero, List.set_cons_succ]
              dsimp only [rwL]
              have H7 := H6.perm (List.Perm.swap ..)
              clear H5 H6
              have x5 := H7.box _ (List.mem_cons_self ..)
              have y1 : V5.cell? ⟨bb, 1, none⟩ = some (.slice A' (k + ads.length + 1 + 1) c') := x5.cell 1
              clear x5
              go_wp2_with ((with_reducible refine gate_dst (N := 108) rfl ?_); refine Hold.out ?_)
              refine ⟨?_⟩
              rw [show (k : Int) + (ads.length : Int) + 1 = ((n - t + ads.length : Nat) : Int) by omega]
              refine list_call (v := .agg #[.bool false, .int .i64 ((n - t + ads.length : Nat) : Int)]) rfl rfl (ER.go (by go_simp)) (PMirFuel.ferrulelaw12_local.calls ((n - t + ads.length : Nat) : Int) false ((n - t + ads.length : Nat) : Int) V5 rfl) ?_
              intro V6 q6
              simp only [List.setIfInBounds_toArray, List.set_cons_zero, List.set_cons_succ]
              have H8 := (H7.below q6).perm (perm2 _ _ _ _)
              clear H7 y1
              refine list_alloc (v := .slice (some ⟨V6.heap.size, 0, none⟩) 1 1) (b := Obj.cells (opc (lo (n - t + ads.length))).toArray 30) rfl rfl ⟨run_bsl rfl Try.underlying38 (by kernel_rfl)⟩ ?_
              intro Z eZ
              simp only [List.setIfInBounds_toArray, List.set_cons_zero, List.set_cons_succ]
              subst eZ
              refine Bun.append H8 rfl rfl (.tmp 103) (.tmp 109) 38 (.agg #[.bool false, .int .i64 0]) 16 rfl Try.underlying38 (by kernel_rfl) rfl (by show 0 < 2; decide) (by decide) (opc (lo (n - t + ads.length))) rfl rfl rfl (opc_one _) (by show (ads.length + 0 + 1) * 16 ≤ _; omega) ?_
              intro AO' cO' V7 H9
              simp only [List.setIfInBounds_toArray, List.set_cons_zero, List.set_cons_succ]
              dsimp only [rwO]
              have H10 : Bun w.heap.size w V7 (rwF t (k + (sa :: ads).length) A' c' :: rwL n t (sa :: ads) AL' cL' :: rwO n t (sa :: ads).length 0 AO' cO' :: rwA words n A5 c5 :: rwW words n A6 c6 :: stepRows (sa :: ads)) [bxF bb (k + (sa :: ads).length) (1 + k) n A' c' (.slice none 0 0)] := by
                have := H9.perm (perm2 _ _ _ _).symm
                unfold rwO at this ⊢
                rw [show outA n t (sa :: ads).length ++ outB 0 = (outA n t ads.length ++ outB 0) ++ [lo (n - t + ads.length)] by show outA n t (ads.length + 1) ++ [] = (outA n t ads.length ++ []) ++ _; rw [outA_snoc, List.append_nil, List.append_nil], List.flatMap_append]
                exact this
              have HB10 := Aside0.mk H10
              clear H8 H9 H10 q6
              go_wp2_with fail
              exact ⟨⟨sa :: ads, A', c', AL', cL', AO', cO', rfl, rfl, rfl, by show ads.length + 1 ≤ t + 1; omega, HB10⟩, by simp [intOf]; omega⟩
            · have hd4 : decide ((ads.length : Int) ≤ (t : Int)) = false := decide_eq_false (by omega)
              have hal : ads.length = t + 1 := by omega
              clear y1
              go_wp2_with fail
              have HB5 := HB.out
              clear HB
              rw [hal] at HB5 ⊢
              have HB6 := Aside0.mk HB5
              clear HB5 hd4 hit hat
              have HAL := Aside0.mk hal
              clear hal
              go_loopw [12, 14] (fun v12 v14 wr2 => ∃ (j : Nat) (AO : Option Addr) (cO : Nat), v12 = .slice AO (t + 1 + j) cO ∧ v14 = .int .i64 ((t + 1 + j : Nat) : Int) ∧ t + 1 + j ≤ n ∧ Aside0 (Bun w.heap.size w wr2 (rwF t (k + (t + 1)) A c :: rwL n t ads AL cL :: rwO n t (t + 1) j AO cO :: rwA words n A5 c5 :: rwW words n A6 c6 :: stepRows ads) [bxF bb (k + (t + 1)) (1 + k) n A c (.slice none 0 0)])) (fun _ v14 _ => n - (intOf v14).toNat)
              case atStart => exact ⟨0, AO, cO, rfl, rfl, by omega, HB6⟩
              case round =>
                clear HB6
                obtain ⟨j, AQ, cQ, rfl, rfl, hj, HB⟩ := hrel
                by_cases hjn : t + 1 + j < n
                · have hd6 : decide (((t + 1 + j : Nat) : Int) < (n : Int)) = true := decide_eq_true (by omega)
                  go_wp2_with ((with_reducible refine gate_dst (N := 122) rfl ?_); refine Hold.out ?_)
                  refine ⟨?_⟩
                  rw [show (t : Int) + 1 + (j : Int) - (t : Int) = ((j + 1 : Nat) : Int) by omega]
                  refine list_call (v := .agg #[.bool false, .int .i64 ((j + 1 : Nat) : Int)]) rfl rfl (ER.go (by go_simp)) (PMirFuel.ferrulelaw12_local.calls ((j + 1 : Nat) : Int) false ((j + 1 : Nat) : Int) wr rfl) ?_
                  intro V6 q6
                  simp only [List.setIfInBounds_toArray, List.set_cons_zero, List.set_cons_succ]
                  have H8 := (HB.out.below q6).perm (perm2 _ _ _ _)
                  clear HB
                  refine list_alloc (v := .slice (some ⟨V6.heap.size, 0, none⟩) 1 1) (b := Obj.cells (opc (lo (j + 1))).toArray 30) rfl rfl ⟨run_bsl rfl Try.underlying38 (by kernel_rfl)⟩ ?_
                  intro Z eZ
                  simp only [List.setIfInBounds_toArray, List.set_cons_zero, List.set_cons_succ]
                  subst eZ
                  refine Bun.append H8 rfl rfl (.tmp 118) (.tmp 123) 38 (.agg #[.bool false, .int .i64 0]) 16 rfl Try.underlying38 (by kernel_rfl) rfl (by show 0 < 2; decide) (by decide) (opc (lo (j + 1))) rfl rfl rfl (opc_one _) (by show (t + 1 + j + 1) * 16 ≤ _; omega) ?_
                  intro AO' cO' V7 H9
                  simp only [List.setIfInBounds_toArray, List.set_cons_zero, List.set_cons_succ]
                  dsimp only [rwO]
                  have H10 : Bun w.heap.size w V7 (rwF t (k + (t + 1)) A c :: rwL n t ads AL cL :: rwO n t (t + 1) (j + 1) AO' cO' :: rwA words n A5 c5 :: rwW words n A6 c6 :: stepRows ads) [bxF bb (k + (t + 1)) (1 + k) n A c (.slice none 0 0)] := by
                    have := H9.perm (perm2 _ _ _ _).symm
                    unfold rwO at this ⊢
                    rw [show outA n t (t + 1) ++ outB (j + 1) = (outA n t (t + 1) ++ outB j) ++ [lo (j + 1)] by rw [outB_snoc, List.append_assoc], List.flatMap_append]
                    exact this
                  have HB10 := Aside0.mk H10
                  clear H8 H9 H10 q6
                  go_wp2_with fail
                  exact ⟨⟨j + 1, AO', cO', rfl, rfl, by omega, HB10⟩, by simp [intOf]; omega⟩
                · have hd6 : decide (((t + 1 + j : Nat) : Int) < (n : Int)) = false := decide_eq_false (by omega)
                  obtain rfl : j = k := by omega
                  go_wp2_with ((with_reducible refine gate_dst (N := 127) rfl ?_); refine Hold.out ?_)
                  refine ⟨?_⟩
                  refine list_value (v := .agg #[.int .i64 3, .bool false, .int .i64 0, .int .i64 0, .int .i64 0, .slice AQ (t + 1 + j) cQ]) rfl rfl ⟨run_bld rfl (by kernel_rfl)⟩ ?_
                  simp only [List.setIfInBounds_toArray, List.set_cons_zero, List.set_cons_succ]
                  refine list_value (v := .agg #[.slice AL (t + 1) cL, .int .i64 3, .bool false, .int .i64 0, .int .i64 0, .int .i64 0, .slice AQ (t + 1 + j) cQ]) rfl rfl ⟨run_bld rfl (by kernel_rfl)⟩ ?_
                  simp only [List.setIfInBounds_toArray, List.set_cons_zero, List.set_cons_succ]
                  refine list_alloc (v := .slice (some ⟨wr.heap.size, 0, none⟩) 1 1) (b := Obj.cells [Value.slice AL (t + 1) cL, .int .i64 3, .bool false, .int .i64 0, .int .i64 0, .int .i64 0, .slice AQ (t + 1 + j) cQ].toArray 45) rfl rfl ⟨run_bsl rfl Try.underlying46 (by kernel_rfl)⟩ ?_
                  intro V1 e1
                  simp only [List.setIfInBounds_toArray, List.set_cons_zero, List.set_cons_succ]
                  have H1 := HB.out.row [Value.slice AL (t + 1) cL, .int .i64 3, .bool false, .int .i64 0, .int .i64 0, .int .i64 0, .slice AQ (t + 1 + j) cQ] 45 1 7 rfl (by decide)
                  rw [e1] at H1
                  clear e1 HB
                  generalize wr.heap.size = bs at *
                  have x1 := H1.box _ (List.mem_cons_self ..)
                  have y5 : V1.cell? ⟨bb, 5, none⟩ = some (.slice none 0 0) := x1.cell 5
                  have f5 : V1.frozen? ⟨bb, 5, none⟩ = false := x1.frozen 5
                  clear x1
                  go_wp2_with ((with_reducible refine gate_dst (N := 131) rfl ?_); refine Hold.out ?_)
                  refine ⟨?_⟩
                  have H2 := H1.set0 5 (.slice (some ⟨bs, 0, none⟩) 1 1)
                  have H3 : Bun w.heap.size w (V1.setCell ⟨bb, 5, none⟩ (.slice (some ⟨bs, 0, none⟩) 1 1)) (⟨.slice (some ⟨bs, 0, none⟩) 1 1, 45, 1, 7, [Value.slice AL (t + 1) cL, .int .i64 3, .bool false, .int .i64 0, .int .i64 0, .int .i64 0, .slice AQ (t + 1 + j) cQ]⟩ :: rwF t (j + (t + 1)) A c :: rwL n t ads AL cL :: rwO n t (t + 1) j AQ cQ :: rwA words n A5 c5 :: rwW words n A6 c6 :: stepRows ads) [bxF bb (j + (t + 1)) (1 + j) n A c (.slice (some ⟨bs, 0, none⟩) 1 1)] := H2
                  obtain ⟨V2, e2⟩ : ∃ V, V1.setCell ⟨bb, 5, none⟩ (.slice (some ⟨bs, 0, none⟩) 1 1) = V := ⟨_, rfl⟩
                  rw [e2] at H3 ⊢
                  clear e2 H1 H2 y5 f5
                  obtain ⟨RR, hRR⟩ : ∃ RR, (⟨.slice (some ⟨bs, 0, none⟩) 1 1, 45, 1, 7, [Value.slice AL (t + 1) cL, .int .i64 3, .bool false, .int .i64 0, .int .i64 0, .int .i64 0, .slice AQ (t + 1 + j) cQ]⟩ :: rwF t (j + (t + 1)) A c :: rwL n t ads AL cL :: rwO n t (t + 1) j AQ cQ :: rwA words n A5 c5 :: rwW words n A6 c6 :: stepRows ads) = RR := ⟨_, rfl⟩
                  rw [hRR] at H3
                  have HRR := Aside0.mk hRR
                  clear hRR
                  obtain ⟨BF, hBF⟩ : ∃ BF, bxF bb (j + (t + 1)) (1 + j) n A c (.slice (some ⟨bs, 0, none⟩) 1 1) = BF := ⟨_, rfl⟩
                  rw [hBF] at H3
                  have HBF := Aside0.mk hBF
                  clear hBF
                  refine list_value (v := .agg #[.string ⟨#[109, 97, 105, 110]⟩, .slice none 0 0, .int .i64 0, .int .i64 0, .bool false, .slice none 0 0]) rfl rfl ⟨run_bld rfl (by kernel_rfl)⟩ ?_
                  simp only [List.setIfInBounds_toArray, List.set_cons_zero, List.set_cons_succ]
                  refine list_alloc (v := .pointer (some ⟨V2.heap.size, 0, none⟩)) (b := Obj.cells #[.string ⟨#[]⟩, .slice none 0 0, .int .i64 0, .int .i64 0, .bool false, .slice none 0 0] 48) rfl rfl ⟨rfl⟩ ?_
                  intro Z eZ
                  simp only [List.setIfInBounds_toArray, List.set_cons_zero, List.set_cons_succ]
                  subst eZ
                  refine list_store (w' := V2.alloc (Obj.cells #[.string ⟨#[109, 97, 105, 110]⟩, .slice none 0 0, .int .i64 0, .int .i64 0, .bool false, .slice none 0 0] 48)) rfl rfl ⟨storeN 48 6 (by kernel_rfl) _ _ _ rfl rfl (by first | kernel_rfl | simp [Value.oneCell']) _ _ _ _ rfl rfl rfl⟩ ?_
                  have H4 : Bun w.heap.size w (V2.alloc (Obj.cells #[.string ⟨#[109, 97, 105, 110]⟩, .slice none 0 0, .int .i64 0, .int .i64 0, .bool false, .slice none 0 0] 48)) RR [bxM V2.heap.size 0 none 0 (.slice none 0 0), BF] := H3.new _ 48
                  obtain ⟨V3, e3⟩ : ∃ V, V2.alloc (Obj.cells #[.string ⟨#[109, 97, 105, 110]⟩, .slice none 0 0, .int .i64 0, .int .i64 0, .bool false, .slice none 0 0] 48) = V := ⟨_, rfl⟩
                  rw [e3] at H4 ⊢
                  clear e3 H3
                  generalize V2.heap.size = bm at *
                  go_wp2_with ((with_reducible refine gate_dst (N := 133) rfl ?_); refine Hold.out ?_)
                  refine ⟨?_⟩
                  refine list_value (v := .agg (callC n A5 c5 (.slice none 0 0)).toArray) rfl rfl ⟨run_bld rfl (by kernel_rfl)⟩ ?_
                  simp only [List.setIfInBounds_toArray, List.set_cons_zero, List.set_cons_succ]
                  refine list_alloc (v := .pointer (some ⟨V3.heap.size, 0, none⟩)) (b := Obj.cells #[.int .i64 0, .int .i64 0, .bool false, .int .i64 0, .bool false, .int .i64 0, .int .i64 0, .slice none 0 0, .int .i64 0, .slice none 0 0, .int .i64 0, .string ⟨#[]⟩, .int .i64 0, .string ⟨#[]⟩, .int .i64 0, .slice none 0 0, .slice none 0 0, .slice none 0 0] 40) rfl rfl ⟨rfl⟩ ?_
                  intro Z eZ
                  simp only [List.setIfInBounds_toArray, List.set_cons_zero, List.set_cons_succ]
                  subst eZ
                  refine list_store (w' := V3.alloc (Obj.cells (callC n A5 c5 (.slice none 0 0)).toArray 40)) rfl rfl ⟨storeN 40 18 (by kernel_rfl) _ _ _ rfl rfl (by first | kernel_rfl | simp [Value.oneCell']) _ _ _ _ rfl rfl rfl⟩ ?_
                  have H5 : Bun w.heap.size w (V3.alloc (Obj.cells (callC n A5 c5 (.slice none 0 0)).toArray 40)) RR [bxC V3.heap.size n A5 c5 0 none 0, bxM bm 0 none 0 (.slice none 0 0), BF] := H4.new _ 40
                  obtain ⟨V4, e4⟩ : ∃ V, V3.alloc (Obj.cells (callC n A5 c5 (.slice none 0 0)).toArray 40) = V := ⟨_, rfl⟩
                  rw [e4] at H5 ⊢
                  clear e4 H4
                  generalize V3.heap.size = bc at *
                  have H6 := (((H5.permB (List.Perm.swap ..)).none_ 40 18).none_ 3 1).none_ 3 1
                  have HB7 := Aside0.mk H6
                  clear H5 H6
                  go_wp2_with fail
                  go_loopw [17, 18] (fun v17 v18 wr2 => ∃ (i : Nat) (AM : Option Addr) (cM : Nat) (AD : Option Addr) (cD : Nat) (AP : Option Addr) (cP : Nat), v17 = .slice AP i cP ∧ v18 = .int .i64 (i : Int) ∧ i ≤ n ∧ Aside0 (Bun w.heap.size w wr2 (rwM i AM cM :: rwD i AD cD :: rwP i AP cP :: RR) [bxM bm i AM cM (.slice none 0 0), bxC bc n A5 c5 i AD cD, BF])) (fun _ v18 _ => n - (intOf v18).toNat)
                  case atStart => exact ⟨0, none, 0, none, 0, none, 0, rfl, rfl, Nat.zero_le _, HB7⟩
                  case round =>
                    clear HB7
                    obtain ⟨i, AM, cM, AD, cD, AP, cP, rfl, rfl, hin, HB⟩ := hrel
                    by_cases hit : i < n
                    · have hd8 : decide ((i : Int) < (n : Int)) = true := decide_eq_true (by omega)
                      have x := HB.out.box _ (List.mem_cons_self ..)
                      have y1 : wr.cell? ⟨bm, 1, none⟩ = some (.slice AM i cM) := x.cell 1
                      clear x
                      go_wp2_with ((with_reducible refine gate_dst (N := 141) rfl ?_); refine Hold.out ?_)
                      refine ⟨?_⟩
                      refine list_alloc (v := .slice (some ⟨wr.heap.size, 0, none⟩) 1 1) (b := Obj.cells [Value.int .i64 1].toArray 3) rfl rfl ⟨run_bsl rfl Try.underlying23 (by kernel_rfl)⟩ ?_
                      intro Z eZ
                      simp only [List.setIfInBounds_toArray, List.set_cons_zero, List.set_cons_succ]
                      subst eZ
                      refine Bun.append HB.out rfl rfl (.tmp 140) (.tmp 141) 23 (.int .i64 0) 8 rfl Try.underlying23 (by kernel_rfl) rfl (by show 0 < 1; decide) (by decide) [Value.int .i64 1] rfl rfl rfl (by intro u hu; simp at hu; subst hu; rfl) (by show (i + 1) * 8 ≤ _; omega) ?_
                      intro AM' cM' V2 H2
                      simp only [List.setIfInBounds_toArray, List.set_cons_zero, List.set_cons_succ]
                      dsimp only [rwM]
                      have x2 := H2.box _ (List.mem_cons_self ..)
                      have f1 : V2.frozen? ⟨bm, 1, none⟩ = false := x2.frozen 1
                      clear y1
                      have y1 : V2.cell? ⟨bm, 1, none⟩ = some (.slice AM i cM) := x2.cell 1
                      clear x2
                      go_wp2_with ((with_reducible refine gate_dst (N := 145) rfl ?_); refine Hold.out ?_)
                      refine ⟨?_⟩
                      have H3 : Bun w.heap.size w (V2.setCell ⟨bm, 1, none⟩ (.slice AM' (i + 1) cM')) (rwM (i + 1) AM' cM' :: rwD i AD cD :: rwP i AP cP :: RR) [bxM bm (i + 1) AM' cM' (.slice none 0 0), bxC bc n A5 c5 i AD cD, BF] := by
                        have := H2.set0 1 (.slice AM' (i + 1) cM')
                        unfold rwM at this ⊢
                        rw [List.replicate_succ', nums_append]
                        exact this
                      obtain ⟨V3, e3⟩ : ∃ V, V2.setCell ⟨bm, 1, none⟩ (.slice AM' (i + 1) cM') = V := ⟨_, rfl⟩
                      rw [e3] at H3 ⊢
                      clear e3 H2 HB f1 y1
                      have H4 := (H3.permB (List.Perm.swap ..)).perm (List.Perm.swap ..)
                      clear H3
                      have x3 := H4.box _ (List.mem_cons_self ..)
                      have y10 : V3.cell? ⟨bc, 17, none⟩ = some (.slice AD i cD) := x3.cell 17
                      clear x3
                      go_wp2_with ((with_reducible refine gate_dst (N := 147) rfl ?_); refine Hold.out ?_)
                      refine ⟨?_⟩
                      refine list_alloc (v := .slice (some ⟨V3.heap.size, 0, none⟩) 1 1) (b := Obj.cells [Value.int .i64 (i : Int)].toArray 3) rfl rfl ⟨run_bsl rfl Try.underlying23 (by kernel_rfl)⟩ ?_
                      intro Z eZ
                      simp only [List.setIfInBounds_toArray, List.set_cons_zero, List.set_cons_succ]
                      subst eZ
                      refine Bun.append H4 rfl rfl (.tmp 145) (.tmp 147) 23 (.int .i64 0) 8 rfl Try.underlying23 (by kernel_rfl) rfl (by show 0 < 1; decide) (by decide) [Value.int .i64 (i : Int)] rfl rfl rfl (by intro u hu; simp at hu; subst hu; rfl) (by show (i + 1) * 8 ≤ _; omega) ?_
                      intro AD' cD' V4 H5
                      simp only [List.setIfInBounds_toArray, List.set_cons_zero, List.set_cons_succ]
                      dsimp only [rwD]
                      have x4 := H5.box _ (List.mem_cons_self ..)
                      have f17 : V4.frozen? ⟨bc, 17, none⟩ = false := x4.frozen 17
                      clear y10
                      have y10 : V4.cell? ⟨bc, 17, none⟩ = some (.slice AD i cD) := x4.cell 17
                      clear x4 H4
                      go_wp2_with ((with_reducible refine gate_dst (N := 152) rfl ?_); refine Hold.out ?_)
                      refine ⟨?_⟩
                      have H6 : Bun w.heap.size w (V4.setCell ⟨bc, 17, none⟩ (.slice AD' (i + 1) cD')) (rwD (i + 1) AD' cD' :: rwM (i + 1) AM' cM' :: rwP i AP cP :: RR) [bxC bc n A5 c5 (i + 1) AD' cD', bxM bm (i + 1) AM' cM' (.slice none 0 0), BF] := by
                        have := H5.set0 17 (.slice AD' (i + 1) cD')
                        unfold rwD at this ⊢
                        rw [dsts_snoc, nums_append]
                        exact this
                      obtain ⟨V5, e5⟩ : ∃ V, V4.setCell ⟨bc, 17, none⟩ (.slice AD' (i + 1) cD') = V := ⟨_, rfl⟩
                      rw [e5] at H6 ⊢
                      clear e5 H5 f17 y10
                      refine list_call (v := .agg #[.bool false, .int .i64 (i : Int)]) rfl rfl (ER.go (by go_simp)) (PMirFuel.ferrulelaw12_local.calls (i : Int) false (i : Int) V5 rfl) ?_
                      intro V6 q6
                      simp only [List.setIfInBounds_toArray, List.set_cons_zero, List.set_cons_succ]
                      have H7 := ((H6.below q6).perm (List.Perm.swap ..)).perm (perm2 _ _ _ _)
                      clear H6
                      refine list_value (v := .agg (encI none (pr i)).toArray) rfl rfl ⟨run_bld rfl (by kernel_rfl)⟩ ?_
                      simp only [List.setIfInBounds_toArray, List.set_cons_zero, List.set_cons_succ]
                      refine list_alloc (v := .slice (some ⟨V6.heap.size, 0, none⟩) 1 1) (b := Obj.cells (encI none (pr i)).toArray 40) rfl rfl ⟨run_bsl rfl Try.underlying41 (by kernel_rfl)⟩ ?_
                      intro Z eZ
                      simp only [List.setIfInBounds_toArray, List.set_cons_zero, List.set_cons_succ]
                      subst eZ
                      refine Bun.append H7 rfl rfl (.tmp 150) (.tmp 154) 41 (.agg #[.int .i64 0, .int .i64 0, .bool false, .int .i64 0, .bool false, .int .i64 0, .int .i64 0, .slice none 0 0, .int .i64 0, .slice none 0 0, .int .i64 0, .string ⟨#[]⟩, .int .i64 0, .string ⟨#[]⟩, .int .i64 0, .slice none 0 0, .slice none 0 0, .slice none 0 0]) 240 rfl Try.underlying41 (by kernel_rfl) rfl (by show 0 < 18; decide) (by decide) (encI none (pr i)) rfl rfl rfl (encI_one _ _) (by show (i + 1) * 240 ≤ _; omega) ?_
                      intro AP' cP' V7 H8
                      simp only [List.setIfInBounds_toArray, List.set_cons_zero, List.set_cons_succ]
                      dsimp only [rwP]
                      have H9 : Bun w.heap.size w V7 (rwM (i + 1) AM' cM' :: rwD (i + 1) AD' cD' :: rwP (i + 1) AP' cP' :: RR) [bxM bm (i + 1) AM' cM' (.slice none 0 0), bxC bc n A5 c5 (i + 1) AD' cD', BF] := by
                        have := (H8.perm (perm2 _ _ _ _).symm).permB (List.Perm.swap ..)
                        unfold rwP at this ⊢
                        rw [prints_snoc, List.flatMap_append]
                        exact this
                      have HB9 := Aside0.mk H9
                      clear H7 H8 H9 q6
                      go_wp2_with fail
                      exact ⟨⟨i + 1, AM', cM', AD', cD', AP', cP', rfl, rfl, by omega, HB9⟩, by simp [intOf]; omega⟩
                    · have hd8 : decide ((i : Int) < (n : Int)) = false := decide_eq_false (by omega)
                      obtain rfl : i = n := by omega
                      have x := (HB.out.permB (List.Perm.swap ..)).box _ (List.mem_cons_self ..)
                      go_wp2_with ((with_reducible refine gate_dst (N := 156) rfl ?_); refine Hold.out ?_)
                      refine ⟨?_⟩
                      refine list_value (v := .agg (callC i A5 c5 (.slice AD i cD)).toArray) rfl rfl ⟨loadN 40 18 (by kernel_rfl) Try.underlying40 _ _ _ x rfl _ _ _ rfl rfl⟩ ?_
                      simp only [List.setIfInBounds_toArray, List.set_cons_zero, List.set_cons_succ]
                      refine list_alloc (v := .slice (some ⟨wr.heap.size, 0, none⟩) 1 1) (b := Obj.cells (callC i A5 c5 (.slice AD i cD)).toArray 40) rfl rfl ⟨run_bsl rfl Try.underlying41 (by kernel_rfl)⟩ ?_
                      intro V1 e1
                      simp only [List.setIfInBounds_toArray, List.set_cons_zero, List.set_cons_succ]
                      have H1 := HB.out.row (callC i A5 c5 (.slice AD i cD)) 40 1 18 rfl (by decide)
                      rw [e1] at H1
                      clear e1 HB x
                      generalize wr.heap.size = b9 at *
                      have H2 := H1.perm (List.Perm.cons _ (perm2 _ _ _ _))
                      clear H1
                      refine list_value (v := .slice AP i cP) rfl rfl ⟨rfl⟩ ?_
                      simp only [List.setIfInBounds_toArray, List.set_cons_zero, List.set_cons_succ]
                      refine Bun.appendRow H2 rfl rfl (.tmp 157) (.tmp 158) 41 (.agg #[.int .i64 0, .int .i64 0, .bool false, .int .i64 0, .bool false, .int .i64 0, .int .i64 0, .slice none 0 0, .int .i64 0, .slice none 0 0, .int .i64 0, .string ⟨#[]⟩, .int .i64 0, .string ⟨#[]⟩, .int .i64 0, .slice none 0 0, .slice none 0 0, .slice none 0 0]) 240 rfl Try.underlying41 (by kernel_rfl) rfl (by show 0 < 18; decide) (by decide) rfl rfl rfl (by show 0 < i; omega) (fun u hu => by
                        obtain ⟨p, _, hp⟩ := List.mem_flatMap.1 hu
                        exact encI_one _ _ u hp) (by show (1 + i) * 240 ≤ _; omega) ?_
                      intro AX cX V2 H3
                      simp only [List.setIfInBounds_toArray, List.set_cons_zero, List.set_cons_succ]
                      dsimp only [rwP]
                      clear H2
                      refine list_value (v := .agg #[.int .i64 3, .bool false, .int .i64 0, .int .i64 0, .int .i64 0, .slice none 0 0]) rfl rfl ⟨run_bld rfl (by kernel_rfl)⟩ ?_
                      simp only [List.setIfInBounds_toArray, List.set_cons_zero, List.set_cons_succ]
                      refine list_value (v := .agg #[.slice AX (1 + i) cX, .int .i64 3, .bool false, .int .i64 0, .int .i64 0, .int .i64 0, .slice none 0 0]) rfl rfl ⟨run_bld rfl (by kernel_rfl)⟩ ?_
                      simp only [List.setIfInBounds_toArray, List.set_cons_zero, List.set_cons_succ]
                      refine list_alloc (v := .slice (some ⟨V2.heap.size, 0, none⟩) 1 1) (b := Obj.cells [Value.slice AX (1 + i) cX, .int .i64 3, .bool false, .int .i64 0, .int .i64 0, .int .i64 0, .slice none 0 0].toArray 45) rfl rfl ⟨run_bsl rfl Try.underlying46 (by kernel_rfl)⟩ ?_
                      intro V3 e3
                      simp only [List.setIfInBounds_toArray, List.set_cons_zero, List.set_cons_succ]
                      have H4 := H3.row [Value.slice AX (1 + i) cX, .int .i64 3, .bool false, .int .i64 0, .int .i64 0, .int .i64 0, .slice none 0 0] 45 1 7 rfl (by decide)
                      rw [e3] at H4
                      clear e3 H3
                      generalize V2.heap.size = bk at *
                      have x1 := H4.box _ (List.mem_cons_self ..)
                      have y5 : V3.cell? ⟨bm, 5, none⟩ = some (.slice none 0 0) := x1.cell 5
                      have f5 : V3.frozen? ⟨bm, 5, none⟩ = false := x1.frozen 5
                      clear x1
                      go_wp2_with ((with_reducible refine gate_dst (N := 165) rfl ?_); refine Hold.out ?_)
                      refine ⟨?_⟩
                      have H5 := H4.set0 5 (.slice (some ⟨bk, 0, none⟩) 1 1)
                      obtain ⟨V4, e4⟩ : ∃ V, V3.setCell ⟨bm, 5, none⟩ (.slice (some ⟨bk, 0, none⟩) 1 1) = V := ⟨_, rfl⟩
                      rw [show (bxM bm i AM cM (.slice none 0 0)).at_ = bm from rfl, e4] at H5
                      rw [e4]
                      clear e4 H4 y5 f5
                      obtain hRR := HRR.out
                      obtain hBF := HBF.out
                      subst hRR
                      subst hBF
                      clear HRR HBF
                      have hij : i = j + (t + 1) := by omega
                      obtain ⟨kM, kF, cW, lW⟩ := facts words i t j (by omega) hij HAL.out H5
                      clear hij
                      have hW : (words.take i).length = i := by rw [List.length_take]; omega
                      have x5 := H5.box _ (List.mem_cons_self ..)
                      have xF := H5.box _ (List.mem_cons_of_mem _ (List.mem_cons_of_mem _ (List.mem_cons_self ..)))
                      have hb4 := H5.hb
                      have hs4 := H5.hs
                      clear H5
                      refine list_value (v := .agg #[.string ⟨#[109, 97, 105, 110]⟩, .slice AM i cM, .int .i64 0, .int .i64 0, .bool false, .slice (some ⟨bk, 0, none⟩) 1 1]) rfl rfl ⟨loadN 48 6 (by kernel_rfl) Try.underlying48 _ _ _ x5 rfl _ _ _ rfl rfl⟩ ?_
                      simp only [List.setIfInBounds_toArray, List.set_cons_zero, List.set_cons_succ]
                      refine list_value (v := .agg #[.string ⟨#[102]⟩, .slice A (j + (t + 1) + 1) c, .int .i64 ((1 + j : Nat) : Int), .int .i64 (i : Int), .bool false, .slice (some ⟨bs, 0, none⟩) 1 1]) rfl rfl ⟨loadN 48 6 (by kernel_rfl) Try.underlying48 _ _ _ xF rfl _ _ _ rfl rfl⟩ ?_
                      simp only [List.setIfInBounds_toArray, List.set_cons_zero, List.set_cons_succ]
                      refine list_alloc (v := .slice (some ⟨V4.heap.size, 0, none⟩) 2 2) (b := Obj.cells #[.string ⟨#[109, 97, 105, 110]⟩, .slice AM i cM, .int .i64 0, .int .i64 0, .bool false, .slice (some ⟨bk, 0, none⟩) 1 1, .string ⟨#[102]⟩, .slice A (j + (t + 1) + 1) c, .int .i64 ((1 + j : Nat) : Int), .int .i64 (i : Int), .bool false, .slice (some ⟨bs, 0, none⟩) 1 1] 48) rfl rfl ⟨run_bsl rfl Try.underlying22 (by kernel_rfl)⟩ ?_
                      intro V5 e5
                      simp only [List.setIfInBounds_toArray, List.set_cons_zero, List.set_cons_succ]
                      have HC : Kd.C k48 V5 (some ⟨V4.heap.size, 0, none⟩) 2 (fs (words.take i) t) := e5 ▸ lit_C k48 rfl 48 (reps_cons kM rfl (reps_cons kF rfl (Reps.none _ _))) (by show 2 ≤ 9223372036854775807; decide)
                      have q5 : Below V4.heap.size V4 V5 := e5 ▸ below_alloc (Below.refl _ _) _
                      clear e5 x5 xF kM kF
                      have hb5 := below_then hb4 hs4 q5
                      have cW5 := Kd.C_below cW q5
                      go_wp2_with fail
                      obtain ⟨st, hp, hst⟩ := ends (words.take i) t (by omega) (by omega)
                      refine (run_said (fs (words.take i) t) _ 2 1000 _ HC (Nat.le_refl 2) (chk (words.take i) t (by omega) (by omega)) (formed (words.take i) t (by omega) (by omega)) (main_at (words.take i) t) (by decide) (f := fM (words.take i)) rfl rfl rfl (by decide) (kd := 1) (cd := 0) (st := st) ⟨[], [], .inl ⟨hst, rfl, rfl⟩⟩).mono ?_
                      rintro e WR ⟨hbR, A', c', rfl, hc', hC⟩
                      have hl : ((words.take i).map w32).length = i := by rw [List.length_map, hW]
                      rw [hp, hl] at hc' hC ⊢
                      have hsR : w.heap.size ≤ V5.heap.size := Nat.le_trans hs4 q5.size
                      have hb6 := below_then hb5 hsR hbR
                      have cW6 := Kd.C_below cW5 hbR
                      go_wp2_with fail
                      obtain ⟨WB, hWB⟩ : ∃ W, WR.alloc (Obj.cells #[.int .i64 1, .int .i64 0, .slice A' i c'] 26) = W := ⟨_, rfl⟩
                      rw [hWB]
                      have hbB : Below WR.heap.size WR WB := hWB ▸ below_alloc (Below.refl _ _) _
                      clear hWB
                      have hs := same_said 1 0 ((words.take i).map w32) A' A6 c' c6 WB (by rw [hl]; omega) (by rw [hl]; exact Kd.C_below hC hbB) (by rw [hl]; exact hc') (by rw [hl]; exact Kd.C_below cW6 hbB) (by rw [hl]; exact lW)
                      rw [hl] at hs
                      refine hs.mono ?_
                      rintro e WE ⟨rfl, hbE⟩
                      have hsR2 : w.heap.size ≤ WR.heap.size := Nat.le_trans hsR hbR.size
                      have hb7 := below_then hb6 hsR2 hbB
                      have hb8 := below_then hb7 (Nat.le_trans hsR2 hbB.size) hbE
                      clear HR hlen
                      go_wp2_with fail
                      go_ret
                      exact ⟨rfl, hb8⟩
set_option maxRecDepth 100000 in
set_option maxHeartbeats 8000000 in
theorem passes_gt (A0 : Option Addr) (c0 : Nat) (words : List Int) (turn : Int) (w : World) (hR : ReadsInt w .i64 A0 words.length words) (hn : 8 < words.length) : Calls Try.prog 6 #[.slice A0 words.length c0, .int .i64 turn] w fun e w' => e = .returned (.bool true) ∧ Below w.heap.size w w' := by
  have HR := Aside0.mk hR
  have hlen := hR.2.1
  have B0 := Aside0.mk (((Bun.start w).none_ 3 1).none_ 30 2)
  clear hR
  go_enter Try.func6, Try.ntmps6
  go_wp2_with fail
  go_loopw [5, 6, 7] (fun v5 v6 v7 wr => ∃ (n : Nat) (A5 : Option Addr) (c5 : Nat) (A6 : Option Addr) (c6 : Nat), v5 = .slice A5 n c5 ∧ v6 = .slice A6 n c6 ∧ v7 = .int .i64 (n : Int) ∧ n ≤ words.length ∧ n ≤ 8 ∧ Aside0 (Bun w.heap.size w wr (R0 words n A5 c5 A6 c6) [])) (fun _ _ v7 _ => 8 - (intOf v7).toNat)
  case atStart => exact ⟨0, none, 0, none, 0, rfl, rfl, rfl, by omega, by omega, B0⟩
  case round =>
    clear B0
    obtain ⟨n, A5, c5, A6, c6, rfl, rfl, rfl, hn0, hn8, HB⟩ := hrel
    by_cases hlt : n < words.length ∧ n < 8
    · have hd1 : decide ((n : Int) < (words.length : Int)) = true := decide_eq_true (by omega)
      have hd2 : decide ((n : Int) < 8) = true := decide_eq_true (by omega)
      obtain ⟨ad, e, hc⟩ := HR.out.at_ (n : Int) (by omega) (by omega)
      subst e
      rw [Int.toNat_natCast] at hc
      have hcr := pw_cell_below HB.out.hb hc
      go_wp2_with ((with_reducible refine gate_dst (N := 36) rfl ?_); refine Hold.out ?_)
      refine ⟨?_⟩
      refine list_call (v := .agg #[.bool true, .int .i64 (rd words (n : Int))]) rfl rfl (ER.go (by go_simp)) (PMirFuel.ferrulelaw12_num.calls (rd words (n : Int)) true (rd words (n : Int)) wr rfl) ?_
      intro V1 q1
      simp only [List.setIfInBounds_toArray, List.set_cons_zero, List.set_cons_succ]
      have H1 := HB.out.below q1
      refine list_alloc (v := .slice (some ⟨V1.heap.size, 0, none⟩) 1 1) (b := Obj.cells (opc (co (rd words (n : Int)))).toArray 30) rfl rfl ⟨run_bsl rfl Try.underlying38 (by kernel_rfl)⟩ ?_
      intro Z eZ
      simp only [List.setIfInBounds_toArray, List.set_cons_zero, List.set_cons_succ]
      subst eZ
      refine Bun.append H1 rfl rfl (.tmp 31) (.tmp 37) 38 (.agg #[.bool false, .int .i64 0]) 16 rfl Try.underlying38 (by kernel_rfl) rfl (by show 0 < 2; decide) (by decide) (opc (co (rd words (n : Int)))) rfl rfl rfl (by intro u hu; simp [opc] at hu; rcases hu with rfl | rfl <;> rfl) (by show (n + 1) * 16 ≤ _; omega) ?_
      intro A5' c5' V2 H2
      simp only [List.setIfInBounds_toArray, List.set_cons_zero, List.set_cons_succ]
      have hc2 := pw_cell_below H2.hb hc
      clear H1 HB hcr
      go_wp2_with ((with_reducible refine gate_dst (N := 44) rfl ?_); refine Hold.out ?_)
      refine ⟨?_⟩
      refine list_call (v := .int .i64 (w32 (rd words (n : Int)))) rfl rfl (ER.go (by go_simp)) (word_said _ V2) ?_
      intro V3 q3
      simp only [List.setIfInBounds_toArray, List.set_cons_zero, List.set_cons_succ]
      have H3 := (H2.below q3).perm (List.Perm.swap ..)
      refine list_alloc (v := .slice (some ⟨V3.heap.size, 0, none⟩) 1 1) (b := Obj.cells [Value.int .i64 (w32 (rd words (n : Int)))].toArray 3) rfl rfl ⟨run_bsl rfl Try.underlying23 (by kernel_rfl)⟩ ?_
      intro Z eZ
      simp only [List.setIfInBounds_toArray, List.set_cons_zero, List.set_cons_succ]
      subst eZ
      refine Bun.append H3 rfl rfl (.tmp 39) (.tmp 45) 23 (.int .i64 0) 8 rfl Try.underlying23 (by kernel_rfl) rfl (by show 0 < 1; decide) (by decide) [Value.int .i64 (w32 (rd words (n : Int)))] rfl rfl rfl (by intro u hu; simp at hu; subst hu; rfl) (by show (n + 1) * 8 ≤ _; omega) ?_
      intro A6' c6' V4 H4
      simp only [List.setIfInBounds_toArray, List.set_cons_zero, List.set_cons_succ]
      have H5 : Bun w.heap.size w V4 (R0 words (n + 1) A5' c5' A6' c6') [] := by
        have := H4.perm (List.Perm.swap ..)
        unfold R0 rwA rwW
        rw [take_snoc words n hlt.1, List.map_append, List.flatMap_append, List.map_append, nums_append]
        exact this
      clear H2 H3 H4 hc2
      have HB' := Aside0.mk H5
      clear H5
      have hw : wrap64 ((n : Int) + 1) = ((n + 1 : Nat) : Int) := by unfold wrap64; omega
      go_wp2_with fail
      exact ⟨⟨n + 1, A5', c5', A6', c6', rfl, rfl, rfl, by omega, by omega, HB'⟩, by simp [intOf]; omega⟩
    · have hd : decide ((n : Int) < 8) = false := decide_eq_false (by omega)
      have hd1 : decide ((n : Int) < (words.length : Int)) = true := decide_eq_true (by omega)
      by_cases hz : n = 0
      · exact absurd hlt (by omega)
      have hdz : decide ((n : Int) = 0) = false := decide_eq_false (by omega)
      obtain ⟨hT0, hT1⟩ : 0 ≤ (wrap64 (turn.tmod (n : Int) + (n : Int))).tmod (n : Int) ∧ (wrap64 (turn.tmod (n : Int) + (n : Int))).tmod (n : Int) < (n : Int) := kBounds turn n (by omega) (by omega)
      obtain ⟨t, ht⟩ : ∃ t : Nat, (wrap64 (turn.tmod (n : Int) + (n : Int))).tmod (n : Int) = (t : Int) := ⟨_, (Int.toNat_of_nonneg hT0).symm⟩
      rw [ht] at hT1
      have htn : t < n := by omega
      have ht8 : t < 8 := by omega
      clear hT0 hT1
      go_wp2_with ((with_reducible refine gate_dst (N := 61) rfl ?_); refine Hold.out ?_)
      refine ⟨?_⟩
      try rw [ht]
      rw [show ((n : Int) == 0) = false by simp; omega]
      go_wp2_with ((with_reducible refine gate_dst (N := 62) rfl ?_); refine Hold.out ?_)
      refine ⟨?_⟩
      refine list_alloc (v := .slice (some ⟨wr.heap.size, 0, none⟩) 1 1) (b := Obj.cells [Value.int .i64 ((t + 1 : Nat) : Int)].toArray 3) rfl rfl ⟨run_bsl rfl Try.underlying23 (by kernel_rfl)⟩ ?_
      intro V1 e1
      simp only [List.setIfInBounds_toArray, List.set_cons_zero, List.set_cons_succ]
      have H1 : Bun w.heap.size w V1 (rwF t 0 (some ⟨wr.heap.size, 0, none⟩) 1 :: R0 words n A5 c5 A6 c6) [] := e1 ▸ HB.out.row [Value.int .i64 ((t + 1 : Nat) : Int)] 3 1 1 rfl (by decide)
      clear e1
      generalize wr.heap.size = b1 at *
      refine list_value (v := .int .i64 (n : Int)) rfl rfl ⟨rfl⟩ ?_
      simp only [List.setIfInBounds_toArray, List.set_cons_zero, List.set_cons_succ]
      refine list_value (v := .agg #[.string ⟨#[102]⟩, .slice (some ⟨b1, 0, none⟩) 1 1, .int .i64 1, .int .i64 (n : Int), .bool false, .slice none 0 0]) rfl rfl ⟨run_bld rfl (by kernel_rfl)⟩ ?_
      simp only [List.setIfInBounds_toArray, List.set_cons_zero, List.set_cons_succ]
      refine list_alloc (v := .pointer (some ⟨V1.heap.size, 0, none⟩)) (b := Obj.cells #[.string ⟨#[]⟩, .slice none 0 0, .int .i64 0, .int .i64 0, .bool false, .slice none 0 0] 48) rfl rfl ⟨rfl⟩ ?_
      intro Z eZ
      simp only [List.setIfInBounds_toArray, List.set_cons_zero, List.set_cons_succ]
      subst eZ
      refine list_store (w' := V1.alloc (Obj.cells #[.string ⟨#[102]⟩, .slice (some ⟨b1, 0, none⟩) 1 1, .int .i64 1, .int .i64 (n : Int), .bool false, .slice none 0 0] 48)) rfl rfl ⟨storeN 48 6 (by kernel_rfl) _ _ _ rfl rfl (by first | kernel_rfl | simp [Value.oneCell']) _ _ _ _ rfl rfl rfl⟩ ?_
      have H2 : Bun w.heap.size w (V1.alloc (Obj.cells #[.string ⟨#[102]⟩, .slice (some ⟨b1, 0, none⟩) 1 1, .int .i64 1, .int .i64 (n : Int), .bool false, .slice none 0 0] 48)) (rwF t 0 (some ⟨b1, 0, none⟩) 1 :: R0 words n A5 c5 A6 c6) [bxF V1.heap.size 0 1 n (some ⟨b1, 0, none⟩) 1 (.slice none 0 0)] := H1.new _ 48
      obtain ⟨V2, e2⟩ : ∃ V, V1.alloc (Obj.cells #[.string ⟨#[102]⟩, .slice (some ⟨b1, 0, none⟩) 1 1, .int .i64 1, .int .i64 (n : Int), .bool false, .slice none 0 0] 48) = V := ⟨_, rfl⟩
      rw [e2] at H2 ⊢
      clear e2 H1
      generalize V1.heap.size = bb at *
      have HB2 := Aside0.mk H2
      clear H2 HB
      clear V1
      go_wp2_with fail
      go_loopw [10] (fun v10 wr2 => ∃ (k : Nat) (A : Option Addr) (c : Nat), v10 = .int .i64 ((t + 1 + k : Nat) : Int) ∧ t + 1 + k ≤ n ∧ Aside0 (Bun w.heap.size w wr2 (rwF t k A c :: R0 words n A5 c5 A6 c6) [bxF bb k (1 + k) n A c (.slice none 0 0)])) (fun v10 _ => n - (intOf v10).toNat)
      case atStart => exact ⟨0, _, _, rfl, by omega, HB2⟩
      case round =>
        clear HB2
        obtain ⟨k, A, c, rfl, hk, HB⟩ := hrel
        have x := HB.out.box _ (List.mem_cons_self ..)
        have y1 : wr.cell? ⟨bb, 1, none⟩ = some (.slice A (k + 1) c) := x.cell 1
        clear x
        by_cases hkn : t + 1 + k < n
        · have hd : decide (((t + 1 + k : Nat) : Int) < (n : Int)) = true := decide_eq_true (by omega)
          go_wp2_with ((with_reducible refine gate_dst (N := 74) rfl ?_); refine Hold.out ?_)
          refine ⟨?_⟩
          refine list_alloc (v := .slice (some ⟨wr.heap.size, 0, none⟩) 1 1) (b := Obj.cells [Value.int .i64 1].toArray 3) rfl rfl ⟨run_bsl rfl Try.underlying23 (by kernel_rfl)⟩ ?_
          intro Z eZ
          simp only [List.setIfInBounds_toArray, List.set_cons_zero, List.set_cons_succ]
          subst eZ
          refine Bun.append HB.out rfl rfl (.tmp 73) (.tmp 74) 23 (.int .i64 0) 8 rfl Try.underlying23 (by kernel_rfl) rfl (by show 0 < 1; decide) (by decide) [Value.int .i64 1] rfl rfl rfl (by intro u hu; simp at hu; subst hu; rfl) (by show (k + 1 + 1) * 8 ≤ _; omega) ?_
          intro A' c' V2 H2
          simp only [List.setIfInBounds_toArray, List.set_cons_zero, List.set_cons_succ]
          dsimp only [rwF]
          have x2 := H2.box _ (List.mem_cons_self ..)
          have f1 : V2.frozen? ⟨bb, 1, none⟩ = false := x2.frozen 1
          clear y1
          have y1 : V2.cell? ⟨bb, 1, none⟩ = some (.slice A (k + 1) c) := x2.cell 1
          clear x2
          go_wp2_with ((with_reducible refine gate_dst (N := 78) rfl ?_); refine Hold.out ?_)
          refine ⟨?_⟩
          have H3 : Bun w.heap.size w (V2.setCell ⟨bb, 1, none⟩ (.slice A' (k + 1 + 1) c')) (rwF t (k + 1) A' c' :: R0 words n A5 c5 A6 c6) [bxF bb (k + 1) (1 + k) n A' c' (.slice none 0 0)] := by
            have := H2.set0 1 (.slice A' (k + 1 + 1) c')
            unfold rwF at this ⊢
            rw [locF_snoc, nums_append]
            exact this
          obtain ⟨V3, e3⟩ : ∃ V, V2.setCell ⟨bb, 1, none⟩ (.slice A' (k + 1 + 1) c') = V := ⟨_, rfl⟩
          rw [e3] at H3 ⊢
          clear e3 H2 HB f1 y1
          have x3 := H3.box _ (List.mem_cons_self ..)
          have y2 : V3.cell? ⟨bb, 2, none⟩ = some (.int .i64 ((1 + k : Nat) : Int)) := x3.cell 2
          have f2 : V3.frozen? ⟨bb, 2, none⟩ = false := x3.frozen 2
          have H4 : Bun w.heap.size w (V3.setCell ⟨bb, 2, none⟩ (.int .i64 ((1 + (k + 1) : Nat) : Int))) (rwF t (k + 1) A' c' :: R0 words n A5 c5 A6 c6) [bxF bb (k + 1) (1 + (k + 1)) n A' c' (.slice none 0 0)] := H3.set0 2 _
          have HB4 := Aside0.mk H4
          clear x3 H3 H4
          go_wp2_with fail
          exact ⟨⟨k + 1, A', c', rfl, by omega, HB4⟩, by simp [intOf]; omega⟩
        · have hd : decide (((t + 1 + k : Nat) : Int) < (n : Int)) = false := decide_eq_false (by omega)
          have hkn' : n - 1 - t = k := by omega
          have hnt : n - t = k + 1 := by omega
          clear y1
          go_wp2_with fail
          have HB3 := Aside0.mk (((HB.out.none_ 30 2).none_ 40 18).perm (perm2 _ _ _ _))
          clear HB
          go_loopw [11, 12, 13] (fun v11 v12 v13 wr2 => ∃ (ads : List Nat) (A : Option Addr) (c : Nat) (AL : Option Addr) (cL : Nat) (AO : Option Addr) (cO : Nat), v11 = .slice AL ads.length cL ∧ v12 = .slice AO ads.length cO ∧ v13 = .int .i64 (ads.length : Int) ∧ ads.length ≤ t + 1 ∧ Aside0 (Bun w.heap.size w wr2 (rwF t (k + ads.length) A c :: rwL n t ads AL cL :: rwO n t ads.length 0 AO cO :: rwA words n A5 c5 :: rwW words n A6 c6 :: stepRows ads) [bxF bb (k + ads.length) (1 + k) n A c (.slice none 0 0)])) (fun _ _ v13 _ => 9 - (intOf v13).toNat)
          case atStart => exact ⟨[], A, c, none, 0, none, 0, rfl, rfl, rfl, Nat.zero_le _, HB3⟩
          case round =>
            clear HB3
            clear A c
            obtain ⟨ads, A, c, AL, cL, AO, cO, rfl, rfl, rfl, hat, HB⟩ := hrel
            have x := HB.out.box _ (List.mem_cons_self ..)
            have y1 : wr.cell? ⟨bb, 1, none⟩ = some (.slice A (k + ads.length + 1) c) := x.cell 1
            clear x
            by_cases hit : ads.length ≤ t
            · have hd4 : decide ((ads.length : Int) ≤ (t : Int)) = true := decide_eq_true (by omega)
              go_wp2_with ((with_reducible refine gate_dst (N := 88) rfl ?_); refine Hold.out ?_)
              refine ⟨?_⟩
              refine list_alloc (v := .slice (some ⟨wr.heap.size, 0, none⟩) 1 1) (b := Obj.cells [Value.int .i64 1].toArray 3) rfl rfl ⟨run_bsl rfl Try.underlying23 (by kernel_rfl)⟩ ?_
              intro Z eZ
              simp only [List.setIfInBounds_toArray, List.set_cons_zero, List.set_cons_succ]
              subst eZ
              refine Bun.append HB.out rfl rfl (.tmp 87) (.tmp 88) 23 (.int .i64 0) 8 rfl Try.underlying23 (by kernel_rfl) rfl (by show 0 < 1; decide) (by decide) [Value.int .i64 1] rfl rfl rfl (by intro u hu; simp at hu; subst hu; rfl) (by show (k + ads.length + 1 + 1) * 8 ≤ _; omega) ?_
              intro A' c' V2 H2
              simp only [List.setIfInBounds_toArray, List.set_cons_zero, List.set_cons_succ]
              dsimp only [rwF]
              have x2 := H2.box _ (List.mem_cons_self ..)
              have f1 : V2.frozen? ⟨bb, 1, none⟩ = false := x2.frozen 1
              clear y1
              have y1 : V2.cell? ⟨bb, 1, none⟩ = some (.slice A (k + ads.length + 1) c) := x2.cell 1
              clear x2
              go_wp2_with ((with_reducible refine gate_dst (N := 93) rfl ?_); refine Hold.out ?_)
              refine ⟨?_⟩
              have H3 : Bun w.heap.size w (V2.setCell ⟨bb, 1, none⟩ (.slice A' (k + ads.length + 1 + 1) c')) (rwF t (k + ads.length + 1) A' c' :: rwL n t ads AL cL :: rwO n t ads.length 0 AO cO :: rwA words n A5 c5 :: rwW words n A6 c6 :: stepRows ads) [bxF bb (k + ads.length + 1) (1 + k) n A' c' (.slice none 0 0)] := by
                have := H2.set0 1 (.slice A' (k + ads.length + 1 + 1) c')
                unfold rwF at this ⊢
                rw [locF_snoc, nums_append]
                exact this
              obtain ⟨V3, e3⟩ : ∃ V, V2.setCell ⟨bb, 1, none⟩ (.slice A' (k + ads.length + 1 + 1) c') = V := ⟨_, rfl⟩
              rw [e3] at H3 ⊢
              clear e3 H2 HB f1 y1
              have x3 := H3.box _ (List.mem_cons_self ..)
              have y1 : V3.cell? ⟨bb, 1, none⟩ = some (.slice A' (k + ads.length + 1 + 1) c') := x3.cell 1
              clear x3
              go_wp2_with ((with_reducible refine gate_dst (N := 97) rfl ?_); refine Hold.out ?_)
              refine ⟨?_⟩
              rw [show (k : Int) + (ads.length : Int) + 1 = ((n - t + ads.length : Nat) : Int) by omega]
              refine list_value (v := .agg #[.int .i64 1, .int .i64 (ads.length : Int), .int .i64 0]) rfl rfl ⟨run_bld rfl (by kernel_rfl)⟩ ?_
              simp only [List.setIfInBounds_toArray, List.set_cons_zero, List.set_cons_succ]
              refine list_alloc (v := .slice (some ⟨V3.heap.size, 0, none⟩) 1 1) (b := Obj.cells [Value.int .i64 1, .int .i64 (ads.length : Int), .int .i64 0].toArray 57) rfl rfl ⟨run_bsl rfl Try.underlying32 (by kernel_rfl)⟩ ?_
              intro V4 e4
              simp only [List.setIfInBounds_toArray, List.set_cons_zero, List.set_cons_succ]
              have H4 : Bun w.heap.size w V4 (stepRow V3.heap.size ads.length :: rwF t (k + ads.length + 1) A' c' :: rwL n t ads AL cL :: rwO n t ads.length 0 AO cO :: rwA words n A5 c5 :: rwW words n A6 c6 :: stepRows ads) [bxF bb (k + ads.length + 1) (1 + k) n A' c' (.slice none 0 0)] := e4 ▸ H3.row [Value.int .i64 1, .int .i64 (ads.length : Int), .int .i64 0] 57 1 3 rfl (by decide)
              clear e4 H3 y1
              generalize V3.heap.size = sa at *
              have H5 := (H4.perm (perm5 _ _ _ _ _ _ _)).perm (List.Perm.swap ..)
              clear H4
              refine list_value (v := .agg #[.int .i64 0, .slice (some ⟨sa, 0, none⟩) 1 1]) rfl rfl ⟨run_bld rfl (by kernel_rfl)⟩ ?_
              simp only [List.setIfInBounds_toArray, List.set_cons_zero, List.set_cons_succ]
              refine list_value (v := .agg (encI (some ⟨sa, 0, none⟩) (ld n t ads.length)).toArray) rfl rfl ⟨run_bld rfl (by kernel_rfl)⟩ ?_
              simp only [List.setIfInBounds_toArray, List.set_cons_zero, List.set_cons_succ]
              refine list_alloc (v := .slice (some ⟨V4.heap.size, 0, none⟩) 1 1) (b := Obj.cells (encI (some ⟨sa, 0, none⟩) (ld n t ads.length)).toArray 40) rfl rfl ⟨run_bsl rfl Try.underlying41 (by kernel_rfl)⟩ ?_
              intro Z eZ
              simp only [List.setIfInBounds_toArray, List.set_cons_zero, List.set_cons_succ]
              subst eZ
              refine Bun.append H5 rfl rfl (.tmp 91) (.tmp 101) 41 (.agg #[.int .i64 0, .int .i64 0, .bool false, .int .i64 0, .bool false, .int .i64 0, .int .i64 0, .slice none 0 0, .int .i64 0, .slice none 0 0, .int .i64 0, .string ⟨#[]⟩, .int .i64 0, .string ⟨#[]⟩, .int .i64 0, .slice none 0 0, .slice none 0 0, .slice none 0 0]) 240 rfl Try.underlying41 (by kernel_rfl) rfl (by show 0 < 18; decide) (by decide) (encI (some ⟨sa, 0, none⟩) (ld n t ads.length)) rfl rfl rfl (encI_one _ _) (by show (ads.length + 1) * 240 ≤ _; omega) ?_
              intro AL' cL' V5 H6
              simp only [List.setIfInBounds_toArray, List.set_cons_zero, List.set_cons_succ]
              dsimp only [rwL]
              have H7 := H6.perm (List.Perm.swap ..)
              clear H5 H6
              have x5 := H7.box _ (List.mem_cons_self ..)
              have y1 : V5.cell? ⟨bb, 1, none⟩ = some (.slice A' (k + ads.length + 1 + 1) c') := x5.cell 1
              clear x5
              go_wp2_with ((with_reducible refine gate_dst (N := 108) rfl ?_); refine Hold.out ?_)
              refine ⟨?_⟩
              rw [show (k : Int) + (ads.length : Int) + 1 = ((n - t + ads.length : Nat) : Int) by omega]
              refine list_call (v := .agg #[.bool false, .int .i64 ((n - t + ads.length : Nat) : Int)]) rfl rfl (ER.go (by go_simp)) (PMirFuel.ferrulelaw12_local.calls ((n - t + ads.length : Nat) : Int) false ((n - t + ads.length : Nat) : Int) V5 rfl) ?_
              intro V6 q6
              simp only [List.setIfInBounds_toArray, List.set_cons_zero, List.set_cons_succ]
              have H8 := (H7.below q6).perm (perm2 _ _ _ _)
              clear H7 y1
              refine list_alloc (v := .slice (some ⟨V6.heap.size, 0, none⟩) 1 1) (b := Obj.cells (opc (lo (n - t + ads.length))).toArray 30) rfl rfl ⟨run_bsl rfl Try.underlying38 (by kernel_rfl)⟩ ?_
              intro Z eZ
              simp only [List.setIfInBounds_toArray, List.set_cons_zero, List.set_cons_succ]
              subst eZ
              refine Bun.append H8 rfl rfl (.tmp 103) (.tmp 109) 38 (.agg #[.bool false, .int .i64 0]) 16 rfl Try.underlying38 (by kernel_rfl) rfl (by show 0 < 2; decide) (by decide) (opc (lo (n - t + ads.length))) rfl rfl rfl (opc_one _) (by show (ads.length + 0 + 1) * 16 ≤ _; omega) ?_
              intro AO' cO' V7 H9
              simp only [List.setIfInBounds_toArray, List.set_cons_zero, List.set_cons_succ]
              dsimp only [rwO]
              have H10 : Bun w.heap.size w V7 (rwF t (k + (sa :: ads).length) A' c' :: rwL n t (sa :: ads) AL' cL' :: rwO n t (sa :: ads).length 0 AO' cO' :: rwA words n A5 c5 :: rwW words n A6 c6 :: stepRows (sa :: ads)) [bxF bb (k + (sa :: ads).length) (1 + k) n A' c' (.slice none 0 0)] := by
                have := H9.perm (perm2 _ _ _ _).symm
                unfold rwO at this ⊢
                rw [show outA n t (sa :: ads).length ++ outB 0 = (outA n t ads.length ++ outB 0) ++ [lo (n - t + ads.length)] by show outA n t (ads.length + 1) ++ [] = (outA n t ads.length ++ []) ++ _; rw [outA_snoc, List.append_nil, List.append_nil], List.flatMap_append]
                exact this
              have HB10 := Aside0.mk H10
              clear H8 H9 H10 q6
              go_wp2_with fail
              exact ⟨⟨sa :: ads, A', c', AL', cL', AO', cO', rfl, rfl, rfl, by show ads.length + 1 ≤ t + 1; omega, HB10⟩, by simp [intOf]; omega⟩
            · have hd4 : decide ((ads.length : Int) ≤ (t : Int)) = false := decide_eq_false (by omega)
              have hal : ads.length = t + 1 := by omega
              clear y1
              go_wp2_with fail
              have HB5 := HB.out
              clear HB
              rw [hal] at HB5 ⊢
              have HB6 := Aside0.mk HB5
              clear HB5 hd4 hit hat
              have HAL := Aside0.mk hal
              clear hal
              go_loopw [12, 14] (fun v12 v14 wr2 => ∃ (j : Nat) (AO : Option Addr) (cO : Nat), v12 = .slice AO (t + 1 + j) cO ∧ v14 = .int .i64 ((t + 1 + j : Nat) : Int) ∧ t + 1 + j ≤ n ∧ Aside0 (Bun w.heap.size w wr2 (rwF t (k + (t + 1)) A c :: rwL n t ads AL cL :: rwO n t (t + 1) j AO cO :: rwA words n A5 c5 :: rwW words n A6 c6 :: stepRows ads) [bxF bb (k + (t + 1)) (1 + k) n A c (.slice none 0 0)])) (fun _ v14 _ => n - (intOf v14).toNat)
              case atStart => exact ⟨0, AO, cO, rfl, rfl, by omega, HB6⟩
              case round =>
                clear HB6
                obtain ⟨j, AQ, cQ, rfl, rfl, hj, HB⟩ := hrel
                by_cases hjn : t + 1 + j < n
                · have hd6 : decide (((t + 1 + j : Nat) : Int) < (n : Int)) = true := decide_eq_true (by omega)
                  go_wp2_with ((with_reducible refine gate_dst (N := 122) rfl ?_); refine Hold.out ?_)
                  refine ⟨?_⟩
                  rw [show (t : Int) + 1 + (j : Int) - (t : Int) = ((j + 1 : Nat) : Int) by omega]
                  refine list_call (v := .agg #[.bool false, .int .i64 ((j + 1 : Nat) : Int)]) rfl rfl (ER.go (by go_simp)) (PMirFuel.ferrulelaw12_local.calls ((j + 1 : Nat) : Int) false ((j + 1 : Nat) : Int) wr rfl) ?_
                  intro V6 q6
                  simp only [List.setIfInBounds_toArray, List.set_cons_zero, List.set_cons_succ]
                  have H8 := (HB.out.below q6).perm (perm2 _ _ _ _)
                  clear HB
                  refine list_alloc (v := .slice (some ⟨V6.heap.size, 0, none⟩) 1 1) (b := Obj.cells (opc (lo (j + 1))).toArray 30) rfl rfl ⟨run_bsl rfl Try.underlying38 (by kernel_rfl)⟩ ?_
                  intro Z eZ
                  simp only [List.setIfInBounds_toArray, List.set_cons_zero, List.set_cons_succ]
                  subst eZ
                  refine Bun.append H8 rfl rfl (.tmp 118) (.tmp 123) 38 (.agg #[.bool false, .int .i64 0]) 16 rfl Try.underlying38 (by kernel_rfl) rfl (by show 0 < 2; decide) (by decide) (opc (lo (j + 1))) rfl rfl rfl (opc_one _) (by show (t + 1 + j + 1) * 16 ≤ _; omega) ?_
                  intro AO' cO' V7 H9
                  simp only [List.setIfInBounds_toArray, List.set_cons_zero, List.set_cons_succ]
                  dsimp only [rwO]
                  have H10 : Bun w.heap.size w V7 (rwF t (k + (t + 1)) A c :: rwL n t ads AL cL :: rwO n t (t + 1) (j + 1) AO' cO' :: rwA words n A5 c5 :: rwW words n A6 c6 :: stepRows ads) [bxF bb (k + (t + 1)) (1 + k) n A c (.slice none 0 0)] := by
                    have := H9.perm (perm2 _ _ _ _).symm
                    unfold rwO at this ⊢
                    rw [show outA n t (t + 1) ++ outB (j + 1) = (outA n t (t + 1) ++ outB j) ++ [lo (j + 1)] by rw [outB_snoc, List.append_assoc], List.flatMap_append]
                    exact this
                  have HB10 := Aside0.mk H10
                  clear H8 H9 H10 q6
                  go_wp2_with fail
                  exact ⟨⟨j + 1, AO', cO', rfl, rfl, by omega, HB10⟩, by simp [intOf]; omega⟩
                · have hd6 : decide (((t + 1 + j : Nat) : Int) < (n : Int)) = false := decide_eq_false (by omega)
                  obtain rfl : j = k := by omega
                  go_wp2_with ((with_reducible refine gate_dst (N := 127) rfl ?_); refine Hold.out ?_)
                  refine ⟨?_⟩
                  refine list_value (v := .agg #[.int .i64 3, .bool false, .int .i64 0, .int .i64 0, .int .i64 0, .slice AQ (t + 1 + j) cQ]) rfl rfl ⟨run_bld rfl (by kernel_rfl)⟩ ?_
                  simp only [List.setIfInBounds_toArray, List.set_cons_zero, List.set_cons_succ]
                  refine list_value (v := .agg #[.slice AL (t + 1) cL, .int .i64 3, .bool false, .int .i64 0, .int .i64 0, .int .i64 0, .slice AQ (t + 1 + j) cQ]) rfl rfl ⟨run_bld rfl (by kernel_rfl)⟩ ?_
                  simp only [List.setIfInBounds_toArray, List.set_cons_zero, List.set_cons_succ]
                  refine list_alloc (v := .slice (some ⟨wr.heap.size, 0, none⟩) 1 1) (b := Obj.cells [Value.slice AL (t + 1) cL, .int .i64 3, .bool false, .int .i64 0, .int .i64 0, .int .i64 0, .slice AQ (t + 1 + j) cQ].toArray 45) rfl rfl ⟨run_bsl rfl Try.underlying46 (by kernel_rfl)⟩ ?_
                  intro V1 e1
                  simp only [List.setIfInBounds_toArray, List.set_cons_zero, List.set_cons_succ]
                  have H1 := HB.out.row [Value.slice AL (t + 1) cL, .int .i64 3, .bool false, .int .i64 0, .int .i64 0, .int .i64 0, .slice AQ (t + 1 + j) cQ] 45 1 7 rfl (by decide)
                  rw [e1] at H1
                  clear e1 HB
                  generalize wr.heap.size = bs at *
                  have x1 := H1.box _ (List.mem_cons_self ..)
                  have y5 : V1.cell? ⟨bb, 5, none⟩ = some (.slice none 0 0) := x1.cell 5
                  have f5 : V1.frozen? ⟨bb, 5, none⟩ = false := x1.frozen 5
                  clear x1
                  go_wp2_with ((with_reducible refine gate_dst (N := 131) rfl ?_); refine Hold.out ?_)
                  refine ⟨?_⟩
                  have H2 := H1.set0 5 (.slice (some ⟨bs, 0, none⟩) 1 1)
                  have H3 : Bun w.heap.size w (V1.setCell ⟨bb, 5, none⟩ (.slice (some ⟨bs, 0, none⟩) 1 1)) (⟨.slice (some ⟨bs, 0, none⟩) 1 1, 45, 1, 7, [Value.slice AL (t + 1) cL, .int .i64 3, .bool false, .int .i64 0, .int .i64 0, .int .i64 0, .slice AQ (t + 1 + j) cQ]⟩ :: rwF t (j + (t + 1)) A c :: rwL n t ads AL cL :: rwO n t (t + 1) j AQ cQ :: rwA words n A5 c5 :: rwW words n A6 c6 :: stepRows ads) [bxF bb (j + (t + 1)) (1 + j) n A c (.slice (some ⟨bs, 0, none⟩) 1 1)] := H2
                  obtain ⟨V2, e2⟩ : ∃ V, V1.setCell ⟨bb, 5, none⟩ (.slice (some ⟨bs, 0, none⟩) 1 1) = V := ⟨_, rfl⟩
                  rw [e2] at H3 ⊢
                  clear e2 H1 H2 y5 f5
                  obtain ⟨RR, hRR⟩ : ∃ RR, (⟨.slice (some ⟨bs, 0, none⟩) 1 1, 45, 1, 7, [Value.slice AL (t + 1) cL, .int .i64 3, .bool false, .int .i64 0, .int .i64 0, .int .i64 0, .slice AQ (t + 1 + j) cQ]⟩ :: rwF t (j + (t + 1)) A c :: rwL n t ads AL cL :: rwO n t (t + 1) j AQ cQ :: rwA words n A5 c5 :: rwW words n A6 c6 :: stepRows ads) = RR := ⟨_, rfl⟩
                  rw [hRR] at H3
                  have HRR := Aside0.mk hRR
                  clear hRR
                  obtain ⟨BF, hBF⟩ : ∃ BF, bxF bb (j + (t + 1)) (1 + j) n A c (.slice (some ⟨bs, 0, none⟩) 1 1) = BF := ⟨_, rfl⟩
                  rw [hBF] at H3
                  have HBF := Aside0.mk hBF
                  clear hBF
                  refine list_value (v := .agg #[.string ⟨#[109, 97, 105, 110]⟩, .slice none 0 0, .int .i64 0, .int .i64 0, .bool false, .slice none 0 0]) rfl rfl ⟨run_bld rfl (by kernel_rfl)⟩ ?_
                  simp only [List.setIfInBounds_toArray, List.set_cons_zero, List.set_cons_succ]
                  refine list_alloc (v := .pointer (some ⟨V2.heap.size, 0, none⟩)) (b := Obj.cells #[.string ⟨#[]⟩, .slice none 0 0, .int .i64 0, .int .i64 0, .bool false, .slice none 0 0] 48) rfl rfl ⟨rfl⟩ ?_
                  intro Z eZ
                  simp only [List.setIfInBounds_toArray, List.set_cons_zero, List.set_cons_succ]
                  subst eZ
                  refine list_store (w' := V2.alloc (Obj.cells #[.string ⟨#[109, 97, 105, 110]⟩, .slice none 0 0, .int .i64 0, .int .i64 0, .bool false, .slice none 0 0] 48)) rfl rfl ⟨storeN 48 6 (by kernel_rfl) _ _ _ rfl rfl (by first | kernel_rfl | simp [Value.oneCell']) _ _ _ _ rfl rfl rfl⟩ ?_
                  have H4 : Bun w.heap.size w (V2.alloc (Obj.cells #[.string ⟨#[109, 97, 105, 110]⟩, .slice none 0 0, .int .i64 0, .int .i64 0, .bool false, .slice none 0 0] 48)) RR [bxM V2.heap.size 0 none 0 (.slice none 0 0), BF] := H3.new _ 48
                  obtain ⟨V3, e3⟩ : ∃ V, V2.alloc (Obj.cells #[.string ⟨#[109, 97, 105, 110]⟩, .slice none 0 0, .int .i64 0, .int .i64 0, .bool false, .slice none 0 0] 48) = V := ⟨_, rfl⟩
                  rw [e3] at H4 ⊢
                  clear e3 H3
                  generalize V2.heap.size = bm at *
                  go_wp2_with ((with_reducible refine gate_dst (N := 133) rfl ?_); refine Hold.out ?_)
                  refine ⟨?_⟩
                  refine list_value (v := .agg (callC n A5 c5 (.slice none 0 0)).toArray) rfl rfl ⟨run_bld rfl (by kernel_rfl)⟩ ?_
                  simp only [List.setIfInBounds_toArray, List.set_cons_zero, List.set_cons_succ]
                  refine list_alloc (v := .pointer (some ⟨V3.heap.size, 0, none⟩)) (b := Obj.cells #[.int .i64 0, .int .i64 0, .bool false, .int .i64 0, .bool false, .int .i64 0, .int .i64 0, .slice none 0 0, .int .i64 0, .slice none 0 0, .int .i64 0, .string ⟨#[]⟩, .int .i64 0, .string ⟨#[]⟩, .int .i64 0, .slice none 0 0, .slice none 0 0, .slice none 0 0] 40) rfl rfl ⟨rfl⟩ ?_
                  intro Z eZ
                  simp only [List.setIfInBounds_toArray, List.set_cons_zero, List.set_cons_succ]
                  subst eZ
                  refine list_store (w' := V3.alloc (Obj.cells (callC n A5 c5 (.slice none 0 0)).toArray 40)) rfl rfl ⟨storeN 40 18 (by kernel_rfl) _ _ _ rfl rfl (by first | kernel_rfl | simp [Value.oneCell']) _ _ _ _ rfl rfl rfl⟩ ?_
                  have H5 : Bun w.heap.size w (V3.alloc (Obj.cells (callC n A5 c5 (.slice none 0 0)).toArray 40)) RR [bxC V3.heap.size n A5 c5 0 none 0, bxM bm 0 none 0 (.slice none 0 0), BF] := H4.new _ 40
                  obtain ⟨V4, e4⟩ : ∃ V, V3.alloc (Obj.cells (callC n A5 c5 (.slice none 0 0)).toArray 40) = V := ⟨_, rfl⟩
                  rw [e4] at H5 ⊢
                  clear e4 H4
                  generalize V3.heap.size = bc at *
                  have H6 := (((H5.permB (List.Perm.swap ..)).none_ 40 18).none_ 3 1).none_ 3 1
                  have HB7 := Aside0.mk H6
                  clear H5 H6
                  go_wp2_with fail
                  go_loopw [17, 18] (fun v17 v18 wr2 => ∃ (i : Nat) (AM : Option Addr) (cM : Nat) (AD : Option Addr) (cD : Nat) (AP : Option Addr) (cP : Nat), v17 = .slice AP i cP ∧ v18 = .int .i64 (i : Int) ∧ i ≤ n ∧ Aside0 (Bun w.heap.size w wr2 (rwM i AM cM :: rwD i AD cD :: rwP i AP cP :: RR) [bxM bm i AM cM (.slice none 0 0), bxC bc n A5 c5 i AD cD, BF])) (fun _ v18 _ => n - (intOf v18).toNat)
                  case atStart => exact ⟨0, none, 0, none, 0, none, 0, rfl, rfl, Nat.zero_le _, HB7⟩
                  case round =>
                    clear HB7
                    obtain ⟨i, AM, cM, AD, cD, AP, cP, rfl, rfl, hin, HB⟩ := hrel
                    by_cases hit : i < n
                    · have hd8 : decide ((i : Int) < (n : Int)) = true := decide_eq_true (by omega)
                      have x := HB.out.box _ (List.mem_cons_self ..)
                      have y1 : wr.cell? ⟨bm, 1, none⟩ = some (.slice AM i cM) := x.cell 1
                      clear x
                      go_wp2_with ((with_reducible refine gate_dst (N := 141) rfl ?_); refine Hold.out ?_)
                      refine ⟨?_⟩
                      refine list_alloc (v := .slice (some ⟨wr.heap.size, 0, none⟩) 1 1) (b := Obj.cells [Value.int .i64 1].toArray 3) rfl rfl ⟨run_bsl rfl Try.underlying23 (by kernel_rfl)⟩ ?_
                      intro Z eZ
                      simp only [List.setIfInBounds_toArray, List.set_cons_zero, List.set_cons_succ]
                      subst eZ
                      refine Bun.append HB.out rfl rfl (.tmp 140) (.tmp 141) 23 (.int .i64 0) 8 rfl Try.underlying23 (by kernel_rfl) rfl (by show 0 < 1; decide) (by decide) [Value.int .i64 1] rfl rfl rfl (by intro u hu; simp at hu; subst hu; rfl) (by show (i + 1) * 8 ≤ _; omega) ?_
                      intro AM' cM' V2 H2
                      simp only [List.setIfInBounds_toArray, List.set_cons_zero, List.set_cons_succ]
                      dsimp only [rwM]
                      have x2 := H2.box _ (List.mem_cons_self ..)
                      have f1 : V2.frozen? ⟨bm, 1, none⟩ = false := x2.frozen 1
                      clear y1
                      have y1 : V2.cell? ⟨bm, 1, none⟩ = some (.slice AM i cM) := x2.cell 1
                      clear x2
                      go_wp2_with ((with_reducible refine gate_dst (N := 145) rfl ?_); refine Hold.out ?_)
                      refine ⟨?_⟩
                      have H3 : Bun w.heap.size w (V2.setCell ⟨bm, 1, none⟩ (.slice AM' (i + 1) cM')) (rwM (i + 1) AM' cM' :: rwD i AD cD :: rwP i AP cP :: RR) [bxM bm (i + 1) AM' cM' (.slice none 0 0), bxC bc n A5 c5 i AD cD, BF] := by
                        have := H2.set0 1 (.slice AM' (i + 1) cM')
                        unfold rwM at this ⊢
                        rw [List.replicate_succ', nums_append]
                        exact this
                      obtain ⟨V3, e3⟩ : ∃ V, V2.setCell ⟨bm, 1, none⟩ (.slice AM' (i + 1) cM') = V := ⟨_, rfl⟩
                      rw [e3] at H3 ⊢
                      clear e3 H2 HB f1 y1
                      have H4 := (H3.permB (List.Perm.swap ..)).perm (List.Perm.swap ..)
                      clear H3
                      have x3 := H4.box _ (List.mem_cons_self ..)
                      have y10 : V3.cell? ⟨bc, 17, none⟩ = some (.slice AD i cD) := x3.cell 17
                      clear x3
                      go_wp2_with ((with_reducible refine gate_dst (N := 147) rfl ?_); refine Hold.out ?_)
                      refine ⟨?_⟩
                      refine list_alloc (v := .slice (some ⟨V3.heap.size, 0, none⟩) 1 1) (b := Obj.cells [Value.int .i64 (i : Int)].toArray 3) rfl rfl ⟨run_bsl rfl Try.underlying23 (by kernel_rfl)⟩ ?_
                      intro Z eZ
                      simp only [List.setIfInBounds_toArray, List.set_cons_zero, List.set_cons_succ]
                      subst eZ
                      refine Bun.append H4 rfl rfl (.tmp 145) (.tmp 147) 23 (.int .i64 0) 8 rfl Try.underlying23 (by kernel_rfl) rfl (by show 0 < 1; decide) (by decide) [Value.int .i64 (i : Int)] rfl rfl rfl (by intro u hu; simp at hu; subst hu; rfl) (by show (i + 1) * 8 ≤ _; omega) ?_
                      intro AD' cD' V4 H5
                      simp only [List.setIfInBounds_toArray, List.set_cons_zero, List.set_cons_succ]
                      dsimp only [rwD]
                      have x4 := H5.box _ (List.mem_cons_self ..)
                      have f17 : V4.frozen? ⟨bc, 17, none⟩ = false := x4.frozen 17
                      clear y10
                      have y10 : V4.cell? ⟨bc, 17, none⟩ = some (.slice AD i cD) := x4.cell 17
                      clear x4 H4
                      go_wp2_with ((with_reducible refine gate_dst (N := 152) rfl ?_); refine Hold.out ?_)
                      refine ⟨?_⟩
                      have H6 : Bun w.heap.size w (V4.setCell ⟨bc, 17, none⟩ (.slice AD' (i + 1) cD')) (rwD (i + 1) AD' cD' :: rwM (i + 1) AM' cM' :: rwP i AP cP :: RR) [bxC bc n A5 c5 (i + 1) AD' cD', bxM bm (i + 1) AM' cM' (.slice none 0 0), BF] := by
                        have := H5.set0 17 (.slice AD' (i + 1) cD')
                        unfold rwD at this ⊢
                        rw [dsts_snoc, nums_append]
                        exact this
                      obtain ⟨V5, e5⟩ : ∃ V, V4.setCell ⟨bc, 17, none⟩ (.slice AD' (i + 1) cD') = V := ⟨_, rfl⟩
                      rw [e5] at H6 ⊢
                      clear e5 H5 f17 y10
                      refine list_call (v := .agg #[.bool false, .int .i64 (i : Int)]) rfl rfl (ER.go (by go_simp)) (PMirFuel.ferrulelaw12_local.calls (i : Int) false (i : Int) V5 rfl) ?_
                      intro V6 q6
                      simp only [List.setIfInBounds_toArray, List.set_cons_zero, List.set_cons_succ]
                      have H7 := ((H6.below q6).perm (List.Perm.swap ..)).perm (perm2 _ _ _ _)
                      clear H6
                      refine list_value (v := .agg (encI none (pr i)).toArray) rfl rfl ⟨run_bld rfl (by kernel_rfl)⟩ ?_
                      simp only [List.setIfInBounds_toArray, List.set_cons_zero, List.set_cons_succ]
                      refine list_alloc (v := .slice (some ⟨V6.heap.size, 0, none⟩) 1 1) (b := Obj.cells (encI none (pr i)).toArray 40) rfl rfl ⟨run_bsl rfl Try.underlying41 (by kernel_rfl)⟩ ?_
                      intro Z eZ
                      simp only [List.setIfInBounds_toArray, List.set_cons_zero, List.set_cons_succ]
                      subst eZ
                      refine Bun.append H7 rfl rfl (.tmp 150) (.tmp 154) 41 (.agg #[.int .i64 0, .int .i64 0, .bool false, .int .i64 0, .bool false, .int .i64 0, .int .i64 0, .slice none 0 0, .int .i64 0, .slice none 0 0, .int .i64 0, .string ⟨#[]⟩, .int .i64 0, .string ⟨#[]⟩, .int .i64 0, .slice none 0 0, .slice none 0 0, .slice none 0 0]) 240 rfl Try.underlying41 (by kernel_rfl) rfl (by show 0 < 18; decide) (by decide) (encI none (pr i)) rfl rfl rfl (encI_one _ _) (by show (i + 1) * 240 ≤ _; omega) ?_
                      intro AP' cP' V7 H8
                      simp only [List.setIfInBounds_toArray, List.set_cons_zero, List.set_cons_succ]
                      dsimp only [rwP]
                      have H9 : Bun w.heap.size w V7 (rwM (i + 1) AM' cM' :: rwD (i + 1) AD' cD' :: rwP (i + 1) AP' cP' :: RR) [bxM bm (i + 1) AM' cM' (.slice none 0 0), bxC bc n A5 c5 (i + 1) AD' cD', BF] := by
                        have := (H8.perm (perm2 _ _ _ _).symm).permB (List.Perm.swap ..)
                        unfold rwP at this ⊢
                        rw [prints_snoc, List.flatMap_append]
                        exact this
                      have HB9 := Aside0.mk H9
                      clear H7 H8 H9 q6
                      go_wp2_with fail
                      exact ⟨⟨i + 1, AM', cM', AD', cD', AP', cP', rfl, rfl, by omega, HB9⟩, by simp [intOf]; omega⟩
                    · have hd8 : decide ((i : Int) < (n : Int)) = false := decide_eq_false (by omega)
                      obtain rfl : i = n := by omega
                      have x := (HB.out.permB (List.Perm.swap ..)).box _ (List.mem_cons_self ..)
                      go_wp2_with ((with_reducible refine gate_dst (N := 156) rfl ?_); refine Hold.out ?_)
                      refine ⟨?_⟩
                      refine list_value (v := .agg (callC i A5 c5 (.slice AD i cD)).toArray) rfl rfl ⟨loadN 40 18 (by kernel_rfl) Try.underlying40 _ _ _ x rfl _ _ _ rfl rfl⟩ ?_
                      simp only [List.setIfInBounds_toArray, List.set_cons_zero, List.set_cons_succ]
                      refine list_alloc (v := .slice (some ⟨wr.heap.size, 0, none⟩) 1 1) (b := Obj.cells (callC i A5 c5 (.slice AD i cD)).toArray 40) rfl rfl ⟨run_bsl rfl Try.underlying41 (by kernel_rfl)⟩ ?_
                      intro V1 e1
                      simp only [List.setIfInBounds_toArray, List.set_cons_zero, List.set_cons_succ]
                      have H1 := HB.out.row (callC i A5 c5 (.slice AD i cD)) 40 1 18 rfl (by decide)
                      rw [e1] at H1
                      clear e1 HB x
                      generalize wr.heap.size = b9 at *
                      have H2 := H1.perm (List.Perm.cons _ (perm2 _ _ _ _))
                      clear H1
                      refine list_value (v := .slice AP i cP) rfl rfl ⟨rfl⟩ ?_
                      simp only [List.setIfInBounds_toArray, List.set_cons_zero, List.set_cons_succ]
                      refine Bun.appendRow H2 rfl rfl (.tmp 157) (.tmp 158) 41 (.agg #[.int .i64 0, .int .i64 0, .bool false, .int .i64 0, .bool false, .int .i64 0, .int .i64 0, .slice none 0 0, .int .i64 0, .slice none 0 0, .int .i64 0, .string ⟨#[]⟩, .int .i64 0, .string ⟨#[]⟩, .int .i64 0, .slice none 0 0, .slice none 0 0, .slice none 0 0]) 240 rfl Try.underlying41 (by kernel_rfl) rfl (by show 0 < 18; decide) (by decide) rfl rfl rfl (by show 0 < i; omega) (fun u hu => by
                        obtain ⟨p, _, hp⟩ := List.mem_flatMap.1 hu
                        exact encI_one _ _ u hp) (by show (1 + i) * 240 ≤ _; omega) ?_
                      intro AX cX V2 H3
                      simp only [List.setIfInBounds_toArray, List.set_cons_zero, List.set_cons_succ]
                      dsimp only [rwP]
                      clear H2
                      refine list_value (v := .agg #[.int .i64 3, .bool false, .int .i64 0, .int .i64 0, .int .i64 0, .slice none 0 0]) rfl rfl ⟨run_bld rfl (by kernel_rfl)⟩ ?_
                      simp only [List.setIfInBounds_toArray, List.set_cons_zero, List.set_cons_succ]
                      refine list_value (v := .agg #[.slice AX (1 + i) cX, .int .i64 3, .bool false, .int .i64 0, .int .i64 0, .int .i64 0, .slice none 0 0]) rfl rfl ⟨run_bld rfl (by kernel_rfl)⟩ ?_
                      simp only [List.setIfInBounds_toArray, List.set_cons_zero, List.set_cons_succ]
                      refine list_alloc (v := .slice (some ⟨V2.heap.size, 0, none⟩) 1 1) (b := Obj.cells [Value.slice AX (1 + i) cX, .int .i64 3, .bool false, .int .i64 0, .int .i64 0, .int .i64 0, .slice none 0 0].toArray 45) rfl rfl ⟨run_bsl rfl Try.underlying46 (by kernel_rfl)⟩ ?_
                      intro V3 e3
                      simp only [List.setIfInBounds_toArray, List.set_cons_zero, List.set_cons_succ]
                      have H4 := H3.row [Value.slice AX (1 + i) cX, .int .i64 3, .bool false, .int .i64 0, .int .i64 0, .int .i64 0, .slice none 0 0] 45 1 7 rfl (by decide)
                      rw [e3] at H4
                      clear e3 H3
                      generalize V2.heap.size = bk at *
                      have x1 := H4.box _ (List.mem_cons_self ..)
                      have y5 : V3.cell? ⟨bm, 5, none⟩ = some (.slice none 0 0) := x1.cell 5
                      have f5 : V3.frozen? ⟨bm, 5, none⟩ = false := x1.frozen 5
                      clear x1
                      go_wp2_with ((with_reducible refine gate_dst (N := 165) rfl ?_); refine Hold.out ?_)
                      refine ⟨?_⟩
                      have H5 := H4.set0 5 (.slice (some ⟨bk, 0, none⟩) 1 1)
                      obtain ⟨V4, e4⟩ : ∃ V, V3.setCell ⟨bm, 5, none⟩ (.slice (some ⟨bk, 0, none⟩) 1 1) = V := ⟨_, rfl⟩
                      rw [show (bxM bm i AM cM (.slice none 0 0)).at_ = bm from rfl, e4] at H5
                      rw [e4]
                      clear e4 H4 y5 f5
                      obtain hRR := HRR.out
                      obtain hBF := HBF.out
                      subst hRR
                      subst hBF
                      clear HRR HBF
                      have hij : i = j + (t + 1) := by omega
                      obtain ⟨kM, kF, cW, lW⟩ := facts words i t j (by omega) hij HAL.out H5
                      clear hij
                      have hW : (words.take i).length = i := by rw [List.length_take]; omega
                      have x5 := H5.box _ (List.mem_cons_self ..)
                      have xF := H5.box _ (List.mem_cons_of_mem _ (List.mem_cons_of_mem _ (List.mem_cons_self ..)))
                      have hb4 := H5.hb
                      have hs4 := H5.hs
                      clear H5
                      refine list_value (v := .agg #[.string ⟨#[109, 97, 105, 110]⟩, .slice AM i cM, .int .i64 0, .int .i64 0, .bool false, .slice (some ⟨bk, 0, none⟩) 1 1]) rfl rfl ⟨loadN 48 6 (by kernel_rfl) Try.underlying48 _ _ _ x5 rfl _ _ _ rfl rfl⟩ ?_
                      simp only [List.setIfInBounds_toArray, List.set_cons_zero, List.set_cons_succ]
                      refine list_value (v := .agg #[.string ⟨#[102]⟩, .slice A (j + (t + 1) + 1) c, .int .i64 ((1 + j : Nat) : Int), .int .i64 (i : Int), .bool false, .slice (some ⟨bs, 0, none⟩) 1 1]) rfl rfl ⟨loadN 48 6 (by kernel_rfl) Try.underlying48 _ _ _ xF rfl _ _ _ rfl rfl⟩ ?_
                      simp only [List.setIfInBounds_toArray, List.set_cons_zero, List.set_cons_succ]
                      refine list_alloc (v := .slice (some ⟨V4.heap.size, 0, none⟩) 2 2) (b := Obj.cells #[.string ⟨#[109, 97, 105, 110]⟩, .slice AM i cM, .int .i64 0, .int .i64 0, .bool false, .slice (some ⟨bk, 0, none⟩) 1 1, .string ⟨#[102]⟩, .slice A (j + (t + 1) + 1) c, .int .i64 ((1 + j : Nat) : Int), .int .i64 (i : Int), .bool false, .slice (some ⟨bs, 0, none⟩) 1 1] 48) rfl rfl ⟨run_bsl rfl Try.underlying22 (by kernel_rfl)⟩ ?_
                      intro V5 e5
                      simp only [List.setIfInBounds_toArray, List.set_cons_zero, List.set_cons_succ]
                      have HC : Kd.C k48 V5 (some ⟨V4.heap.size, 0, none⟩) 2 (fs (words.take i) t) := e5 ▸ lit_C k48 rfl 48 (reps_cons kM rfl (reps_cons kF rfl (Reps.none _ _))) (by show 2 ≤ 9223372036854775807; decide)
                      have q5 : Below V4.heap.size V4 V5 := e5 ▸ below_alloc (Below.refl _ _) _
                      clear e5 x5 xF kM kF
                      have hb5 := below_then hb4 hs4 q5
                      have cW5 := Kd.C_below cW q5
                      go_wp2_with fail
                      obtain ⟨st, hp, hst⟩ := ends (words.take i) t (by omega) (by omega)
                      refine (run_said (fs (words.take i) t) _ 2 1000 _ HC (Nat.le_refl 2) (chk (words.take i) t (by omega) (by omega)) (formed (words.take i) t (by omega) (by omega)) (main_at (words.take i) t) (by decide) (f := fM (words.take i)) rfl rfl rfl (by decide) (kd := 1) (cd := 0) (st := st) ⟨[], [], .inl ⟨hst, rfl, rfl⟩⟩).mono ?_
                      rintro e WR ⟨hbR, A', c', rfl, hc', hC⟩
                      have hl : ((words.take i).map w32).length = i := by rw [List.length_map, hW]
                      rw [hp, hl] at hc' hC ⊢
                      have hsR : w.heap.size ≤ V5.heap.size := Nat.le_trans hs4 q5.size
                      have hb6 := below_then hb5 hsR hbR
                      have cW6 := Kd.C_below cW5 hbR
                      go_wp2_with fail
                      obtain ⟨WB, hWB⟩ : ∃ W, WR.alloc (Obj.cells #[.int .i64 1, .int .i64 0, .slice A' i c'] 26) = W := ⟨_, rfl⟩
                      rw [hWB]
                      have hbB : Below WR.heap.size WR WB := hWB ▸ below_alloc (Below.refl _ _) _
                      clear hWB
                      have hs := same_said 1 0 ((words.take i).map w32) A' A6 c' c6 WB (by rw [hl]; omega) (by rw [hl]; exact Kd.C_below hC hbB) (by rw [hl]; exact hc') (by rw [hl]; exact Kd.C_below cW6 hbB) (by rw [hl]; exact lW)
                      rw [hl] at hs
                      refine hs.mono ?_
                      rintro e WE ⟨rfl, hbE⟩
                      have hsR2 : w.heap.size ≤ WR.heap.size := Nat.le_trans hsR hbR.size
                      have hb7 := below_then hb6 hsR2 hbB
                      have hb8 := below_then hb7 (Nat.le_trans hsR2 hbB.size) hbE
                      clear HR hlen
                      go_wp2_with fail
                      go_ret
                      exact ⟨rfl, hb8⟩
theorem passes_walk (A0 : Option Addr) (c0 : Nat) (words : List Int) (turn : Int) (w : World) (hR : ReadsInt w .i64 A0 words.length words) : Calls Try.prog 6 #[.slice A0 words.length c0, .int .i64 turn] w fun e w' => e = .returned (.bool true) ∧ Below w.heap.size w w' := by
  by_cases hn : words.length ≤ 8
  · exact passes_le A0 c0 words turn w hR hn
  · exact passes_gt A0 c0 words turn w hR (by omega)
end Go.Proofs.Ytpphpcmbpbppoaa.Mach
end
