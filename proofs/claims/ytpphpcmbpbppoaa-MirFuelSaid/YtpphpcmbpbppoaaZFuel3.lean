/- Steps toward the law Fuel, merged from several texts (some of them began as the kit's print). No condition. -/
import Derived.Test.YtpphpcmbpbppoaaProg
import Derived.Below
import Derived.Deep.Draws
import Derived.Deep.AppendLies
import Derived.Maps.AppendAt
import Derived.OwnWalk
import Derived.Laws.BytesArg
import Derived.Laws.MakeOwn
import Derived.Laws.OwnMore
import Derived.Deep.OwnRows
import Derived.Tactics
import Derived.Lib.ConvBytes
import Derived.Laws.Slices
import Derived.WalkKit
import Derived.KernelRfl
import Derived.RowKit3
import Derived.Deep.LoopGhost
import Derived.Deep.QuietTactic
import Derived.BigQuiet
import Derived.WideLaws
import Derived.Deep.DeepCutAuto
import Derived.Deep.CutBlock
import Derived.Deep.RegionHeld3
import Derived.Laws.Rows
import Derived.Lib.AppendStr
import Derived.ArgAppend
import Derived.Laws.IdiomCopy
import Derived.OrdersHeld
import Derived.Laws.BitsLemmas
import Derived.RowKit
import Derived.Orders
import Derived.Still
import Derived.Test.YtpphpcmbpbppoaaZFuel2
section
namespace Go.Proofs.Ytpphpcmbpbppoaa.Mach
open Go.RowKit Go.Proofs.YtpphpcmbpbppoaaW.PrintWords Go.Proofs.YtpphpcmbpbppoaaW.PrintLast Go.Proofs.YtpphpcmbpbppoaaW.PrintMore
set_option linter.unusedVariables false
def Has (w : World) (b : Nat) (cs : Array Value) (t : TypeId) : Prop := w.heap[b]? = some (.cells cs t (0, 0))
namespace Has
variable {w w' : World} {b b' : Nat} {cs cs' : Array Value} {t t' : TypeId}
theorem lt (h : Has w b cs t) : b < w.heap.size := (Array.getElem?_eq_some_iff.1 h).1
theorem cell (h : Has w b cs t) (i : Nat) : w.cell? ⟨b, i, none⟩ = cs[i]? := by
 unfold Has at h; simp [World.cell?, h]
theorem frozen (h : Has w b cs t) (i : Nat) : w.frozen? ⟨b, i, none⟩ = false := by
 unfold Has at h; simp [World.frozen?, h]
theorem of_block (h : Has w b cs t) (e : w'.heap[b]? = w.heap[b]?) : Has w' b cs t := by unfold Has; rw [e]; exact h
theorem ne (h : Has w b cs t) (h' : Has w b' cs' t') (hne : t ≠ t') : b ≠ b' := by
 rintro rfl
 unfold Has at h h'
 rw [h] at h'
 injection h' with h'
 injection h' with _ h'
 exact hne h'
theorem set_ (h : Has w b cs t) (i : Nat) (v : Value) : Has (w.setCell ⟨b, i, none⟩ v) b (cs.setIfInBounds i v) t := by
 unfold Has at *
 simp [World.setCell, Array.getElem?_modify, h]
theorem other (h : Has w b cs t) {a : Addr} (hne : b ≠ a.block) (v : Value) : Has (w.setCell a v) b cs t :=
 h.of_block (Below.heap_setCell w a v b hne)
theorem alloc (h : Has w b cs t) (o : Obj) : Has (w.alloc o) b cs t := h.of_block (Below.heap_alloc w o b h.lt)
theorem drewN (h : Has w b cs t) (n : Nat) : Has (w.drewN n) b cs t := h
theorem below {B : Nat} (h : Has w b cs t) (hb : Below B w w') (hB : b < B) : Has w' b cs t := h.of_block (hb.block b hB)
theorem belowS (h : Has w b cs t) (hb : Below w.heap.size w w') : Has w' b cs t := h.of_block (hb.block b h.lt)
theorem new (w : World) (cs : Array Value) (t : TypeId) : Has (w.alloc (.cells cs t)) w.heap.size cs t := by
 exact heap_alloc_new w _
end Has
structure Kept (S : Nat → Prop) (w w' : World) : Prop where
 os : w'.os = w.os
 tape : w'.tape = w.tape
 output : w'.output = w.output
 size : w.heap.size ≤ w'.heap.size
 block : ∀ k, k < w.heap.size → ¬ S k → w'.heap[k]? = w.heap[k]?
def Grow (S : Nat → Prop) (w w' : World) (b : Nat) : Prop := S b ∨ (w.heap.size ≤ b ∧ b < w'.heap.size)
namespace Kept
variable {S S' : Nat → Prop} {w w1 w2 : World}
theorem refl (S : Nat → Prop) (w : World) : Kept S w w := ⟨rfl, rfl, rfl, Nat.le_refl _, fun _ _ _ => rfl⟩
theorem mono (h : Kept S w w1) (hS : ∀ b, S b → S' b) : Kept S' w w1 := ⟨h.os, h.tape, h.output, h.size, fun k hk hn => h.block k hk (fun x => hn (hS k x))⟩
theorem trans (h : Kept S w w1) (k : Kept (Grow S w w1) w1 w2) : Kept S w w2 :=
 ⟨k.os.trans h.os, k.tape.trans h.tape, k.output.trans h.output, Nat.le_trans h.size k.size, fun i hi hn =>
  (k.block i (Nat.lt_of_lt_of_le hi h.size) (fun x => x.elim hn (fun y => by omega))).trans (h.block i hi hn)⟩
theorem then_ (h : Kept S w w1) (k : Kept S w1 w2) : Kept S w w2 := h.trans (k.mono fun _ x => .inl x)
theorem of_below (h : Below w.heap.size w w1) : Kept S w w1 := ⟨h.os, h.tape, h.output, h.size, fun k hk _ => h.block k hk⟩
theorem drewN (h : Kept S w w1) (n : Nat) : Kept S w (w1.drewN n) := ⟨h.os, h.tape, h.output, h.size, h.block⟩
theorem alloc (h : Kept S w w1) (o : Obj) : Kept S w (w1.alloc o) :=
 h.then_ (of_below (below_alloc (Below.refl _ _) o))
theorem setCell (h : Kept S w w1) {a : Addr} (ha : S a.block) (v : Value) : Kept S w (w1.setCell a v) :=
 h.then_ ⟨rfl, rfl, rfl, by simp [World.setCell], fun k hk hn => Below.heap_setCell _ _ _ _ (fun e => hn (e ▸ ha))⟩
theorem setCellG (h : Kept S w w1) {a : Addr} (ha : w.heap.size ≤ a.block) (v : Value) : Kept S w (w1.setCell a v) :=
 ⟨h.os, h.tape, h.output, by simp [World.setCell, h.size], fun k hk hn => (Below.heap_setCell _ _ _ _ (by omega)).trans (h.block k hk hn)⟩
theorem grown (h : Kept S w w1) {row : Option Nat} (hg : w1.grownBy w2 row) (hr : ∀ k, row = some k → Grow S w w1 k) : Kept S w w2 :=
 h.trans ⟨hg.os, hg.tape, hg.output, hg.size, fun k hk hn => hg.block k hk (fun e => hn (hr k e.symm))⟩
theorem below (h : Kept S w w1) (hb : Below w1.heap.size w1 w2) : Kept S w w2 := h.then_ (of_below hb)
theorem has {b : Nat} {cs : Array Value} {t : TypeId} (h : Kept S w w1) (hb : Has w b cs t) (hn : ¬ S b) : Has w1 b cs t := hb.of_block (h.block b hb.lt hn)
theorem below_of (h : Kept S w w1) {B : Nat} (hB : ∀ b, S b → B ≤ b) (hs : B ≤ w.heap.size) : Below B w w1 :=
 ⟨h.os, h.tape, h.output, h.size, fun k hk => h.block k (by omega) (fun x => by have := hB k x; omega)⟩
end Kept
def clsBlocks : Nat → Nat | 0 => 64 | 1 => 32 | 2 => 16 | _ => 8
def bits (used : Nat → Nat → Bool) (k : Nat) : Array Value := ((List.range (clsBlocks k)).map fun i => Value.bool (used k i)).toArray
theorem bits_get (used : Nat → Nat → Bool) (k i : Nat) (h : i < clsBlocks k) : (bits used k)[i]? = some (.bool (used k i)) := by
 simp [bits, h]
def setUsed (used : Nat → Nat → Bool) (k i : Nat) (v : Bool) : Nat → Nat → Bool := fun k' i' => if k' = k ∧ i' = i then v else used k' i'
theorem bits_set (used : Nat → Nat → Bool) (k i : Nat) (v : Bool) : (bits used k).setIfInBounds i (.bool v) = bits (setUsed used k i v) k := by
 apply Array.ext
 ·simp [bits]
 ·intro j h1 h2
  simp [bits] at h1 h2 ⊢
  rw [List.getElem_set]
  by_cases e : i = j
  ·subst e; simp [setUsed]
  ·have e2 : ¬ j = i := fun h => e h.symm
   simp [setUsed, e, e2]
theorem bits_other (used : Nat → Nat → Bool) (k i : Nat) (v : Bool) {j : Nat} (h : j ≠ k) : bits (setUsed used k i v) j = bits used j := by
 simp [bits, setUsed, h]
structure HeapIs (w : World) (h : Nat) (u : Nat → Nat) (used : Nat → Nat → Bool) : Prop where
 head : Has w h #[.bool true, .slice (some ⟨u 0, 0, none⟩) 64 64, .slice (some ⟨u 1, 0, none⟩) 32 32, .slice (some ⟨u 2, 0, none⟩) 16 16, .slice (some ⟨u 3, 0, none⟩) 8 8] 129
 row : ∀ k, k < 4 → Has w (u k) (bits used k) 4
 apart : ∀ j k, j < 4 → k < 4 → j ≠ k → u j ≠ u k
namespace HeapIs
variable {w w' : World} {h : Nat} {u : Nat → Nat} {used : Nat → Nat → Bool}
theorem made (H : HeapIs w h u used) : w.cell? ⟨h, 0, none⟩ = some (.bool true) := by rw [H.head.cell]; rfl
theorem sl (H : HeapIs w h u used) (k : Nat) (hk : k < 4) : w.cell? ⟨h, 1 + k, none⟩ = some (.slice (some ⟨u k, 0, none⟩) (clsBlocks k) (clsBlocks k)) := by
 rw [H.head.cell]
 match k, hk with
 | 0, _ => rfl
 | 1, _ => rfl
 | 2, _ => rfl
 | 3, _ => rfl
theorem bit (H : HeapIs w h u used) (k : Nat) (hk : k < 4) (i : Nat) (hi : i < clsBlocks k) : w.cell? ⟨u k, i, none⟩ = some (.bool (used k i)) := by
 rw [(H.row k hk).cell, bits_get _ _ _ hi]
theorem of_blocks (H : HeapIs w h u used) (hh : w'.heap[h]? = w.heap[h]?) (hu : ∀ k, k < 4 → w'.heap[u k]? = w.heap[u k]?) : HeapIs w' h u used :=
 ⟨H.head.of_block hh, fun k hk => (H.row k hk).of_block (hu k hk), H.apart⟩
theorem below (H : HeapIs w h u used) (hb : Below w.heap.size w w') : HeapIs w' h u used := H.of_blocks (hb.block _ H.head.lt) (fun k hk => hb.block _ (H.row k hk).lt)
theorem set_ (H : HeapIs w h u used) (k : Nat) (hk : k < 4) (i : Nat) (v : Bool) : HeapIs (w.setCell ⟨u k, i, none⟩ (.bool v)) h u (setUsed used k i v) := by
 refine ⟨H.head.other (H.head.ne (H.row k hk) (by decide)) _, fun j hj => ?_, H.apart⟩
 by_cases e : j = k
 ·subst e
  have := (H.row j hj).set_ i (.bool v)
  rwa [bits_set] at this
 ·rw [bits_other _ _ _ _ e]
  exact (H.row j hj).other (H.apart j k hj hk e) _
theorem other (H : HeapIs w h u used) {a : Addr} (h1 : h ≠ a.block) (h2 : ∀ k, k < 4 → u k ≠ a.block) (v : Value) : HeapIs (w.setCell a v) h u used :=
 H.of_blocks (Below.heap_setCell _ _ _ _ h1) (fun k hk => Below.heap_setCell _ _ _ _ (h2 k hk))
end HeapIs
def hfind (used : Nat → Nat → Bool) (x : Int) : Int × Int × Int × Bool :=
 if x < 262144 then (0, 0, 0, false)
 else if x < 263168 then (0, (x - 262144) / 16, x - 262144 - 16 * ((x - 262144) / 16), used 0 ((x - 262144) / 16).toNat)
 else if x < 265216 then (1, (x - 263168) / 64, x - 263168 - 64 * ((x - 263168) / 64), used 1 ((x - 263168) / 64).toNat)
 else if x < 269312 then (2, (x - 265216) / 256, x - 265216 - 256 * ((x - 265216) / 256), used 2 ((x - 265216) / 256).toNat)
 else if x < 273408 then (3, (x - 269312) / 512, x - 269312 - 512 * ((x - 269312) / 512), used 3 ((x - 269312) / 512).toNat)
 else (0, 0, 0, false)
theorem hfind_bounds (used : Nat → Nat → Bool) (x : Int) : 0 ≤ (hfind used x).1 ∧ (hfind used x).1 < 4 ∧ 0 ≤ (hfind used x).2.1 ∧ (hfind used x).2.1 < clsBlocks (hfind used x).1.toNat ∧ 0 ≤ (hfind used x).2.2.1 ∧ (hfind used x).2.2.1 < 512 := by
 unfold hfind
 repeat (first | split | (refine ⟨?_, ?_, ?_, ?_, ?_, ?_⟩ <;> simp [clsBlocks] <;> omega))
theorem find (h : Nat) (u : Nat → Nat) (used : Nat → Nat → Bool) (x : Int) (w : World) (H : HeapIs w h u used) :
  Calls Try.prog 133 #[.pointer (some ⟨h, 0, none⟩), .int .i64 x] w fun e w' =>
   e = .returned (.tuple #[.int .i64 (hfind used x).1, .int .i64 (hfind used x).2.1, .int .i64 (hfind used x).2.2.1, .bool (hfind used x).2.2.2]) ∧ Below w.heap.size w w' := by
 by_cases c0 : x < 262144
 ·have e : hfind used x = (0, 0, 0, false) := by unfold hfind; rw [if_pos c0]
  rw [e]; exact find_low h x w c0
 by_cases c1 : x < 263168
 ·have e : hfind used x = (0, (x - 262144) / 16, x - 262144 - 16 * ((x - 262144) / 16), used 0 ((x - 262144) / 16).toNat) := by unfold hfind; rw [if_neg c0, if_pos c1]
  rw [e]; exact find_0 h x w (by omega) c1 (u 0) _ (H.sl 0 (by omega)) (H.bit 0 (by omega) _ (by simp [clsBlocks]; omega))
 by_cases c2 : x < 265216
 ·have e : hfind used x = (1, (x - 263168) / 64, x - 263168 - 64 * ((x - 263168) / 64), used 1 ((x - 263168) / 64).toNat) := by unfold hfind; rw [if_neg c0, if_neg c1, if_pos c2]
  rw [e]; exact find_1 h x w (by omega) c2 (u 1) _ (H.sl 1 (by omega)) (H.bit 1 (by omega) _ (by simp [clsBlocks]; omega))
 by_cases c3 : x < 269312
 ·have e : hfind used x = (2, (x - 265216) / 256, x - 265216 - 256 * ((x - 265216) / 256), used 2 ((x - 265216) / 256).toNat) := by unfold hfind; rw [if_neg c0, if_neg c1, if_neg c2, if_pos c3]
  rw [e]; exact find_2 h x w (by omega) c3 (u 2) _ (H.sl 2 (by omega)) (H.bit 2 (by omega) _ (by simp [clsBlocks]; omega))
 by_cases c4 : x < 273408
 ·have e : hfind used x = (3, (x - 269312) / 512, x - 269312 - 512 * ((x - 269312) / 512), used 3 ((x - 269312) / 512).toNat) := by unfold hfind; rw [if_neg c0, if_neg c1, if_neg c2, if_neg c3, if_pos c4]
  rw [e]; exact find_3 h x w (by omega) c4 (u 3) _ (H.sl 3 (by omega)) (H.bit 3 (by omega) _ (by simp [clsBlocks]; omega))
 ·have e : hfind used x = (0, 0, 0, false) := by unfold hfind; rw [if_neg c0, if_neg c1, if_neg c2, if_neg c3, if_neg c4]
  rw [e]; exact find_high h x w (by omega)
end Go.Proofs.Ytpphpcmbpbppoaa.Mach
end
section
namespace Go.Proofs.Ytpphpcmbpbppoaa.Mach
open Go.RowKit Go.Proofs.YtpphpcmbpbppoaaW.PrintWords Go.Proofs.YtpphpcmbpbppoaaW.PrintLast Go.Proofs.YtpphpcmbpbppoaaW.PrintMore
set_option linter.unusedVariables false
theorem fl0 (w : World) : (Instr.field 131 cls0 0).run Try.prog w = .ok (.int .i64 4) w := by kernel_rfl
theorem fl1 (w : World) : (Instr.field 131 cls1 0).run Try.prog w = .ok (.int .i64 16) w := by kernel_rfl
theorem fl2 (w : World) : (Instr.field 131 cls2 0).run Try.prog w = .ok (.int .i64 64) w := by kernel_rfl
theorem fl3 (w : World) : (Instr.field 131 cls3 0).run Try.prog w = .ok (.int .i64 128) w := by kernel_rfl
theorem fb0 (w : World) : (Instr.field 131 cls0 2).run Try.prog w = .ok (.int .i64 262144) w := by kernel_rfl
theorem fb1 (w : World) : (Instr.field 131 cls1 2).run Try.prog w = .ok (.int .i64 263168) w := by kernel_rfl
theorem fb2 (w : World) : (Instr.field 131 cls2 2).run Try.prog w = .ok (.int .i64 265216) w := by kernel_rfl
theorem fb3 (w : World) : (Instr.field 131 cls3 2).run Try.prog w = .ok (.int .i64 269312) w := by kernel_rfl
def withinB (used : Nat → Nat → Bool) (x : Int) : Bool := decide (Int.tmod x 4 = 0) && (hfind used x).2.2.2
set_option maxHeartbeats 1000000 in
set_option maxRecDepth 100000 in
theorem within_odd (h : Nat) (x : Int) (w : World) (hc : w.cell? ⟨h, 0, none⟩ = some (.bool true)) (hx : (Int.tmod x 4 == 0) = false) (hx' : (Int.tmod x 4 != 0) = true) :
  Calls Try.prog 117 #[.pointer (some ⟨h, 0, none⟩), .int .i64 x, .int .i64 1] w fun e w' => e = .returned (.bool false) ∧ Below w.heap.size w w' := by
 go_enter Try.func117, Try.ntmps117
 go_wp2_with (go_at_call 132; refine (none_no h _ hc).mono ?_; rintro e w1 ⟨rfl, rfl⟩)
 go_ret
 exact ⟨rfl, Below.refl _ _⟩
set_option maxHeartbeats 1000000 in
set_option maxRecDepth 100000 in
theorem within_no (h : Nat) (x k i off : Int) (w : World) (hc : w.cell? ⟨h, 0, none⟩ = some (.bool true)) (hx : (Int.tmod x 4 == 0) = true) (hx' : (Int.tmod x 4 != 0) = false)
  (F : Calls Try.prog 133 #[.pointer (some ⟨h, 0, none⟩), .int .i64 x] w fun e w' => e = .returned (.tuple #[.int .i64 k, .int .i64 i, .int .i64 off, .bool false]) ∧ Below w.heap.size w w') :
  Calls Try.prog 117 #[.pointer (some ⟨h, 0, none⟩), .int .i64 x, .int .i64 1] w fun e w' => e = .returned (.bool false) ∧ Below w.heap.size w w' := by
 have FF := Aside0.mk F
 clear F
 go_enter Try.func117, Try.ntmps117
 go_wp2_with (first | (go_at_call 132; refine (none_no h _ hc).mono ?_; rintro e w1 ⟨rfl, rfl⟩) | (go_at_call 133; refine FF.out.mono ?_; rintro e w1 ⟨rfl, hb⟩))
 go_ret
 exact ⟨rfl, hb⟩
set_option maxHeartbeats 1000000 in
set_option maxRecDepth 100000 in
theorem within_yes0 (h : Nat) (x i off : Int) (w : World) (hc : w.cell? ⟨h, 0, none⟩ = some (.bool true)) (hx : (Int.tmod x 4 == 0) = true) (hx' : (Int.tmod x 4 != 0) = false)
  (h0 : 0 ≤ off) (h1 : off < 16) (F : Calls Try.prog 133 #[.pointer (some ⟨h, 0, none⟩), .int .i64 x] w fun e w' => e = .returned (.tuple #[.int .i64 0, .int .i64 i, .int .i64 off, .bool true]) ∧ Below w.heap.size w w') :
  Calls Try.prog 117 #[.pointer (some ⟨h, 0, none⟩), .int .i64 x, .int .i64 1] w fun e w' => e = .returned (.bool true) ∧ Below w.heap.size w w' := by
 have FF := Aside0.mk F
 have ix := ix0
 have fl := fl0
 have d : decide (1 ≤ 4 - off / 4) = true := by simp; omega
 clear F
 go_enter Try.func117, Try.ntmps117
 go_wp2_with (first | (go_at_call 132; refine (none_no h _ hc).mono ?_; rintro e w1 ⟨rfl, rfl⟩) | (go_at_call 133; refine FF.out.mono ?_; rintro e w1 ⟨rfl, hb⟩) | (go_at_call 54; refine (all _).mono ?_; rintro e w2 ⟨rfl, hb2⟩))
 go_ret
 exact ⟨by first | rfl | (congr 2), below_then hb hb.size hb2⟩
set_option maxHeartbeats 1000000 in
set_option maxRecDepth 100000 in
theorem within_yes1 (h : Nat) (x i off : Int) (w : World) (hc : w.cell? ⟨h, 0, none⟩ = some (.bool true)) (hx : (Int.tmod x 4 == 0) = true) (hx' : (Int.tmod x 4 != 0) = false)
  (h0 : 0 ≤ off) (h1 : off < 64) (F : Calls Try.prog 133 #[.pointer (some ⟨h, 0, none⟩), .int .i64 x] w fun e w' => e = .returned (.tuple #[.int .i64 1, .int .i64 i, .int .i64 off, .bool true]) ∧ Below w.heap.size w w') :
  Calls Try.prog 117 #[.pointer (some ⟨h, 0, none⟩), .int .i64 x, .int .i64 1] w fun e w' => e = .returned (.bool true) ∧ Below w.heap.size w w' := by
 have FF := Aside0.mk F
 have ix := ix1
 have fl := fl1
 have d : decide (1 ≤ 16 - off / 4) = true := by simp; omega
 clear F
 go_enter Try.func117, Try.ntmps117
 go_wp2_with (first | (go_at_call 132; refine (none_no h _ hc).mono ?_; rintro e w1 ⟨rfl, rfl⟩) | (go_at_call 133; refine FF.out.mono ?_; rintro e w1 ⟨rfl, hb⟩) | (go_at_call 54; refine (all _).mono ?_; rintro e w2 ⟨rfl, hb2⟩))
 go_ret
 exact ⟨by first | rfl | (congr 2), below_then hb hb.size hb2⟩
set_option maxHeartbeats 1000000 in
set_option maxRecDepth 100000 in
theorem within_yes2 (h : Nat) (x i off : Int) (w : World) (hc : w.cell? ⟨h, 0, none⟩ = some (.bool true)) (hx : (Int.tmod x 4 == 0) = true) (hx' : (Int.tmod x 4 != 0) = false)
  (h0 : 0 ≤ off) (h1 : off < 256) (F : Calls Try.prog 133 #[.pointer (some ⟨h, 0, none⟩), .int .i64 x] w fun e w' => e = .returned (.tuple #[.int .i64 2, .int .i64 i, .int .i64 off, .bool true]) ∧ Below w.heap.size w w') :
  Calls Try.prog 117 #[.pointer (some ⟨h, 0, none⟩), .int .i64 x, .int .i64 1] w fun e w' => e = .returned (.bool true) ∧ Below w.heap.size w w' := by
 have FF := Aside0.mk F
 have ix := ix2
 have fl := fl2
 have d : decide (1 ≤ 64 - off / 4) = true := by simp; omega
 clear F
 go_enter Try.func117, Try.ntmps117
 go_wp2_with (first | (go_at_call 132; refine (none_no h _ hc).mono ?_; rintro e w1 ⟨rfl, rfl⟩) | (go_at_call 133; refine FF.out.mono ?_; rintro e w1 ⟨rfl, hb⟩) | (go_at_call 54; refine (all _).mono ?_; rintro e w2 ⟨rfl, hb2⟩))
 go_ret
 exact ⟨by first | rfl | (congr 2), below_then hb hb.size hb2⟩
set_option maxHeartbeats 1000000 in
set_option maxRecDepth 100000 in
theorem within_yes3 (h : Nat) (x i off : Int) (w : World) (hc : w.cell? ⟨h, 0, none⟩ = some (.bool true)) (hx : (Int.tmod x 4 == 0) = true) (hx' : (Int.tmod x 4 != 0) = false)
  (h0 : 0 ≤ off) (h1 : off < 512) (F : Calls Try.prog 133 #[.pointer (some ⟨h, 0, none⟩), .int .i64 x] w fun e w' => e = .returned (.tuple #[.int .i64 3, .int .i64 i, .int .i64 off, .bool true]) ∧ Below w.heap.size w w') :
  Calls Try.prog 117 #[.pointer (some ⟨h, 0, none⟩), .int .i64 x, .int .i64 1] w fun e w' => e = .returned (.bool true) ∧ Below w.heap.size w w' := by
 have FF := Aside0.mk F
 have ix := ix3
 have fl := fl3
 have d : decide (1 ≤ 128 - off / 4) = true := by simp; omega
 clear F
 go_enter Try.func117, Try.ntmps117
 go_wp2_with (first | (go_at_call 132; refine (none_no h _ hc).mono ?_; rintro e w1 ⟨rfl, rfl⟩) | (go_at_call 133; refine FF.out.mono ?_; rintro e w1 ⟨rfl, hb⟩) | (go_at_call 54; refine (all _).mono ?_; rintro e w2 ⟨rfl, hb2⟩))
 go_ret
 exact ⟨by first | rfl | (congr 2), below_then hb hb.size hb2⟩
set_option maxHeartbeats 4000000 in
set_option maxRecDepth 100000 in
theorem class_0 (n : Int) (w : World) (h0 : 0 ≤ n) (h1 : n ≤ 4) :
  Calls Try.prog 134 #[.int .i64 n] w fun e w' => e = .returned (.tuple #[.int .i64 0, .int .i64 4, .int .i64 64, .int .i64 0]) ∧ Below w.heap.size w w' := by
 have i0 := ix0; have i1 := ix1; have i2 := ix2; have i3 := ix3
 have G : decide (n ≥ 0) = true := by simp; omega
 have T0 : decide (n ≤ 4) = true := by simp; omega
 go_enter Try.func134, Try.ntmps134
 go_wp2_with (go_at_call 54; refine (all _).mono ?_; rintro e w1 ⟨rfl, hb⟩)
 refine wp_loop_rounds 5 ?_
 rw [rounds_succ]
 go_wp2
 go_quiet (fail)
 go_wp2
 refine bodyPost_ret (v := .tuple #[.int .i64 0, .int .i64 4, .int .i64 64, .int .i64 0]) (by simp [results, Try.results134, go_sem]) rfl ⟨rfl, ?_⟩
 repeat (first | with_reducible exact hb | with_reducible refine pw_below_drewN ?_ _ | with_reducible refine below_alloc ?_ _)
set_option maxHeartbeats 4000000 in
set_option maxRecDepth 100000 in
theorem class_1 (n : Int) (w : World) (h0 : 5 ≤ n) (h1 : n ≤ 16) :
  Calls Try.prog 134 #[.int .i64 n] w fun e w' => e = .returned (.tuple #[.int .i64 1, .int .i64 16, .int .i64 32, .int .i64 0]) ∧ Below w.heap.size w w' := by
 have i0 := ix0; have i1 := ix1; have i2 := ix2; have i3 := ix3
 have G : decide (n ≥ 0) = true := by simp; omega
 have T0 : decide (n ≤ 4) = false := by simp; omega
 have T1 : decide (n ≤ 16) = true := by simp; omega
 go_enter Try.func134, Try.ntmps134
 go_wp2_with (go_at_call 54; refine (all _).mono ?_; rintro e w1 ⟨rfl, hb⟩)
 refine wp_loop_rounds 5 ?_
 rw [rounds_succ]
 go_wp2
 rw [rounds_succ]
 go_wp2
 go_quiet (fail)
 go_wp2
 refine bodyPost_ret (v := .tuple #[.int .i64 1, .int .i64 16, .int .i64 32, .int .i64 0]) (by simp [results, Try.results134, go_sem]) rfl ⟨rfl, ?_⟩
 repeat (first | with_reducible exact hb | with_reducible refine pw_below_drewN ?_ _ | with_reducible refine below_alloc ?_ _)
set_option maxHeartbeats 4000000 in
set_option maxRecDepth 100000 in
theorem class_2 (n : Int) (w : World) (h0 : 17 ≤ n) (h1 : n ≤ 64) :
  Calls Try.prog 134 #[.int .i64 n] w fun e w' => e = .returned (.tuple #[.int .i64 2, .int .i64 64, .int .i64 16, .int .i64 0]) ∧ Below w.heap.size w w' := by
 have i0 := ix0; have i1 := ix1; have i2 := ix2; have i3 := ix3
 have G : decide (n ≥ 0) = true := by simp; omega
 have T0 : decide (n ≤ 4) = false := by simp; omega
 have T1 : decide (n ≤ 16) = false := by simp; omega
 have T2 : decide (n ≤ 64) = true := by simp; omega
 go_enter Try.func134, Try.ntmps134
 go_wp2_with (go_at_call 54; refine (all _).mono ?_; rintro e w1 ⟨rfl, hb⟩)
 refine wp_loop_rounds 5 ?_
 rw [rounds_succ]
 go_wp2
 rw [rounds_succ]
 go_wp2
 rw [rounds_succ]
 go_wp2
 go_quiet (fail)
 go_wp2
 refine bodyPost_ret (v := .tuple #[.int .i64 2, .int .i64 64, .int .i64 16, .int .i64 0]) (by simp [results, Try.results134, go_sem]) rfl ⟨rfl, ?_⟩
 repeat (first | with_reducible exact hb | with_reducible refine pw_below_drewN ?_ _ | with_reducible refine below_alloc ?_ _)
set_option maxHeartbeats 4000000 in
set_option maxRecDepth 100000 in
theorem class_3 (n : Int) (w : World) (h0 : 65 ≤ n) (h1 : n ≤ 128) :
  Calls Try.prog 134 #[.int .i64 n] w fun e w' => e = .returned (.tuple #[.int .i64 3, .int .i64 128, .int .i64 8, .int .i64 0]) ∧ Below w.heap.size w w' := by
 have i0 := ix0; have i1 := ix1; have i2 := ix2; have i3 := ix3
 have G : decide (n ≥ 0) = true := by simp; omega
 have T0 : decide (n ≤ 4) = false := by simp; omega
 have T1 : decide (n ≤ 16) = false := by simp; omega
 have T2 : decide (n ≤ 64) = false := by simp; omega
 have T3 : decide (n ≤ 128) = true := by simp; omega
 go_enter Try.func134, Try.ntmps134
 go_wp2_with (go_at_call 54; refine (all _).mono ?_; rintro e w1 ⟨rfl, hb⟩)
 refine wp_loop_rounds 5 ?_
 rw [rounds_succ]
 go_wp2
 rw [rounds_succ]
 go_wp2
 rw [rounds_succ]
 go_wp2
 rw [rounds_succ]
 go_wp2
 go_quiet (fail)
 go_wp2
 refine bodyPost_ret (v := .tuple #[.int .i64 3, .int .i64 128, .int .i64 8, .int .i64 0]) (by simp [results, Try.results134, go_sem]) rfl ⟨rfl, ?_⟩
 repeat (first | with_reducible exact hb | with_reducible refine pw_below_drewN ?_ _ | with_reducible refine below_alloc ?_ _)
def firstFree (used : Nat → Nat → Bool) (k : Nat) : Option Nat := (List.range (clsBlocks k)).find? fun i => !used k i
theorem firstFree_some {used : Nat → Nat → Bool} {k i : Nat} (h : i < clsBlocks k) (hn : ∀ j, j < i → used k j = true) (hi : used k i = false) : firstFree used k = some i := by
 unfold firstFree
 rw [List.find?_range_eq_some]
 exact ⟨by simp [hi], by simpa using h, fun j hj => by simp [hn j hj]⟩
def AllocPost (h : Nat) (u : Nat → Nat) (used : Nat → Nat → Bool) (k : Nat) (b s : Int) (w : World) (e : Ending) (w' : World) : Prop :=
 Kept (fun b => b = u k) w w' ∧ match firstFree used k with
   | some i => e = .returned (.tuple #[.int .i64 (b + s * (i : Int)), .int .i64 0]) ∧ HeapIs w' h u (setUsed used k i true)
   | none => e = .returned (.tuple #[.int .i64 0, .int .i64 12]) ∧ HeapIs w' h u used
theorem AllocPost.some_ {h : Nat} {u : Nat → Nat} {used : Nat → Nat → Bool} {k : Nat} {b s : Int} {w w' : World} (i : Nat) (v : Int) (hv : v = b + s * (i : Int)) (hf : firstFree used k = some i) (K : Kept (fun b => b = u k) w w') (H : HeapIs w' h u (setUsed used k i true)) :
  AllocPost h u used k b s w (.returned (.tuple #[.int .i64 v, .int .i64 0])) w' := by
 refine ⟨K, ?_⟩
 rw [hf]
 subst hv
 exact ⟨rfl, H⟩
theorem AllocPost.none_ {h : Nat} {u : Nat → Nat} {used : Nat → Nat → Bool} {k : Nat} {b s : Int} {w w' : World} (hf : firstFree used k = none) (K : Kept (fun b => b = u k) w w') (H : HeapIs w' h u used) :
  AllocPost h u used k b s w (.returned (.tuple #[.int .i64 0, .int .i64 12])) w' := by
 refine ⟨K, ?_⟩
 rw [hf]
 exact ⟨rfl, H⟩
theorem firstFree_none {used : Nat → Nat → Bool} {k : Nat} (hn : ∀ j, j < clsBlocks k → used k j = true) : firstFree used k = none := by
 unfold firstFree
 rw [List.find?_eq_none]
 intro j hj
 simp at hj
 simp [hn j hj]
set_option maxHeartbeats 4000000 in
set_option maxRecDepth 100000 in
theorem alloc_0 (h : Nat) (u : Nat → Nat) (used : Nat → Nat → Bool) (n : Int) (w : World) (H : HeapIs w h u used) (h0 : 0 ≤ n) (h1 : n ≤ 4) :
  Calls Try.prog 118 #[.pointer (some ⟨h, 0, none⟩), .int .i64 n] w (AllocPost h u used 0 262144 16 w) := by
 have HH := Aside0.mk H
 have hmd := H.made
 clear H
 have ix := ix0
 have fb := fb0
 go_enter Try.func118, Try.ntmps118
 go_wp2_with (first | (go_at_call 132; refine (none_no h _ hmd).mono ?_; rintro e w1 ⟨rfl, rfl⟩) | (go_at_call 134; refine (class_0 n _ h0 h1).mono ?_; rintro e w1 ⟨rfl, hb⟩))
 clear hmd
 have H1 := Aside0.mk (HH.out.below hb)
 have hs : w1.cell? ⟨h, 1, none⟩ = some (.slice (some ⟨u 0, 0, none⟩) 64 64) := H1.out.sl 0 (by omega)
 have hbA := Aside0.mk hb
 clear hb
 go_loop [10, 24] (fun _ v => ∃ i : Int, v = .int .i64 i ∧ 0 ≤ i ∧ i ≤ 64 ∧ Aside0 (∀ j : Nat, (j : Int) < i → used 0 j = true)) (fun _ i => 64 - (intOf i).toNat)
 case atStart => exact ⟨0, rfl, by omega, by omega, ⟨fun j hj => by omega⟩⟩
 case round =>
  obtain ⟨i, rfl, hi0, hi1, HS⟩ := hrel
  by_cases hlt : i < 64
  ·have hv : w1.cell? ⟨u 0, i.toNat, none⟩ = some (.bool (used 0 i.toNat)) := H1.out.bit 0 (by omega) _ (by simp [clsBlocks]; omega)
   have hfz : w1.frozen? ⟨u 0, i.toNat, none⟩ = false := (H1.out.row 0 (by omega)).frozen _
   by_cases hu : used 0 i.toNat = true
   ·rw [hu] at hv
    have HU := Aside0.mk hu
    clear hu
    go_wp2
    go_round
    case measure => simp [intOf]; omega
    case rel => exact ⟨i + 1, by go_num, by omega, by omega, ⟨fun j hj => by
     by_cases e : (j : Int) < i
     ·exact HS.out j e
     ·have : j = i.toNat := by omega
      rw [this]; exact HU.out⟩⟩
   ·have hu' : used 0 i.toNat = false := by simpa using hu
    rw [hu'] at hv
    have HU := Aside0.mk hu'
    clear hu hu'
    go_wp2_with (go_at_call 54; refine (all _).mono ?_; rintro e w2 ⟨rfl, hb2⟩)
    have hf : firstFree used 0 = some i.toNat := firstFree_some (by simp [clsBlocks]; omega) (fun j hj => HS.out j (by omega)) HU.out
    refine bodyPost_ret (v := .tuple #[.int .i64 (262144 + 16 * i), .int .i64 0]) (by simp [results, Try.results118, go_sem]) rfl ?_
    exact AllocPost.some_ i.toNat _ (by omega) hf ((Kept.setCell (S := fun b => b = u 0) (Kept.of_below hbA.out) (a := ⟨u 0, i.toNat, none⟩) rfl _).below hb2) ((H1.out.set_ 0 (by omega) i.toNat true).below hb2)
  ·have hd : decide (i < 64) = false := by simp; omega
   go_wp2
   have hf : firstFree used 0 = none := firstFree_none (fun j hj => HS.out j (by simp [clsBlocks] at hj; omega))
   refine bodyPost_ret (v := .tuple #[.int .i64 0, .int .i64 12]) (by simp [results, Try.results118, go_sem]) rfl ?_
   exact AllocPost.none_ hf (Kept.of_below hbA.out) H1.out
set_option maxHeartbeats 4000000 in
set_option maxRecDepth 100000 in
theorem alloc_1 (h : Nat) (u : Nat → Nat) (used : Nat → Nat → Bool) (n : Int) (w : World) (H : HeapIs w h u used) (h0 : 5 ≤ n) (h1 : n ≤ 16) :
  Calls Try.prog 118 #[.pointer (some ⟨h, 0, none⟩), .int .i64 n] w (AllocPost h u used 1 263168 64 w) := by
 have HH := Aside0.mk H
 have hmd := H.made
 clear H
 have ix := ix1
 have fb := fb1
 go_enter Try.func118, Try.ntmps118
 go_wp2_with (first | (go_at_call 132; refine (none_no h _ hmd).mono ?_; rintro e w1 ⟨rfl, rfl⟩) | (go_at_call 134; refine (class_1 n _ h0 h1).mono ?_; rintro e w1 ⟨rfl, hb⟩))
 clear hmd
 have H1 := Aside0.mk (HH.out.below hb)
 have hs : w1.cell? ⟨h, 2, none⟩ = some (.slice (some ⟨u 1, 0, none⟩) 32 32) := H1.out.sl 1 (by omega)
 have hbA := Aside0.mk hb
 clear hb
 go_loop [10, 24] (fun _ v => ∃ i : Int, v = .int .i64 i ∧ 0 ≤ i ∧ i ≤ 32 ∧ Aside0 (∀ j : Nat, (j : Int) < i → used 1 j = true)) (fun _ i => 32 - (intOf i).toNat)
 case atStart => exact ⟨0, rfl, by omega, by omega, ⟨fun j hj => by omega⟩⟩
 case round =>
  obtain ⟨i, rfl, hi0, hi1, HS⟩ := hrel
  by_cases hlt : i < 32
  ·have hv : w1.cell? ⟨u 1, i.toNat, none⟩ = some (.bool (used 1 i.toNat)) := H1.out.bit 1 (by omega) _ (by simp [clsBlocks]; omega)
   have hfz : w1.frozen? ⟨u 1, i.toNat, none⟩ = false := (H1.out.row 1 (by omega)).frozen _
   by_cases hu : used 1 i.toNat = true
   ·rw [hu] at hv
    have HU := Aside0.mk hu
    clear hu
    go_wp2
    go_round
    case measure => simp [intOf]; omega
    case rel => exact ⟨i + 1, by go_num, by omega, by omega, ⟨fun j hj => by
     by_cases e : (j : Int) < i
     ·exact HS.out j e
     ·have : j = i.toNat := by omega
      rw [this]; exact HU.out⟩⟩
   ·have hu' : used 1 i.toNat = false := by simpa using hu
    rw [hu'] at hv
    have HU := Aside0.mk hu'
    clear hu hu'
    go_wp2_with (go_at_call 54; refine (all _).mono ?_; rintro e w2 ⟨rfl, hb2⟩)
    have hf : firstFree used 1 = some i.toNat := firstFree_some (by simp [clsBlocks]; omega) (fun j hj => HS.out j (by omega)) HU.out
    refine bodyPost_ret (v := .tuple #[.int .i64 (263168 + 64 * i), .int .i64 0]) (by simp [results, Try.results118, go_sem]) rfl ?_
    exact AllocPost.some_ i.toNat _ (by omega) hf ((Kept.setCell (S := fun b => b = u 1) (Kept.of_below hbA.out) (a := ⟨u 1, i.toNat, none⟩) rfl _).below hb2) ((H1.out.set_ 1 (by omega) i.toNat true).below hb2)
  ·have hd : decide (i < 32) = false := by simp; omega
   go_wp2
   have hf : firstFree used 1 = none := firstFree_none (fun j hj => HS.out j (by simp [clsBlocks] at hj; omega))
   refine bodyPost_ret (v := .tuple #[.int .i64 0, .int .i64 12]) (by simp [results, Try.results118, go_sem]) rfl ?_
   exact AllocPost.none_ hf (Kept.of_below hbA.out) H1.out
set_option maxHeartbeats 4000000 in
set_option maxRecDepth 100000 in
theorem alloc_2 (h : Nat) (u : Nat → Nat) (used : Nat → Nat → Bool) (n : Int) (w : World) (H : HeapIs w h u used) (h0 : 17 ≤ n) (h1 : n ≤ 64) :
  Calls Try.prog 118 #[.pointer (some ⟨h, 0, none⟩), .int .i64 n] w (AllocPost h u used 2 265216 256 w) := by
 have HH := Aside0.mk H
 have hmd := H.made
 clear H
 have ix := ix2
 have fb := fb2
 go_enter Try.func118, Try.ntmps118
 go_wp2_with (first | (go_at_call 132; refine (none_no h _ hmd).mono ?_; rintro e w1 ⟨rfl, rfl⟩) | (go_at_call 134; refine (class_2 n _ h0 h1).mono ?_; rintro e w1 ⟨rfl, hb⟩))
 clear hmd
 have H1 := Aside0.mk (HH.out.below hb)
 have hs : w1.cell? ⟨h, 3, none⟩ = some (.slice (some ⟨u 2, 0, none⟩) 16 16) := H1.out.sl 2 (by omega)
 have hbA := Aside0.mk hb
 clear hb
 go_loop [10, 24] (fun _ v => ∃ i : Int, v = .int .i64 i ∧ 0 ≤ i ∧ i ≤ 16 ∧ Aside0 (∀ j : Nat, (j : Int) < i → used 2 j = true)) (fun _ i => 16 - (intOf i).toNat)
 case atStart => exact ⟨0, rfl, by omega, by omega, ⟨fun j hj => by omega⟩⟩
 case round =>
  obtain ⟨i, rfl, hi0, hi1, HS⟩ := hrel
  by_cases hlt : i < 16
  ·have hv : w1.cell? ⟨u 2, i.toNat, none⟩ = some (.bool (used 2 i.toNat)) := H1.out.bit 2 (by omega) _ (by simp [clsBlocks]; omega)
   have hfz : w1.frozen? ⟨u 2, i.toNat, none⟩ = false := (H1.out.row 2 (by omega)).frozen _
   by_cases hu : used 2 i.toNat = true
   ·rw [hu] at hv
    have HU := Aside0.mk hu
    clear hu
    go_wp2
    go_round
    case measure => simp [intOf]; omega
    case rel => exact ⟨i + 1, by go_num, by omega, by omega, ⟨fun j hj => by
     by_cases e : (j : Int) < i
     ·exact HS.out j e
     ·have : j = i.toNat := by omega
      rw [this]; exact HU.out⟩⟩
   ·have hu' : used 2 i.toNat = false := by simpa using hu
    rw [hu'] at hv
    have HU := Aside0.mk hu'
    clear hu hu'
    go_wp2_with (go_at_call 54; refine (all _).mono ?_; rintro e w2 ⟨rfl, hb2⟩)
    have hf : firstFree used 2 = some i.toNat := firstFree_some (by simp [clsBlocks]; omega) (fun j hj => HS.out j (by omega)) HU.out
    refine bodyPost_ret (v := .tuple #[.int .i64 (265216 + 256 * i), .int .i64 0]) (by simp [results, Try.results118, go_sem]) rfl ?_
    exact AllocPost.some_ i.toNat _ (by omega) hf ((Kept.setCell (S := fun b => b = u 2) (Kept.of_below hbA.out) (a := ⟨u 2, i.toNat, none⟩) rfl _).below hb2) ((H1.out.set_ 2 (by omega) i.toNat true).below hb2)
  ·have hd : decide (i < 16) = false := by simp; omega
   go_wp2
   have hf : firstFree used 2 = none := firstFree_none (fun j hj => HS.out j (by simp [clsBlocks] at hj; omega))
   refine bodyPost_ret (v := .tuple #[.int .i64 0, .int .i64 12]) (by simp [results, Try.results118, go_sem]) rfl ?_
   exact AllocPost.none_ hf (Kept.of_below hbA.out) H1.out
set_option maxHeartbeats 4000000 in
set_option maxRecDepth 100000 in
theorem alloc_3 (h : Nat) (u : Nat → Nat) (used : Nat → Nat → Bool) (n : Int) (w : World) (H : HeapIs w h u used) (h0 : 65 ≤ n) (h1 : n ≤ 128) :
  Calls Try.prog 118 #[.pointer (some ⟨h, 0, none⟩), .int .i64 n] w (AllocPost h u used 3 269312 512 w) := by
 have HH := Aside0.mk H
 have hmd := H.made
 clear H
 have ix := ix3
 have fb := fb3
 go_enter Try.func118, Try.ntmps118
 go_wp2_with (first | (go_at_call 132; refine (none_no h _ hmd).mono ?_; rintro e w1 ⟨rfl, rfl⟩) | (go_at_call 134; refine (class_3 n _ h0 h1).mono ?_; rintro e w1 ⟨rfl, hb⟩))
 clear hmd
 have H1 := Aside0.mk (HH.out.below hb)
 have hs : w1.cell? ⟨h, 4, none⟩ = some (.slice (some ⟨u 3, 0, none⟩) 8 8) := H1.out.sl 3 (by omega)
 have hbA := Aside0.mk hb
 clear hb
 go_loop [10, 24] (fun _ v => ∃ i : Int, v = .int .i64 i ∧ 0 ≤ i ∧ i ≤ 8 ∧ Aside0 (∀ j : Nat, (j : Int) < i → used 3 j = true)) (fun _ i => 8 - (intOf i).toNat)
 case atStart => exact ⟨0, rfl, by omega, by omega, ⟨fun j hj => by omega⟩⟩
 case round =>
  obtain ⟨i, rfl, hi0, hi1, HS⟩ := hrel
  by_cases hlt : i < 8
  ·have hv : w1.cell? ⟨u 3, i.toNat, none⟩ = some (.bool (used 3 i.toNat)) := H1.out.bit 3 (by omega) _ (by simp [clsBlocks]; omega)
   have hfz : w1.frozen? ⟨u 3, i.toNat, none⟩ = false := (H1.out.row 3 (by omega)).frozen _
   by_cases hu : used 3 i.toNat = true
   ·rw [hu] at hv
    have HU := Aside0.mk hu
    clear hu
    go_wp2
    go_round
    case measure => simp [intOf]; omega
    case rel => exact ⟨i + 1, by go_num, by omega, by omega, ⟨fun j hj => by
     by_cases e : (j : Int) < i
     ·exact HS.out j e
     ·have : j = i.toNat := by omega
      rw [this]; exact HU.out⟩⟩
   ·have hu' : used 3 i.toNat = false := by simpa using hu
    rw [hu'] at hv
    have HU := Aside0.mk hu'
    clear hu hu'
    go_wp2_with (go_at_call 54; refine (all _).mono ?_; rintro e w2 ⟨rfl, hb2⟩)
    have hf : firstFree used 3 = some i.toNat := firstFree_some (by simp [clsBlocks]; omega) (fun j hj => HS.out j (by omega)) HU.out
    refine bodyPost_ret (v := .tuple #[.int .i64 (269312 + 512 * i), .int .i64 0]) (by simp [results, Try.results118, go_sem]) rfl ?_
    exact AllocPost.some_ i.toNat _ (by omega) hf ((Kept.setCell (S := fun b => b = u 3) (Kept.of_below hbA.out) (a := ⟨u 3, i.toNat, none⟩) rfl _).below hb2) ((H1.out.set_ 3 (by omega) i.toNat true).below hb2)
  ·have hd : decide (i < 8) = false := by simp; omega
   go_wp2
   have hf : firstFree used 3 = none := firstFree_none (fun j hj => HS.out j (by simp [clsBlocks] at hj; omega))
   refine bodyPost_ret (v := .tuple #[.int .i64 0, .int .i64 12]) (by simp [results, Try.results118, go_sem]) rfl ?_
   exact AllocPost.none_ hf (Kept.of_below hbA.out) H1.out
theorem hfind_off (used : Nat → Nat → Bool) (x : Int) :
  (hfind used x).1 = 0 ∧ (hfind used x).2.2.1 < 16 ∨ (hfind used x).1 = 1 ∧ (hfind used x).2.2.1 < 64 ∨ (hfind used x).1 = 2 ∧ (hfind used x).2.2.1 < 256 ∨ (hfind used x).1 = 3 ∧ (hfind used x).2.2.1 < 512 := by
 unfold hfind
 repeat' split
 all_goals first | (simp; done) | (simp; omega)
theorem within (h : Nat) (u : Nat → Nat) (used : Nat → Nat → Bool) (x : Int) (w : World) (H : HeapIs w h u used) :
  Calls Try.prog 117 #[.pointer (some ⟨h, 0, none⟩), .int .i64 x, .int .i64 1] w fun e w' => e = .returned (.bool (withinB used x)) ∧ Below w.heap.size w w' := by
 unfold withinB
 by_cases hx : Int.tmod x 4 = 0
 ·have b := hfind_bounds used x
  have F := find h u used x w H
  have O := hfind_off used x
  revert b F O
  generalize hfind used x = q
  obtain ⟨k, i, off, ok⟩ := q
  intro b F O
  simp only at b F O ⊢
  cases ok with
  | false => simpa [hx] using within_no h x k i off w H.made (by simpa using hx) (by simpa using hx) F
  | true =>
   rcases O with ⟨rfl, o⟩ | ⟨rfl, o⟩ | ⟨rfl, o⟩ | ⟨rfl, o⟩
   ·simpa [hx] using within_yes0 h x i off w H.made (by simpa using hx) (by simpa using hx) b.2.2.2.2.1 o F
   ·simpa [hx] using within_yes1 h x i off w H.made (by simpa using hx) (by simpa using hx) b.2.2.2.2.1 o F
   ·simpa [hx] using within_yes2 h x i off w H.made (by simpa using hx) (by simpa using hx) b.2.2.2.2.1 o F
   ·simpa [hx] using within_yes3 h x i off w H.made (by simpa using hx) (by simpa using hx) b.2.2.2.2.1 o F
 ·simpa [hx] using within_odd h x w H.made (by simpa using hx) (by simpa using hx)
end Go.Proofs.Ytpphpcmbpbppoaa.Mach
end
section
namespace Go.Proofs.Ytpphpcmbpbppoaa.Mach
open Go.RowKit Go.Proofs.YtpphpcmbpbppoaaW.PrintWords Go.Proofs.YtpphpcmbpbppoaaW.PrintLast Go.Proofs.YtpphpcmbpbppoaaW.PrintMore
set_option linter.unusedVariables false
set_option maxHeartbeats 1000000 in
set_option maxRecDepth 100000 in
theorem free_not (h : Nat) (x k i off : Int) (w : World) (hc : w.cell? ⟨h, 0, none⟩ = some (.bool true))
  (F : Calls Try.prog 133 #[.pointer (some ⟨h, 0, none⟩), .int .i64 x] w fun e w' => e = .returned (.tuple #[.int .i64 k, .int .i64 i, .int .i64 off, .bool false]) ∧ Below w.heap.size w w') :
  Calls Try.prog 119 #[.pointer (some ⟨h, 0, none⟩), .int .i64 x] w fun e w' => e = .returned (.int .i64 13) ∧ Below w.heap.size w w' := by
 have FF := Aside0.mk F
 clear F
 go_enter Try.func119, Try.ntmps119
 go_wp2_with (first | (go_at_call 132; refine (none_no h _ hc).mono ?_; rintro e w1 ⟨rfl, rfl⟩) | (go_at_call 133; refine FF.out.mono ?_; rintro e w1 ⟨rfl, hb⟩))
 go_ret
 exact ⟨rfl, hb⟩
set_option maxHeartbeats 1000000 in
set_option maxRecDepth 100000 in
theorem free_mid (h : Nat) (x k i off : Int) (w : World) (hc : w.cell? ⟨h, 0, none⟩ = some (.bool true)) (ho : (off == 0) = false) (ho' : (off != 0) = true)
  (F : Calls Try.prog 133 #[.pointer (some ⟨h, 0, none⟩), .int .i64 x] w fun e w' => e = .returned (.tuple #[.int .i64 k, .int .i64 i, .int .i64 off, .bool true]) ∧ Below w.heap.size w w') :
  Calls Try.prog 119 #[.pointer (some ⟨h, 0, none⟩), .int .i64 x] w fun e w' => e = .returned (.int .i64 13) ∧ Below w.heap.size w w' := by
 have FF := Aside0.mk F
 clear F
 go_enter Try.func119, Try.ntmps119
 go_wp2_with (first | (go_at_call 132; refine (none_no h _ hc).mono ?_; rintro e w1 ⟨rfl, rfl⟩) | (go_at_call 133; refine FF.out.mono ?_; rintro e w1 ⟨rfl, hb⟩))
 go_ret
 exact ⟨rfl, hb⟩
set_option maxHeartbeats 1000000 in
set_option maxRecDepth 100000 in
theorem free_0 (h : Nat) (u : Nat → Nat) (used : Nat → Nat → Bool) (x i : Int) (w : World) (H : HeapIs w h u used) (h0 : 0 ≤ i) (h1 : i < 64)
  (F : Calls Try.prog 133 #[.pointer (some ⟨h, 0, none⟩), .int .i64 x] w fun e w' => e = .returned (.tuple #[.int .i64 0, .int .i64 i, .int .i64 0, .bool true]) ∧ Below w.heap.size w w') :
  Calls Try.prog 119 #[.pointer (some ⟨h, 0, none⟩), .int .i64 x] w fun e w' => e = .returned (.int .i64 0) ∧ Kept (fun b => b = u 0) w w' ∧ HeapIs w' h u (setUsed used 0 i.toNat false) := by
 have FF := Aside0.mk F
 have HH := Aside0.mk H
 have hc := H.made
 clear F H
 go_enter Try.func119, Try.ntmps119
 go_wp2_with (first | (go_at_call 132; refine (none_no h _ hc).mono ?_; rintro e w1 ⟨rfl, rfl⟩) | (go_at_call 133; refine FF.out.mono ?_; rintro e w1 ⟨rfl, hb⟩; have H1 := Aside0.mk (HH.out.below hb); have hs := H1.out.sl 0 (by omega); have hv := H1.out.bit 0 (by omega) i.toNat (by simp [clsBlocks]; omega); have hfz := (H1.out.row 0 (by omega)).frozen i.toNat; simp only [clsBlocks, Nat.reduceAdd] at hs))
 go_ret
 exact ⟨rfl, Kept.setCell (S := fun b => b = u 0) (Kept.of_below hb) (a := ⟨u 0, i.toNat, none⟩) rfl _, H1.out.set_ 0 (by omega) i.toNat false⟩
set_option maxHeartbeats 1000000 in
set_option maxRecDepth 100000 in
theorem free_1 (h : Nat) (u : Nat → Nat) (used : Nat → Nat → Bool) (x i : Int) (w : World) (H : HeapIs w h u used) (h0 : 0 ≤ i) (h1 : i < 32)
  (F : Calls Try.prog 133 #[.pointer (some ⟨h, 0, none⟩), .int .i64 x] w fun e w' => e = .returned (.tuple #[.int .i64 1, .int .i64 i, .int .i64 0, .bool true]) ∧ Below w.heap.size w w') :
  Calls Try.prog 119 #[.pointer (some ⟨h, 0, none⟩), .int .i64 x] w fun e w' => e = .returned (.int .i64 0) ∧ Kept (fun b => b = u 1) w w' ∧ HeapIs w' h u (setUsed used 1 i.toNat false) := by
 have FF := Aside0.mk F
 have HH := Aside0.mk H
 have hc := H.made
 clear F H
 go_enter Try.func119, Try.ntmps119
 go_wp2_with (first | (go_at_call 132; refine (none_no h _ hc).mono ?_; rintro e w1 ⟨rfl, rfl⟩) | (go_at_call 133; refine FF.out.mono ?_; rintro e w1 ⟨rfl, hb⟩; have H1 := Aside0.mk (HH.out.below hb); have hs := H1.out.sl 1 (by omega); have hv := H1.out.bit 1 (by omega) i.toNat (by simp [clsBlocks]; omega); have hfz := (H1.out.row 1 (by omega)).frozen i.toNat; simp only [clsBlocks, Nat.reduceAdd] at hs))
 go_ret
 exact ⟨rfl, Kept.setCell (S := fun b => b = u 1) (Kept.of_below hb) (a := ⟨u 1, i.toNat, none⟩) rfl _, H1.out.set_ 1 (by omega) i.toNat false⟩
set_option maxHeartbeats 1000000 in
set_option maxRecDepth 100000 in
theorem free_2 (h : Nat) (u : Nat → Nat) (used : Nat → Nat → Bool) (x i : Int) (w : World) (H : HeapIs w h u used) (h0 : 0 ≤ i) (h1 : i < 16)
  (F : Calls Try.prog 133 #[.pointer (some ⟨h, 0, none⟩), .int .i64 x] w fun e w' => e = .returned (.tuple #[.int .i64 2, .int .i64 i, .int .i64 0, .bool true]) ∧ Below w.heap.size w w') :
  Calls Try.prog 119 #[.pointer (some ⟨h, 0, none⟩), .int .i64 x] w fun e w' => e = .returned (.int .i64 0) ∧ Kept (fun b => b = u 2) w w' ∧ HeapIs w' h u (setUsed used 2 i.toNat false) := by
 have FF := Aside0.mk F
 have HH := Aside0.mk H
 have hc := H.made
 clear F H
 go_enter Try.func119, Try.ntmps119
 go_wp2_with (first | (go_at_call 132; refine (none_no h _ hc).mono ?_; rintro e w1 ⟨rfl, rfl⟩) | (go_at_call 133; refine FF.out.mono ?_; rintro e w1 ⟨rfl, hb⟩; have H1 := Aside0.mk (HH.out.below hb); have hs := H1.out.sl 2 (by omega); have hv := H1.out.bit 2 (by omega) i.toNat (by simp [clsBlocks]; omega); have hfz := (H1.out.row 2 (by omega)).frozen i.toNat; simp only [clsBlocks, Nat.reduceAdd] at hs))
 go_ret
 exact ⟨rfl, Kept.setCell (S := fun b => b = u 2) (Kept.of_below hb) (a := ⟨u 2, i.toNat, none⟩) rfl _, H1.out.set_ 2 (by omega) i.toNat false⟩
set_option maxHeartbeats 1000000 in
set_option maxRecDepth 100000 in
theorem free_3 (h : Nat) (u : Nat → Nat) (used : Nat → Nat → Bool) (x i : Int) (w : World) (H : HeapIs w h u used) (h0 : 0 ≤ i) (h1 : i < 8)
  (F : Calls Try.prog 133 #[.pointer (some ⟨h, 0, none⟩), .int .i64 x] w fun e w' => e = .returned (.tuple #[.int .i64 3, .int .i64 i, .int .i64 0, .bool true]) ∧ Below w.heap.size w w') :
  Calls Try.prog 119 #[.pointer (some ⟨h, 0, none⟩), .int .i64 x] w fun e w' => e = .returned (.int .i64 0) ∧ Kept (fun b => b = u 3) w w' ∧ HeapIs w' h u (setUsed used 3 i.toNat false) := by
 have FF := Aside0.mk F
 have HH := Aside0.mk H
 have hc := H.made
 clear F H
 go_enter Try.func119, Try.ntmps119
 go_wp2_with (first | (go_at_call 132; refine (none_no h _ hc).mono ?_; rintro e w1 ⟨rfl, rfl⟩) | (go_at_call 133; refine FF.out.mono ?_; rintro e w1 ⟨rfl, hb⟩; have H1 := Aside0.mk (HH.out.below hb); have hs := H1.out.sl 3 (by omega); have hv := H1.out.bit 3 (by omega) i.toNat (by simp [clsBlocks]; omega); have hfz := (H1.out.row 3 (by omega)).frozen i.toNat; simp only [clsBlocks, Nat.reduceAdd] at hs))
 go_ret
 exact ⟨rfl, Kept.setCell (S := fun b => b = u 3) (Kept.of_below hb) (a := ⟨u 3, i.toNat, none⟩) rfl _, H1.out.set_ 3 (by omega) i.toNat false⟩
def hfree (used : Nat → Nat → Bool) (x : Int) : Option (Nat → Nat → Bool) :=
 if (hfind used x).2.2.2 = true ∧ (hfind used x).2.2.1 = 0 then some (setUsed used (hfind used x).1.toNat (hfind used x).2.1.toNat false) else none
def FreePost (S : Nat → Prop) (h : Nat) (u : Nat → Nat) (used : Nat → Nat → Bool) (x : Int) (w : World) (e : Ending) (w' : World) : Prop :=
 Kept S w w' ∧ match hfree used x with
  | some us => e = .returned (.int .i64 0) ∧ HeapIs w' h u us
  | none => e = .returned (.int .i64 13) ∧ HeapIs w' h u used
theorem free (S : Nat → Prop) (h : Nat) (u : Nat → Nat) (used : Nat → Nat → Bool) (x : Int) (w : World) (H : HeapIs w h u used) (hS : ∀ k, k < 4 → S (u k)) :
  Calls Try.prog 119 #[.pointer (some ⟨h, 0, none⟩), .int .i64 x] w (FreePost S h u used x w) := by
 have b := hfind_bounds used x
 have F := find h u used x w H
 have O := hfind_off used x
 unfold FreePost hfree
 revert b F O
 generalize hfind used x = q
 obtain ⟨k, i, off, ok⟩ := q
 intro b F O
 simp only at b F O ⊢
 cases ok with
 | false =>
  refine (free_not h x k i off w H.made F).mono fun e w' ⟨he, hb⟩ => ⟨Kept.of_below hb, ?_⟩
  rw [if_neg (by simp)]
  exact ⟨he, H.below hb⟩
 | true =>
  by_cases ho : off = 0
  ·subst ho
   rw [if_pos ⟨rfl, rfl⟩]
   rcases O with ⟨rfl, o⟩ | ⟨rfl, o⟩ | ⟨rfl, o⟩ | ⟨rfl, o⟩
   ·exact (free_0 h u used x i w H b.2.2.1 (by have := b.2.2.2.1; simpa [clsBlocks] using this) F).mono fun e w' ⟨he, K, H'⟩ => ⟨K.mono (fun c hc => hc ▸ hS 0 (by omega)), he, H'⟩
   ·exact (free_1 h u used x i w H b.2.2.1 (by have := b.2.2.2.1; simpa [clsBlocks] using this) F).mono fun e w' ⟨he, K, H'⟩ => ⟨K.mono (fun c hc => hc ▸ hS 1 (by omega)), he, H'⟩
   ·exact (free_2 h u used x i w H b.2.2.1 (by have := b.2.2.2.1; simpa [clsBlocks] using this) F).mono fun e w' ⟨he, K, H'⟩ => ⟨K.mono (fun c hc => hc ▸ hS 2 (by omega)), he, H'⟩
   ·exact (free_3 h u used x i w H b.2.2.1 (by have := b.2.2.2.1; simpa [clsBlocks] using this) F).mono fun e w' ⟨he, K, H'⟩ => ⟨K.mono (fun c hc => hc ▸ hS 3 (by omega)), he, H'⟩
  ·rw [if_neg (by simp [ho])]
   refine (free_mid h x k i off w H.made (by simpa using ho) (by simpa using ho) F).mono fun e w' ⟨he, hb⟩ => ⟨Kept.of_below hb, ?_⟩
   exact ⟨he, H.below hb⟩
structure St where
 fuel : Int
 steps : Int
 depth : Int
 calls : Int
 input : List Int
 print : List Int
 stack : List Int
 used : Nat → Nat → Bool
 cells : Nat → Int
structure Lay where
 h : Nat
 c : Nat
 u : Nat → Nat
 sv : Value
 pv : Value
 iA : Option Addr
 ic : Nat
 lA : Option Addr
 lc : Nat
 ln : Nat
def rowF (n : Nat) (f : Nat → Int) : Array Value := ((List.range n).map fun i => Value.int .i64 (f i)).toArray
theorem rowF_get (n : Nat) (f : Nat → Int) (i : Nat) (h : i < n) : (rowF n f)[i]? = some (.int .i64 (f i)) := by simp [rowF, h]
def setF (f : Nat → Int) (i : Nat) (v : Int) : Nat → Int := fun j => if j = i then v else f j
theorem rowF_set (n : Nat) (f : Nat → Int) (i : Nat) (v : Int) : (rowF n f).setIfInBounds i (.int .i64 v) = rowF n (setF f i v) := by
 apply Array.ext
 ·simp [rowF]
 ·intro j h1 h2
  simp [rowF] at h1 h2 ⊢
  rw [List.getElem_set]
  by_cases e : i = j
  ·subst e; simp [setF]
  ·have e2 : ¬ j = i := fun h => e h.symm
   simp [setF, e, e2]
def cellsA (f : Nat → Int) : Array Value := rowF 2816 f
theorem cellsA_get (f : Nat → Int) (i : Nat) (h : i < 2816) : (cellsA f)[i]? = some (.int .i64 (f i)) := rowF_get _ _ _ h
theorem cellsA_set (f : Nat → Int) (i : Nat) (v : Int) : (cellsA f).setIfInBounds i (.int .i64 v) = cellsA (setF f i v) := rowF_set _ _ _ _
def mcells (L : Lay) (st : St) (x : Option Addr) : Array Value :=
 #[.slice none 0 0, .slice L.lA L.ln L.lc, .int .i64 st.fuel, .int .i64 st.steps, .slice L.iA st.input.length L.ic, L.pv, L.sv, .pointer (some ⟨L.h, 0, none⟩), .slice (some ⟨L.c, 0, none⟩) 2816 2816, .int .i64 st.depth, .int .i64 st.calls, .pointer x]
structure Rep (S : Nat → Prop) (m : Nat) (L : Lay) (x : Option Addr) (st : St) (w : World) : Prop where
 head : Has w m (mcells L st x) 93
 heap : HeapIs w L.h L.u st.used
 cells : Has w L.c (cellsA st.cells) 3
 stk : w.ownsRow 0 3 1 L.sv st.stack.length (nums .i64 st.stack)
 prt : w.ownsRow 0 3 1 L.pv st.print.length (nums .i64 st.print)
 ownM : S m
 ownH : S L.h
 ownU : ∀ k, k < 4 → S (L.u k)
 ownC : S L.c
 ownS : ∀ b, L.sv.ownBlock = some b → S b
 ownP : ∀ b, L.pv.ownBlock = some b → S b
 sc : L.sv.ownBlock ≠ some L.c
 pc : L.pv.ownBlock ≠ some L.c
 sp : L.sv.ownBlock = none ∨ L.sv.ownBlock ≠ L.pv.ownBlock
 okS : ∀ v, v ∈ st.stack → v ≤ 9223372036854775807
 okC : ∀ j, st.cells j ≤ 9223372036854775807
namespace Rep
variable {S S' : Nat → Prop} {m : Nat} {L : Lay} {x : Option Addr} {st : St} {w w' : World}
theorem mono (R : Rep S m L x st w) (h : ∀ b, S b → S' b) : Rep S' m L x st w :=
 ⟨R.head, R.heap, R.cells, R.stk, R.prt, h _ R.ownM, h _ R.ownH, fun k hk => h _ (R.ownU k hk), h _ R.ownC, fun b e => h _ (R.ownS b e), fun b e => h _ (R.ownP b e), R.sc, R.pc, R.sp, R.okS, R.okC⟩
theorem has_own {w : World} {v : Value} {n : Nat} {xs : List Value} (h : w.ownsRow 0 3 1 v n xs) {b : Nat} (hb : v.ownBlock = some b) : ∃ cur, Has w b cur 3 := by
 rcases h.2 with ⟨rfl, _⟩ | ⟨g, cap, cur, rfl, _, hh, _⟩
 ·simp [Value.ownBlock] at hb
 ·have : g = b := by simpa [Value.ownBlock] using hb
  subst this
  exact ⟨cur, hh⟩
theorem row_of_block {w w' : World} {v : Value} {n : Nat} {xs : List Value} (h : w.ownsRow 0 3 1 v n xs) (hb : ∀ b, v.ownBlock = some b → w'.heap[b]? = w.heap[b]?) : w'.ownsRow 0 3 1 v n xs := by
 refine ⟨h.1, ?_⟩
 rcases h.2 with h2 | ⟨g, cap, cur, rfl, hg, hh, r⟩
 ·exact .inl h2
 ·exact .inr ⟨g, cap, cur, rfl, hg, by rw [hb g (by simp [Value.ownBlock])]; exact hh, r⟩
theorem ltS (R : Rep S m L x st w) : ∀ b, L.sv.ownBlock = some b → b < w.heap.size := fun b hb => (has_own R.stk hb).elim fun _ h => h.lt
theorem ltP (R : Rep S m L x st w) : ∀ b, L.pv.ownBlock = some b → b < w.heap.size := fun b hb => (has_own R.prt hb).elim fun _ h => h.lt
theorem below (R : Rep S m L x st w) (hb : Below w.heap.size w w') : Rep S m L x st w' :=
 ⟨R.head.belowS hb, R.heap.below hb, R.cells.belowS hb, row_of_block R.stk (fun b e => hb.block b (R.ltS b e)), row_of_block R.prt (fun b e => hb.block b (R.ltP b e)), R.ownM, R.ownH, R.ownU, R.ownC, R.ownS, R.ownP, R.sc, R.pc, R.sp, R.okS, R.okC⟩
theorem drewN (R : Rep S m L x st w) (n : Nat) : Rep S m L x st (w.drewN n) := R.below (pw_below_drewN (Below.refl _ _) n)
theorem alloc (R : Rep S m L x st w) (o : Obj) : Rep S m L x st (w.alloc o) := R.below (below_alloc (Below.refl _ _) o)
theorem other (R : Rep S m L x st w) {a : Addr} (ha : ¬ S a.block) (v : Value) : Rep S m L x st (w.setCell a v) := by
 have ne : ∀ b, S b → b ≠ a.block := fun b hb e => ha (e ▸ hb)
 exact ⟨R.head.other (ne _ R.ownM) _, R.heap.other (ne _ R.ownH) (fun k hk => ne _ (R.ownU k hk)) _, R.cells.other (ne _ R.ownC) _, row_of_block R.stk (fun b e => Below.heap_setCell _ _ _ _ (ne _ (R.ownS b e))), row_of_block R.prt (fun b e => Below.heap_setCell _ _ _ _ (ne _ (R.ownP b e))), R.ownM, R.ownH, R.ownU, R.ownC, R.ownS, R.ownP, R.sc, R.pc, R.sp, R.okS, R.okC⟩
theorem kept {S0 : Nat → Prop} (R : Rep S m L x st w) (K : Kept S0 w w') (h : ∀ b, S b → ¬ S0 b) : Rep S m L x st w' :=
 ⟨K.has R.head (h _ R.ownM), R.heap.of_blocks (K.block _ R.heap.head.lt (h _ R.ownH)) (fun k hk => K.block _ (R.heap.row k hk).lt (h _ (R.ownU k hk))), K.has R.cells (h _ R.ownC), row_of_block R.stk (fun b e => K.block _ (R.ltS b e) (h _ (R.ownS b e))), row_of_block R.prt (fun b e => K.block _ (R.ltP b e) (h _ (R.ownP b e))), R.ownM, R.ownH, R.ownU, R.ownC, R.ownS, R.ownP, R.sc, R.pc, R.sp, R.okS, R.okC⟩
theorem setM (R : Rep S m L x st w) (j : Nat) (v : Value) {L' : Lay} {x' : Option Addr} {st' : St} (hm : (mcells L st x).setIfInBounds j v = mcells L' st' x')
  (h1 : L'.h = L.h) (h2 : L'.u = L.u) (h3 : L'.c = L.c) (h4 : st'.used = st.used) (h5 : st'.cells = st.cells)
  (hs : (w.setCell ⟨m, j, none⟩ v).ownsRow 0 3 1 L'.sv st'.stack.length (nums .i64 st'.stack)) (hp : (w.setCell ⟨m, j, none⟩ v).ownsRow 0 3 1 L'.pv st'.print.length (nums .i64 st'.print))
  (o1 : ∀ b, L'.sv.ownBlock = some b → S b) (o2 : ∀ b, L'.pv.ownBlock = some b → S b) (sc : L'.sv.ownBlock ≠ some L.c) (pc : L'.pv.ownBlock ≠ some L.c) (sp : L'.sv.ownBlock = none ∨ L'.sv.ownBlock ≠ L'.pv.ownBlock) (okS : ∀ v, v ∈ st'.stack → v ≤ 9223372036854775807) :
  Rep S m L' x' st' (w.setCell ⟨m, j, none⟩ v) := by
 refine ⟨hm ▸ R.head.set_ j v, ?_, ?_, hs, hp, R.ownM, h1 ▸ R.ownH, h2 ▸ R.ownU, h3 ▸ R.ownC, o1, o2, h3 ▸ sc, h3 ▸ pc, sp, okS, h5 ▸ R.okC⟩
 ·rw [h1, h2, h4]
  exact R.heap.other (R.heap.head.ne R.head (by decide)) (fun k hk => (R.heap.row k hk).ne R.head (by decide)) _
 ·rw [h3, h5]
  exact R.cells.other (R.cells.ne R.head (by decide)) _
theorem rowM (R : Rep S m L x st w) {v' : Value} {n : Nat} {xs : List Value} (h : w.ownsRow 0 3 1 v' n xs) (j : Nat) (v : Value) : (w.setCell ⟨m, j, none⟩ v).ownsRow 0 3 1 v' n xs :=
 row_of_block h (fun b e => (has_own h e).elim fun cur hc => Below.heap_setCell _ _ _ _ (hc.ne R.head (by decide)))
theorem set_steps (R : Rep S m L x st w) (n : Int) : Rep S m L x { st with steps := n } (w.setCell ⟨m, 3, none⟩ (.int .i64 n)) :=
 R.setM 3 _ rfl rfl rfl rfl rfl rfl (R.rowM R.stk _ _) (R.rowM R.prt _ _) R.ownS R.ownP R.sc R.pc R.sp R.okS
theorem set_depth (R : Rep S m L x st w) (n : Int) : Rep S m L x { st with depth := n } (w.setCell ⟨m, 9, none⟩ (.int .i64 n)) :=
 R.setM 9 _ rfl rfl rfl rfl rfl rfl (R.rowM R.stk _ _) (R.rowM R.prt _ _) R.ownS R.ownP R.sc R.pc R.sp R.okS
theorem set_calls (R : Rep S m L x st w) (n : Int) : Rep S m L x { st with calls := n } (w.setCell ⟨m, 10, none⟩ (.int .i64 n)) :=
 R.setM 10 _ rfl rfl rfl rfl rfl rfl (R.rowM R.stk _ _) (R.rowM R.prt _ _) R.ownS R.ownP R.sc R.pc R.sp R.okS
theorem set_x (R : Rep S m L x st w) (y : Option Addr) : Rep S m L y st (w.setCell ⟨m, 11, none⟩ (.pointer y)) :=
 R.setM 11 _ rfl rfl rfl rfl rfl rfl (R.rowM R.stk _ _) (R.rowM R.prt _ _) R.ownS R.ownP R.sc R.pc R.sp R.okS
theorem set_input (R : Rep S m L x st w) (A : Option Addr) (l : List Int) (c : Nat) : Rep S m { L with iA := A, ic := c } x { st with input := l } (w.setCell ⟨m, 4, none⟩ (.slice A l.length c)) :=
 R.setM 4 _ rfl rfl rfl rfl rfl rfl (R.rowM R.stk _ _) (R.rowM R.prt _ _) R.ownS R.ownP R.sc R.pc R.sp R.okS
end Rep
end Go.Proofs.Ytpphpcmbpbppoaa.Mach
end
section
namespace Go.Proofs.Ytpphpcmbpbppoaa.Mach
open Go.RowKit Go.Proofs.YtpphpcmbpbppoaaW.PrintWords Go.Proofs.YtpphpcmbpbppoaaW.PrintLast Go.Proofs.YtpphpcmbpbppoaaW.PrintMore
set_option linter.unusedVariables false
abbrev haltE (k c : Int) : Ending := .panicked [{ v := .iface 95 (.agg #[.int .i64 k, .int .i64 c]), recovered := false }]
set_option maxHeartbeats 1000000 in
theorem stop (k c : Int) (w : World) : Calls Try.prog 28 #[.int .i64 k, .int .i64 c] w fun e w' => e = haltE k c ∧ w' = w := by
 go_enter Try.func28, Try.ntmps28
 go_wp2
 exact ⟨rfl, rfl, rfl⟩
namespace Rep
variable {S : Nat → Prop} {m : Nat} {L : Lay} {x : Option Addr} {st : St} {w : World}
theorem c1 (R : Rep S m L x st w) : w.cell? ⟨m, 1, none⟩ = some (.slice L.lA L.ln L.lc) := by rw [R.head.cell]; rfl
theorem c0 (R : Rep S m L x st w) : w.cell? ⟨m, 0, none⟩ = some (.slice none 0 0) := by rw [R.head.cell]; rfl
theorem c2 (R : Rep S m L x st w) : w.cell? ⟨m, 2, none⟩ = some (.int .i64 st.fuel) := by rw [R.head.cell]; rfl
theorem c3 (R : Rep S m L x st w) : w.cell? ⟨m, 3, none⟩ = some (.int .i64 st.steps) := by rw [R.head.cell]; rfl
theorem c4 (R : Rep S m L x st w) : w.cell? ⟨m, 4, none⟩ = some (.slice L.iA st.input.length L.ic) := by rw [R.head.cell]; rfl
theorem c5 (R : Rep S m L x st w) : w.cell? ⟨m, 5, none⟩ = some L.pv := by rw [R.head.cell]; rfl
theorem c6 (R : Rep S m L x st w) : w.cell? ⟨m, 6, none⟩ = some L.sv := by rw [R.head.cell]; rfl
theorem c7 (R : Rep S m L x st w) : w.cell? ⟨m, 7, none⟩ = some (.pointer (some ⟨L.h, 0, none⟩)) := by rw [R.head.cell]; rfl
theorem c8 (R : Rep S m L x st w) : w.cell? ⟨m, 8, none⟩ = some (.slice (some ⟨L.c, 0, none⟩) 2816 2816) := by rw [R.head.cell]; rfl
theorem c9 (R : Rep S m L x st w) : w.cell? ⟨m, 9, none⟩ = some (.int .i64 st.depth) := by rw [R.head.cell]; rfl
theorem c10 (R : Rep S m L x st w) : w.cell? ⟨m, 10, none⟩ = some (.int .i64 st.calls) := by rw [R.head.cell]; rfl
theorem c11 (R : Rep S m L x st w) : w.cell? ⟨m, 11, none⟩ = some (.pointer x) := by rw [R.head.cell]; rfl
theorem fz (R : Rep S m L x st w) (j : Nat) : w.frozen? ⟨m, j, none⟩ = false := R.head.frozen j
end Rep
set_option maxHeartbeats 1000000 in
theorem step_ok {S : Nat → Prop} {m : Nat} {L : Lay} {x : Option Addr} {st : St} {w : World} (R : Rep S m L x st w) (h0 : 0 ≤ st.steps) (h1 : st.steps < st.fuel) (h2 : st.fuel ≤ 4611686018427387904) :
  Calls Try.prog 81 #[.pointer (some ⟨m, 0, none⟩)] w fun e w' => e = .returned (.tuple #[]) ∧ Kept S w w' ∧ Rep S m L x { st with steps := st.steps + 1 } w' := by
 have RR := Aside0.mk R
 have c2 := R.c2
 have c3 := R.c3
 have f3 := R.fz 3
 clear R
 have d : decide (st.steps ≥ st.fuel) = false := by simp; omega
 have h3 : st.steps < 4611686018427387904 := by omega
 clear h1 h2
 go_enter Try.func81, Try.ntmps81
 go_wp2
 go_quiet (fail)
 go_wp2
 refine bodyPost_end (results_none rfl _ _ _) rfl ⟨rfl, ?_, ?_⟩
 ·exact ((Kept.refl S w).drewN _).setCell RR.out.ownM _
 ·exact (RR.out.drewN _).set_steps _
set_option maxHeartbeats 1000000 in
theorem step_out {S : Nat → Prop} {m : Nat} {L : Lay} {x : Option Addr} {st : St} {w : World} (R : Rep S m L x st w) (h1 : ¬ st.steps < st.fuel) :
  Calls Try.prog 81 #[.pointer (some ⟨m, 0, none⟩)] w fun e w' => e = haltE 0 0 ∧ Kept S w w' ∧ Rep S m L x st w' := by
 have RR := Aside0.mk R
 have c2 := R.c2
 have c3 := R.c3
 clear R
 have d : decide (st.steps ≥ st.fuel) = true := by simp; omega
 clear h1
 go_enter Try.func81, Try.ntmps81
 go_wp2
 go_quiet (fail)
 go_wp2_with (go_at_call 28; refine (stop _ _ _).mono ?_; rintro e w1 ⟨rfl, rfl⟩)
 exact ⟨rfl, rfl, (Kept.refl S w).drewN _, RR.out.drewN _⟩
inductive Loc where
 | stk (k : Nat)
 | hp (j : Nat)
def locate (st : St) (a : Int) : Option Loc :=
 if Int.tmod a 4 = 0 then
  if 1048576 ≤ a ∧ (a - 1048576) / 4 < st.stack.length then some (.stk ((a - 1048576) / 4).toNat)
  else if (hfind st.used a).2.2.2 = true then some (.hp ((a - 262144) / 4).toNat) else none
 else none
def Lay.addr (L : Lay) : Loc → Addr
 | .stk k => ⟨L.sv.ownBlock.getD 0, k, none⟩
 | .hp j => ⟨L.c, j, none⟩
def rdL (st : St) : Loc → Int
 | .stk k => st.stack.getD k 0
 | .hp j => st.cells j
def wrL (st : St) (l : Loc) (v : Int) : St :=
 match l with
 | .stk k => { st with stack := st.stack.set k v }
 | .hp j => { st with cells := setF st.cells j v }
theorem hfind_in {used : Nat → Nat → Bool} {a : Int} (h : (hfind used a).2.2.2 = true) : 262144 ≤ a ∧ a < 273408 := by
 unfold hfind at h
 repeat' split at h
 all_goals first | (simp at h; done) | omega
theorem locate_stk {st : St} {a : Int} {k : Nat} (h : locate st a = some (.stk k)) : k < st.stack.length := by
 unfold locate at h
 repeat' split at h
 all_goals first | (simp at h; done) | (simp at h; omega)
theorem locate_hp {st : St} {a : Int} {j : Nat} (h : locate st a = some (.hp j)) : j < 2816 := by
 unfold locate at h
 repeat' split at h
 all_goals first | (simp at h; done) | skip
 rename_i _ _ h3
 have := hfind_in h3
 simp at h
 omega
namespace Rep
variable {S : Nat → Prop} {m : Nat} {L : Lay} {x : Option Addr} {st : St} {w : World}
theorem sv_form (R : Rep S m L x st w) (h : 0 < st.stack.length) : ∃ g cap, L.sv = .slice (some ⟨g, 0, none⟩) st.stack.length cap ∧ st.stack.length ≤ cap := by
 obtain ⟨g, cap, e, _⟩ := R.stk.form h
 rcases R.stk.2 with ⟨e', _⟩ | ⟨g', cap', cur, e', _, _, hn, _⟩
 ·rw [e] at e'; cases e'
 ·exact ⟨g', cap', e', hn⟩
theorem load (R : Rep S m L x st w) {a : Int} {l : Loc} (h : locate st a = some l) : w.cell? (L.addr l) = some (.int .i64 (rdL st l)) ∧ w.frozen? (L.addr l) = false := by
 cases l with
 | stk k =>
  have hk := locate_stk h
  obtain ⟨g, cap, e, hc⟩ := R.sv_form (by omega)
  have hs := R.stk
  rw [e] at hs
  have := own_at hs (k : Int) (by omega) (by omega)
  simpa [Lay.addr, e, Value.ownBlock, rdL, rd] using this
 | hp j =>
  have hj := locate_hp h
  exact ⟨by simp only [Lay.addr]; rw [R.cells.cell, cellsA_get _ _ hj]; rfl, R.cells.frozen _⟩
theorem addr_own (R : Rep S m L x st w) {a : Int} {l : Loc} (h : locate st a = some l) : S (L.addr l).block := by
 cases l with
 | stk k =>
  have hk := locate_stk h
  obtain ⟨g, cap, e, hc⟩ := R.sv_form (by omega)
  simp only [Lay.addr, e, Value.ownBlock, Option.getD]
  exact R.ownS g (by simp [e, Value.ownBlock])
 | hp j => exact R.ownC
theorem store (R : Rep S m L x st w) {a : Int} {l : Loc} (h : locate st a = some l) (v : Int) (hv : v ≤ 9223372036854775807) : Rep S m L x (wrL st l v) (w.setCell (L.addr l) (.int .i64 v)) := by
 cases l with
 | stk k =>
  have hk := locate_stk h
  obtain ⟨g, cap, e, hc⟩ := R.sv_form (by omega)
  have hs := R.stk
  rw [e] at hs
  obtain ⟨hs1, hg⟩ := own_store hs (k : Int) v
  have hb : L.sv.ownBlock = some g := by simp [e, Value.ownBlock]
  obtain ⟨cur, hcur⟩ := has_own R.stk hb
  have ha : L.addr (.stk k) = ⟨g, k, none⟩ := by simp [Lay.addr, e, Value.ownBlock]
  rw [ha]
  have nc : L.c ≠ g := fun x => R.sc (by rw [hb, x])
  refine ⟨?_, R.heap.other ((R.heap.head.ne hcur (by decide))) (fun k hk => (R.heap.row k hk).ne hcur (by decide)) _, R.cells.other nc _, ?_, ?_, R.ownM, R.ownH, R.ownU, R.ownC, R.ownS, R.ownP, R.sc, R.pc, R.sp, ?_, R.okC⟩
  ·have := R.head.other (R.head.ne hcur (by decide)) (a := ⟨g, k, none⟩) (.int .i64 v)
   simpa [mcells, wrL] using this
  ·show World.ownsRow _ 0 3 1 L.sv (st.stack.set k v).length (nums .i64 (st.stack.set k v))
   rw [e, List.length_set]
   simpa using hs1
  ·refine row_of_block R.prt (fun b hb' => Below.heap_setCell _ _ _ _ ?_)
   rintro rfl
   rcases R.sp with h1 | h1
   ·rw [hb] at h1; cases h1
   ·exact h1 (by rw [hb, hb'])
  ·intro y hy
   rcases List.mem_or_eq_of_mem_set hy with h1 | rfl
   ·exact R.okS y h1
   ·exact hv
 | hp j =>
  refine ⟨?_, R.heap.other (R.heap.head.ne R.cells (by decide)) (fun k hk => (R.heap.row k hk).ne R.cells (by decide)) _, ?_, ?_, ?_, R.ownM, R.ownH, R.ownU, R.ownC, R.ownS, R.ownP, R.sc, R.pc, R.sp, R.okS, ?_⟩
  ·have := R.head.other (R.head.ne R.cells (by decide)) (a := ⟨L.c, j, none⟩) (.int .i64 v)
   simpa [mcells, wrL, Lay.addr] using this
  ·have := R.cells.set_ j (.int .i64 v)
   rw [cellsA_set] at this
   exact this
  ·exact row_of_block R.stk (fun b hb => Below.heap_setCell _ _ _ _ (fun e => R.sc (by rw [hb]; exact congrArg some e)))
  ·exact row_of_block R.prt (fun b hb => Below.heap_setCell _ _ _ _ (fun e => R.pc (by rw [hb]; exact congrArg some e)))
  ·intro i
   simp only [wrL, setF]
   split
   ·exact hv
   ·exact R.okC i
theorem rd_le (R : Rep S m L x st w) (l : Loc) : rdL st l ≤ 9223372036854775807 := by
 cases l with
 | stk k =>
  simp only [rdL, List.getD_eq_getElem?_getD]
  cases hk : st.stack[k]? with
  | none => simp
  | some v => simpa using R.okS v (List.mem_of_getElem? hk)
 | hp j => exact R.okC j
end Rep
set_option maxHeartbeats 1000000 in
theorem cell_odd {S : Nat → Prop} {m : Nat} {L : Lay} {x : Option Addr} {st : St} {w : World} (a : Int) (h4 : (Int.tmod a 4 == 0) = false) :
  Calls Try.prog 98 #[.pointer (some ⟨m, 0, none⟩), .int .i64 a] w fun e w' => e = haltE 4 0 ∧ w' = w := by
 go_enter Try.func98, Try.ntmps98
 go_wp2_with (go_at_call 28; refine (stop _ _ _).mono ?_; rintro e w1 ⟨rfl, rfl⟩)
 exact ⟨rfl, rfl, rfl⟩
set_option maxHeartbeats 1000000 in
theorem emod4 {a : Int} (h : (Int.tmod a 4 == 0) = true) (h0 : 0 ≤ a) : (a % 4 == 0) = true := by
 rwa [Int.tmod_eq_emod_of_nonneg h0] at h
set_option maxHeartbeats 1000000 in
theorem cell_stk {m : Nat} {w : World} (g n cap : Nat) (a : Int) (c6 : w.cell? ⟨m, 6, none⟩ = some (.slice (some ⟨g, 0, none⟩) n cap)) (h4 : (Int.tmod a 4 == 0) = true) (h0 : 1048576 ≤ a) (h1 : a ≤ 9223372036854775807)
  (hlt : (a - 1048576) / 4 < n) (hn : n ≤ cap) :
  Calls Try.prog 98 #[.pointer (some ⟨m, 0, none⟩), .int .i64 a] w fun e w' => e = .returned (.pointer (some ⟨g, ((a - 1048576) / 4).toNat, none⟩)) ∧ w' = w := by
 have d0 : decide (a ≥ 1048576) = true := by simp; omega
 have d1 : decide ((a - 1048576) / 4 < (n : Int)) = true := by simp; omega
 have d2 : 0 ≤ (a - 1048576) / 4 := by omega
 have h4' := emod4 h4 (by omega)
 go_enter Try.func98, Try.ntmps98
 go_wp2
 go_ret
 exact ⟨rfl, rfl⟩
set_option maxHeartbeats 1000000 in
theorem cell_hp {m h c : Nat} {w : World} (sA : Option Addr) (n cap : Nat) (a : Int) (c6 : w.cell? ⟨m, 6, none⟩ = some (.slice sA n cap)) (c7 : w.cell? ⟨m, 7, none⟩ = some (.pointer (some ⟨h, 0, none⟩))) (c8 : w.cell? ⟨m, 8, none⟩ = some (.slice (some ⟨c, 0, none⟩) 2816 2816))
  (h4 : (Int.tmod a 4 == 0) = true) (d0 : decide (a ≥ 1048576) = false) (h0 : 262144 ≤ a) (h1 : a < 273408)
  (F : Calls Try.prog 117 #[.pointer (some ⟨h, 0, none⟩), .int .i64 a, .int .i64 1] w fun e w' => e = .returned (.bool true) ∧ Below w.heap.size w w') :
  Calls Try.prog 98 #[.pointer (some ⟨m, 0, none⟩), .int .i64 a] w fun e w' => e = .returned (.pointer (some ⟨c, ((a - 262144) / 4).toNat, none⟩)) ∧ Below w.heap.size w w' := by
 have FF := Aside0.mk F
 clear F
 have d2 : 0 ≤ (a - 262144) / 4 := by omega
 have d3 : (a - 262144) / 4 < 2816 := by omega
 have h4' := emod4 h4 (by omega)
 have hm8 := World.block_lt_of_cell? w _ c8
 have C8 := Aside0.mk c8
 go_enter Try.func98, Try.ntmps98
 go_wp2_with (go_at_call 117; refine FF.out.mono ?_; rintro e w1 ⟨rfl, hb⟩; have c8' := (hb.cell hm8).trans C8.out)
 go_ret
 exact ⟨rfl, hb⟩
set_option maxHeartbeats 1000000 in
theorem cell_none {m h : Nat} {w : World} (sA : Option Addr) (n cap : Nat) (a : Int) (c6 : w.cell? ⟨m, 6, none⟩ = some (.slice sA n cap)) (c7 : w.cell? ⟨m, 7, none⟩ = some (.pointer (some ⟨h, 0, none⟩)))
  (h4 : (Int.tmod a 4 == 0) = true) (d0 : 1048576 ≤ a → ¬ (a - 1048576) / 4 < n) (h1 : a ≤ 9223372036854775807)
  (F : Calls Try.prog 117 #[.pointer (some ⟨h, 0, none⟩), .int .i64 a, .int .i64 1] w fun e w' => e = .returned (.bool false) ∧ Below w.heap.size w w') :
  Calls Try.prog 98 #[.pointer (some ⟨m, 0, none⟩), .int .i64 a] w fun e w' => e = haltE 4 0 ∧ Below w.heap.size w w' := by
 have FF := Aside0.mk F
 clear F
 by_cases h0 : 1048576 ≤ a
 ·have d1 : decide (a ≥ 1048576) = true := by simp; omega
  have d2 : decide ((a - 1048576) / 4 < (n : Int)) = false := by have := d0 h0; simp; omega
  have d3 : 0 ≤ (a - 1048576) / 4 := by omega
  have h4' := emod4 h4 (by omega)
  clear d0
  go_enter Try.func98, Try.ntmps98
  go_wp2_with (first | (go_at_call 28; refine (stop _ _ _).mono ?_; rintro e w1 ⟨rfl, rfl⟩) | (go_at_call 117; refine FF.out.mono ?_; rintro e w1 ⟨rfl, hb⟩))
  exact ⟨rfl, rfl, hb⟩
 ·have d1 : decide (a ≥ 1048576) = false := by simp; omega
  clear d0
  go_enter Try.func98, Try.ntmps98
  go_wp2_with (first | (go_at_call 28; refine (stop _ _ _).mono ?_; rintro e w1 ⟨rfl, rfl⟩) | (go_at_call 117; refine FF.out.mono ?_; rintro e w1 ⟨rfl, hb⟩))
  exact ⟨rfl, rfl, hb⟩
theorem cell_ok {S : Nat → Prop} {m : Nat} {L : Lay} {x : Option Addr} {st : St} {w : World} (R : Rep S m L x st w) {a : Int} {l : Loc} (h1 : a ≤ 9223372036854775807) (h : locate st a = some l) :
  Calls Try.prog 98 #[.pointer (some ⟨m, 0, none⟩), .int .i64 a] w fun e w' => e = .returned (.pointer (some (L.addr l))) ∧ Below w.heap.size w w' := by
 have h0 := h
 unfold locate at h
 split at h
 ·rename_i h4
  split at h
  ·rename_i hs
   obtain ⟨g, cap, e, hc⟩ := R.sv_form (by omega)
   obtain rfl : Loc.stk ((a - 1048576) / 4).toNat = l := by simpa using h
   refine (cell_stk (m := m) g st.stack.length cap a (by rw [R.c6, e]) (by simpa using h4) hs.1 h1 hs.2 hc).mono fun e' w' ⟨he, hw⟩ => ?_
   subst hw
   exact ⟨by rw [he]; simp [Lay.addr, e, Value.ownBlock], Below.refl _ _⟩
  ·rename_i hs
   split at h
   ·rename_i hu
    obtain rfl : Loc.hp ((a - 262144) / 4).toNat = l := by simpa using h
    obtain ⟨A, c, e⟩ := own_slice R.stk
    have hi := hfind_in hu
    exact cell_hp (m := m) A st.stack.length c a (by rw [R.c6, e]) R.c7 R.c8 (by simpa using h4) (by simp; omega) hi.1 hi.2
     ((within L.h L.u st.used a w R.heap).mono fun e' w' ⟨he, hb⟩ => ⟨by rw [he]; simp [withinB, h4, hu], hb⟩)
   ·cases h
 ·cases h
theorem cell_bad {S : Nat → Prop} {m : Nat} {L : Lay} {x : Option Addr} {st : St} {w : World} (R : Rep S m L x st w) {a : Int} (h1 : a ≤ 9223372036854775807) (h : locate st a = none) :
  Calls Try.prog 98 #[.pointer (some ⟨m, 0, none⟩), .int .i64 a] w fun e w' => e = haltE 4 0 ∧ Below w.heap.size w w' := by
 unfold locate at h
 split at h
 ·rename_i h4
  split at h
  ·cases h
  ·rename_i hs
   split at h
   ·cases h
   ·rename_i hu
    obtain ⟨A, c, e⟩ := own_slice R.stk
    exact cell_none (m := m) A st.stack.length c a (by rw [R.c6, e]) R.c7 (by simpa using h4) (fun h2 h3 => hs ⟨h2, h3⟩) h1
     ((within L.h L.u st.used a w R.heap).mono fun e' w' ⟨he, hb⟩ => ⟨by rw [he]; simp [withinB, h4, hu], hb⟩)
 ·rename_i h4
  refine (cell_odd (S := S) (L := L) (x := x) (st := st) (m := m) a (by simpa using h4)).mono fun e' w' ⟨he, hw⟩ => ⟨he, by rw [hw]; exact Below.refl _ _⟩
end Go.Proofs.Ytpphpcmbpbppoaa.Mach
end
section
namespace Go.Proofs.Ytpphpcmbpbppoaa.PMirFuel
open Go.RowKit Go.Proofs.YtpphpcmbpbppoaaW.PrintWords Go.Proofs.YtpphpcmbpbppoaaW.PrintLast Go.Proofs.YtpphpcmbpbppoaaW.PrintMore
attribute [local go_sem] max2_int min2_int max_two min_two max_three min_three max_four min_four   
set_option linter.unusedVariables false
set_option linter.unusedSimpArgs false
def errW : Option Int → Value
 | none => .nilIface
 | some c => .iface 0 (.int .i64 c)
theorem errW_none : errW none = .nilIface := rfl
theorem errW_some (c : Int) : errW (some c) = .iface 0 (.int .i64 c) := rfl
theorem info3 : (Try.prog.info? 3).map (fun i => (i.zero, i.size, i.bytes)) = some (some (.int .i64 0), 1, 8) := by kernel_rfl
structure S30 where
 f0 : Bool
 f1 : Int
def z30 : S30 := ⟨false, (0 : Int)⟩
def k30 : Kd S30 := Kd.iso (Kd.pair Kd.bool (Kd.int .i64)) (fun x : S30 => (x.f0, x.f1))
theorem k30_open {w : World} {x : S30} {cs : List Value} (h : k30.K w x cs) : cs = [.bool x.f0, .int .i64 x.f1] := by
 obtain ⟨_, _, rfl, rfl, rfl⟩ := h
 exact rfl
theorem k30_mk (w : World) (x : S30)  : k30.K w x [.bool x.f0, .int .i64 x.f1] := ⟨[.bool x.f0], [.int .i64 x.f1], rfl, rfl, rfl⟩
def rd_T30 (xs : List S30) (i : Int) : S30 := xs.getD i.toNat z30
theorem at_T30 {w : World} {A : Option Addr} {n : Nat} {xs : List S30} (h : Kd.C k30 w A n xs) (i : Int) (h0 : 0 ≤ i) (h1 : i < n) : ∃ ad , A = some ad ∧ w.cell? (ad.add (i.toNat * 2)) = some (.bool (rd_T30 xs i).f0) ∧ w.cell? ⟨(ad.add (i.toNat * 2)).block, (ad.add (i.toNat * 2)).off + 1, none⟩ = some (.int .i64 (rd_T30 xs i).f1) := by
 obtain ⟨ad, c, e, _, hK, hc0⟩ := Kd.C_get h z30 i h0 h1
 have hc : ∀ j u, c[j]? = some u → w.cell? (ad.add (i.toNat * 2 + j)) = some u := hc0
 obtain rfl := k30_open hK
 exact ⟨ad, e, hc 0 _ rfl, by rw [← add_field _ _ 1 (by omega)]; exact hc 1 _ rfl⟩
structure S57 where
 f0 : Int
 f1 : Int
 f2 : Int
def z57 : S57 := ⟨(0 : Int), (0 : Int), (0 : Int)⟩
def k57 : Kd S57 := Kd.iso (Kd.pair (Kd.int .i64) (Kd.pair (Kd.int .i64) (Kd.int .i64))) (fun x : S57 => (x.f0, x.f1, x.f2))
theorem k57_open {w : World} {x : S57} {cs : List Value} (h : k57.K w x cs) : cs = [.int .i64 x.f0, .int .i64 x.f1, .int .i64 x.f2] := by
 obtain ⟨_, _, rfl, rfl, ⟨_, _, rfl, rfl, rfl⟩⟩ := h
 exact rfl
theorem k57_mk (w : World) (x : S57)  : k57.K w x [.int .i64 x.f0, .int .i64 x.f1, .int .i64 x.f2] := ⟨[.int .i64 x.f0], [.int .i64 x.f1, .int .i64 x.f2], rfl, rfl, ⟨[.int .i64 x.f1], [.int .i64 x.f2], rfl, rfl, rfl⟩⟩
def rd_T57 (xs : List S57) (i : Int) : S57 := xs.getD i.toNat z57
theorem at_T57 {w : World} {A : Option Addr} {n : Nat} {xs : List S57} (h : Kd.C k57 w A n xs) (i : Int) (h0 : 0 ≤ i) (h1 : i < n) : ∃ ad , A = some ad ∧ w.cell? (ad.add (i.toNat * 3)) = some (.int .i64 (rd_T57 xs i).f0) ∧ w.cell? ⟨(ad.add (i.toNat * 3)).block, (ad.add (i.toNat * 3)).off + 1, none⟩ = some (.int .i64 (rd_T57 xs i).f1) ∧ w.cell? ⟨(ad.add (i.toNat * 3)).block, (ad.add (i.toNat * 3)).off + 2, none⟩ = some (.int .i64 (rd_T57 xs i).f2) := by
 obtain ⟨ad, c, e, _, hK, hc0⟩ := Kd.C_get h z57 i h0 h1
 have hc : ∀ j u, c[j]? = some u → w.cell? (ad.add (i.toNat * 3 + j)) = some u := hc0
 obtain rfl := k57_open hK
 exact ⟨ad, e, hc 0 _ rfl, by rw [← add_field _ _ 1 (by omega)]; exact hc 1 _ rfl, by rw [← add_field _ _ 2 (by omega)]; exact hc 2 _ rfl⟩
structure S34 where
 f0 : Int
 f1 : (List S57)
def z34 : S34 := ⟨(0 : Int), ([] : List S57)⟩
def k34 : Kd S34 := Kd.iso (Kd.pair (Kd.int .i64) (Kd.slice 57 k57)) (fun x : S34 => (x.f0, x.f1))
theorem k34_open {w : World} {x : S34} {cs : List Value} (h : k34.K w x cs) : ∃ A1 c1, cs = [.int .i64 x.f0, .slice A1 x.f1.length c1] ∧ x.f1.length ≤ c1 ∧ k57.C w A1 x.f1.length x.f1 := by
 obtain ⟨_, _, rfl, rfl, ⟨A1, c1, rfl, l1, g1⟩⟩ := h
 exact ⟨A1, c1, rfl, l1, g1⟩
theorem k34_mk (w : World) (x : S34) {A1 : Option Addr} {c1 : Nat} (l1 : x.f1.length ≤ c1) (g1 : k57.C w A1 x.f1.length x.f1) : k34.K w x [.int .i64 x.f0, .slice A1 x.f1.length c1] := ⟨[.int .i64 x.f0], [.slice A1 x.f1.length c1], rfl, rfl, ⟨A1, c1, rfl, l1, g1⟩⟩
def rd_T34 (xs : List S34) (i : Int) : S34 := xs.getD i.toNat z34
theorem at_T34 {w : World} {A : Option Addr} {n : Nat} {xs : List S34} (h : Kd.C k34 w A n xs) (i : Int) (h0 : 0 ≤ i) (h1 : i < n) : ∃ ad A1 c1, A = some ad ∧ w.cell? (ad.add (i.toNat * 2)) = some (.int .i64 (rd_T34 xs i).f0) ∧ w.cell? ⟨(ad.add (i.toNat * 2)).block, (ad.add (i.toNat * 2)).off + 1, none⟩ = some (.slice A1 (rd_T34 xs i).f1.length c1) ∧ (rd_T34 xs i).f1.length ≤ c1 ∧ k57.C w A1 (rd_T34 xs i).f1.length (rd_T34 xs i).f1 := by
 obtain ⟨ad, c, e, _, hK, hc0⟩ := Kd.C_get h z34 i h0 h1
 have hc : ∀ j u, c[j]? = some u → w.cell? (ad.add (i.toNat * 2 + j)) = some u := hc0
 obtain ⟨A1, c1, rfl, l1, g1⟩ := k34_open hK
 exact ⟨ad, A1, c1, e, hc 0 _ rfl, by rw [← add_field _ _ 1 (by omega)]; exact hc 1 _ rfl, l1, g1⟩
structure S37 where
 f0 : Int
 f1 : ByteArray
 f2 : Int
 f3 : (List S37)
def z37 : S37 := ⟨(0 : Int), (⟨#[]⟩ : ByteArray), (0 : Int), ([] : List S37)⟩
def F37 (d : Kd S37) : Kd S37 := Kd.iso (Kd.pair (Kd.int .i64) (Kd.pair Kd.string (Kd.pair (Kd.int .i64) (Kd.slice 37 d)))) (fun x : S37 => (x.f0, x.f1, x.f2, x.f3))
theorem mono37 : Kd.Mono F37 := Kd.mono_iso _ (Kd.mono_pair (Kd.mono_const _) (Kd.mono_pair (Kd.mono_const _) (Kd.mono_pair (Kd.mono_const _) (Kd.mono_slice 37 Kd.mono_id))))
theorem sub37 : Kd.Sub F37 [37] := Kd.sub_iso _ (Kd.sub_pair (Kd.sub_const _ (by decide)) (Kd.sub_pair (Kd.sub_const _ (by decide)) (Kd.sub_pair (Kd.sub_const _ (by decide)) (Kd.sub_slice 37 (by decide) Kd.sub_id))))
theorem sz37 : ∀ n, (Kd.upto F37 4 [37] n).sz = 4 := Kd.upto_sz (fun _ => rfl)
def k37 : Kd S37 := Kd.fix F37 4 [37] sz37 (Kd.upto_E sub37)
theorem k37_open {w : World} {x : S37} {cs : List Value} (h : k37.K w x cs) : ∃ A3 c3, cs = [.int .i64 x.f0, .string x.f1, .int .i64 x.f2, .slice A3 x.f3.length c3] ∧ x.f3.length ≤ c3 ∧ k37.C w A3 x.f3.length x.f3 := by
 obtain ⟨n, h⟩ := h
 cases n with
 | zero => exact h.elim
 | succ n =>
  obtain ⟨_, _, rfl, rfl, ⟨_, _, rfl, rfl, ⟨_, _, rfl, rfl, ⟨A3, c3, rfl, l3, g3⟩⟩⟩⟩ := h
  exact ⟨A3, c3, rfl, l3, Kd.fix_C g3⟩
theorem k37_mk (w : World) (x : S37) {A3 : Option Addr} {c3 : Nat} (l3 : x.f3.length ≤ c3) (g3 : k37.C w A3 x.f3.length x.f3) : k37.K w x [.int .i64 x.f0, .string x.f1, .int .i64 x.f2, .slice A3 x.f3.length c3] := by
 obtain ⟨n3, q3⟩ := Kd.fix_C_back mono37 g3
 have r3 := Kd.upto_C_le mono37 sz37 (show n3 ≤ n3 by omega) q3
 exact ⟨n3 + 1, ⟨[.int .i64 x.f0], [.string x.f1, .int .i64 x.f2, .slice A3 x.f3.length c3], rfl, rfl, ⟨[.string x.f1], [.int .i64 x.f2, .slice A3 x.f3.length c3], rfl, rfl, ⟨[.int .i64 x.f2], [.slice A3 x.f3.length c3], rfl, rfl, ⟨A3, c3, rfl, l3, r3⟩⟩⟩⟩⟩
def rd_T37 (xs : List S37) (i : Int) : S37 := xs.getD i.toNat z37
theorem at_T37 {w : World} {A : Option Addr} {n : Nat} {xs : List S37} (h : Kd.C k37 w A n xs) (i : Int) (h0 : 0 ≤ i) (h1 : i < n) : ∃ ad A3 c3, A = some ad ∧ w.cell? (ad.add (i.toNat * 4)) = some (.int .i64 (rd_T37 xs i).f0) ∧ w.cell? ⟨(ad.add (i.toNat * 4)).block, (ad.add (i.toNat * 4)).off + 1, none⟩ = some (.string (rd_T37 xs i).f1) ∧ w.cell? ⟨(ad.add (i.toNat * 4)).block, (ad.add (i.toNat * 4)).off + 2, none⟩ = some (.int .i64 (rd_T37 xs i).f2) ∧ w.cell? ⟨(ad.add (i.toNat * 4)).block, (ad.add (i.toNat * 4)).off + 3, none⟩ = some (.slice A3 (rd_T37 xs i).f3.length c3) ∧ (rd_T37 xs i).f3.length ≤ c3 ∧ k37.C w A3 (rd_T37 xs i).f3.length (rd_T37 xs i).f3 := by
 obtain ⟨ad, c, e, _, hK, hc0⟩ := Kd.C_get h z37 i h0 h1
 have hc : ∀ j u, c[j]? = some u → w.cell? (ad.add (i.toNat * 4 + j)) = some u := hc0
 obtain ⟨A3, c3, rfl, l3, g3⟩ := k37_open hK
 exact ⟨ad, A3, c3, e, hc 0 _ rfl, by rw [← add_field _ _ 1 (by omega)]; exact hc 1 _ rfl, by rw [← add_field _ _ 2 (by omega)]; exact hc 2 _ rfl, by rw [← add_field _ _ 3 (by omega)]; exact hc 3 _ rfl, l3, g3⟩
structure S40 where
 f0 : Int
 f1 : Int
 f2 : S30
 f3 : S30
 f4 : S34
 f5 : S34
 f6 : Int
 f7 : ByteArray
 f8 : S37
 f9 : (List S30)
 f10 : (List Int)
def z40 : S40 := ⟨(0 : Int), (0 : Int), z30, z30, z34, z34, (0 : Int), (⟨#[]⟩ : ByteArray), z37, ([] : List S30), ([] : List Int)⟩
def k40 : Kd S40 := Kd.iso (Kd.pair (Kd.int .i64) (Kd.pair (Kd.int .i64) (Kd.pair k30 (Kd.pair k30 (Kd.pair k34 (Kd.pair k34 (Kd.pair (Kd.int .i64) (Kd.pair Kd.string (Kd.pair k37 (Kd.pair (Kd.slice 30 k30) (Kd.slice 3 (Kd.int .i64)))))))))))) (fun x : S40 => (x.f0, x.f1, x.f2, x.f3, x.f4, x.f5, x.f6, x.f7, x.f8, x.f9, x.f10))
theorem k40_open {w : World} {x : S40} {cs : List Value} (h : k40.K w x cs) : ∃ A7 c7 A9 c9 A15 c15 A16 c16 A17 c17, cs = [.int .i64 x.f0, .int .i64 x.f1, .bool x.f2.f0, .int .i64 x.f2.f1, .bool x.f3.f0, .int .i64 x.f3.f1, .int .i64 x.f4.f0, .slice A7 x.f4.f1.length c7, .int .i64 x.f5.f0, .slice A9 x.f5.f1.length c9, .int .i64 x.f6, .string x.f7, .int .i64 x.f8.f0, .string x.f8.f1, .int .i64 x.f8.f2, .slice A15 x.f8.f3.length c15, .slice A16 x.f9.length c16, .slice A17 x.f10.length c17] ∧ x.f4.f1.length ≤ c7 ∧ k57.C w A7 x.f4.f1.length x.f4.f1 ∧ x.f5.f1.length ≤ c9 ∧ k57.C w A9 x.f5.f1.length x.f5.f1 ∧ x.f8.f3.length ≤ c15 ∧ k37.C w A15 x.f8.f3.length x.f8.f3 ∧ x.f9.length ≤ c16 ∧ k30.C w A16 x.f9.length x.f9 ∧ x.f10.length ≤ c17 ∧ (Kd.int .i64).C w A17 x.f10.length x.f10 := by
 obtain ⟨_, _, rfl, rfl, ⟨_, _, rfl, rfl, ⟨_, _, rfl, s2, ⟨_, _, rfl, s4, ⟨_, _, rfl, s6, ⟨_, _, rfl, s8, ⟨_, _, rfl, rfl, ⟨_, _, rfl, rfl, ⟨_, _, rfl, s12, ⟨_, _, rfl, ⟨A16, c16, rfl, l16, g16⟩, ⟨A17, c17, rfl, l17, g17⟩⟩⟩⟩⟩⟩⟩⟩⟩⟩⟩ := h
 obtain rfl := k30_open s2
 obtain rfl := k30_open s4
 obtain ⟨A7, c7, rfl, l7, g7⟩ := k34_open s6
 obtain ⟨A9, c9, rfl, l9, g9⟩ := k34_open s8
 obtain ⟨A15, c15, rfl, l15, g15⟩ := k37_open s12
 exact ⟨A7, c7, A9, c9, A15, c15, A16, c16, A17, c17, rfl, l7, g7, l9, g9, l15, g15, l16, g16, l17, g17⟩
theorem k40_mk (w : World) (x : S40) {A7 : Option Addr} {c7 : Nat} (l7 : x.f4.f1.length ≤ c7) (g7 : k57.C w A7 x.f4.f1.length x.f4.f1) {A9 : Option Addr} {c9 : Nat} (l9 : x.f5.f1.length ≤ c9) (g9 : k57.C w A9 x.f5.f1.length x.f5.f1) {A15 : Option Addr} {c15 : Nat} (l15 : x.f8.f3.length ≤ c15) (g15 : k37.C w A15 x.f8.f3.length x.f8.f3) {A16 : Option Addr} {c16 : Nat} (l16 : x.f9.length ≤ c16) (g16 : k30.C w A16 x.f9.length x.f9) {A17 : Option Addr} {c17 : Nat} (l17 : x.f10.length ≤ c17) (g17 : (Kd.int .i64).C w A17 x.f10.length x.f10) : k40.K w x [.int .i64 x.f0, .int .i64 x.f1, .bool x.f2.f0, .int .i64 x.f2.f1, .bool x.f3.f0, .int .i64 x.f3.f1, .int .i64 x.f4.f0, .slice A7 x.f4.f1.length c7, .int .i64 x.f5.f0, .slice A9 x.f5.f1.length c9, .int .i64 x.f6, .string x.f7, .int .i64 x.f8.f0, .string x.f8.f1, .int .i64 x.f8.f2, .slice A15 x.f8.f3.length c15, .slice A16 x.f9.length c16, .slice A17 x.f10.length c17] := ⟨[.int .i64 x.f0], [.int .i64 x.f1, .bool x.f2.f0, .int .i64 x.f2.f1, .bool x.f3.f0, .int .i64 x.f3.f1, .int .i64 x.f4.f0, .slice A7 x.f4.f1.length c7, .int .i64 x.f5.f0, .slice A9 x.f5.f1.length c9, .int .i64 x.f6, .string x.f7, .int .i64 x.f8.f0, .string x.f8.f1, .int .i64 x.f8.f2, .slice A15 x.f8.f3.length c15, .slice A16 x.f9.length c16, .slice A17 x.f10.length c17], rfl, rfl, ⟨[.int .i64 x.f1], [.bool x.f2.f0, .int .i64 x.f2.f1, .bool x.f3.f0, .int .i64 x.f3.f1, .int .i64 x.f4.f0, .slice A7 x.f4.f1.length c7, .int .i64 x.f5.f0, .slice A9 x.f5.f1.length c9, .int .i64 x.f6, .string x.f7, .int .i64 x.f8.f0, .string x.f8.f1, .int .i64 x.f8.f2, .slice A15 x.f8.f3.length c15, .slice A16 x.f9.length c16, .slice A17 x.f10.length c17], rfl, rfl, ⟨[.bool x.f2.f0, .int .i64 x.f2.f1], [.bool x.f3.f0, .int .i64 x.f3.f1, .int .i64 x.f4.f0, .slice A7 x.f4.f1.length c7, .int .i64 x.f5.f0, .slice A9 x.f5.f1.length c9, .int .i64 x.f6, .string x.f7, .int .i64 x.f8.f0, .string x.f8.f1, .int .i64 x.f8.f2, .slice A15 x.f8.f3.length c15, .slice A16 x.f9.length c16, .slice A17 x.f10.length c17], rfl, (k30_mk w x.f2 ), ⟨[.bool x.f3.f0, .int .i64 x.f3.f1], [.int .i64 x.f4.f0, .slice A7 x.f4.f1.length c7, .int .i64 x.f5.f0, .slice A9 x.f5.f1.length c9, .int .i64 x.f6, .string x.f7, .int .i64 x.f8.f0, .string x.f8.f1, .int .i64 x.f8.f2, .slice A15 x.f8.f3.length c15, .slice A16 x.f9.length c16, .slice A17 x.f10.length c17], rfl, (k30_mk w x.f3 ), ⟨[.int .i64 x.f4.f0, .slice A7 x.f4.f1.length c7], [.int .i64 x.f5.f0, .slice A9 x.f5.f1.length c9, .int .i64 x.f6, .string x.f7, .int .i64 x.f8.f0, .string x.f8.f1, .int .i64 x.f8.f2, .slice A15 x.f8.f3.length c15, .slice A16 x.f9.length c16, .slice A17 x.f10.length c17], rfl, (k34_mk w x.f4 l7 g7), ⟨[.int .i64 x.f5.f0, .slice A9 x.f5.f1.length c9], [.int .i64 x.f6, .string x.f7, .int .i64 x.f8.f0, .string x.f8.f1, .int .i64 x.f8.f2, .slice A15 x.f8.f3.length c15, .slice A16 x.f9.length c16, .slice A17 x.f10.length c17], rfl, (k34_mk w x.f5 l9 g9), ⟨[.int .i64 x.f6], [.string x.f7, .int .i64 x.f8.f0, .string x.f8.f1, .int .i64 x.f8.f2, .slice A15 x.f8.f3.length c15, .slice A16 x.f9.length c16, .slice A17 x.f10.length c17], rfl, rfl, ⟨[.string x.f7], [.int .i64 x.f8.f0, .string x.f8.f1, .int .i64 x.f8.f2, .slice A15 x.f8.f3.length c15, .slice A16 x.f9.length c16, .slice A17 x.f10.length c17], rfl, rfl, ⟨[.int .i64 x.f8.f0, .string x.f8.f1, .int .i64 x.f8.f2, .slice A15 x.f8.f3.length c15], [.slice A16 x.f9.length c16, .slice A17 x.f10.length c17], rfl, (k37_mk w x.f8 l15 g15), ⟨[.slice A16 x.f9.length c16], [.slice A17 x.f10.length c17], rfl, ⟨A16, c16, rfl, l16, g16⟩, ⟨A17, c17, rfl, l17, g17⟩⟩⟩⟩⟩⟩⟩⟩⟩⟩⟩
def rd_T40 (xs : List S40) (i : Int) : S40 := xs.getD i.toNat z40
theorem at_T40 {w : World} {A : Option Addr} {n : Nat} {xs : List S40} (h : Kd.C k40 w A n xs) (i : Int) (h0 : 0 ≤ i) (h1 : i < n) : ∃ ad A7 c7 A9 c9 A15 c15 A16 c16 A17 c17, A = some ad ∧ w.cell? (ad.add (i.toNat * 18)) = some (.int .i64 (rd_T40 xs i).f0) ∧ w.cell? ⟨(ad.add (i.toNat * 18)).block, (ad.add (i.toNat * 18)).off + 1, none⟩ = some (.int .i64 (rd_T40 xs i).f1) ∧ w.cell? ⟨(ad.add (i.toNat * 18)).block, (ad.add (i.toNat * 18)).off + 2, none⟩ = some (.bool (rd_T40 xs i).f2.f0) ∧ w.cell? ⟨(ad.add (i.toNat * 18)).block, (ad.add (i.toNat * 18)).off + 3, none⟩ = some (.int .i64 (rd_T40 xs i).f2.f1) ∧ w.cell? ⟨(ad.add (i.toNat * 18)).block, (ad.add (i.toNat * 18)).off + 4, none⟩ = some (.bool (rd_T40 xs i).f3.f0) ∧ w.cell? ⟨(ad.add (i.toNat * 18)).block, (ad.add (i.toNat * 18)).off + 5, none⟩ = some (.int .i64 (rd_T40 xs i).f3.f1) ∧ w.cell? ⟨(ad.add (i.toNat * 18)).block, (ad.add (i.toNat * 18)).off + 6, none⟩ = some (.int .i64 (rd_T40 xs i).f4.f0) ∧ w.cell? ⟨(ad.add (i.toNat * 18)).block, (ad.add (i.toNat * 18)).off + 7, none⟩ = some (.slice A7 (rd_T40 xs i).f4.f1.length c7) ∧ w.cell? ⟨(ad.add (i.toNat * 18)).block, (ad.add (i.toNat * 18)).off + 8, none⟩ = some (.int .i64 (rd_T40 xs i).f5.f0) ∧ w.cell? ⟨(ad.add (i.toNat * 18)).block, (ad.add (i.toNat * 18)).off + 9, none⟩ = some (.slice A9 (rd_T40 xs i).f5.f1.length c9) ∧ w.cell? ⟨(ad.add (i.toNat * 18)).block, (ad.add (i.toNat * 18)).off + 10, none⟩ = some (.int .i64 (rd_T40 xs i).f6) ∧ w.cell? ⟨(ad.add (i.toNat * 18)).block, (ad.add (i.toNat * 18)).off + 11, none⟩ = some (.string (rd_T40 xs i).f7) ∧ w.cell? ⟨(ad.add (i.toNat * 18)).block, (ad.add (i.toNat * 18)).off + 12, none⟩ = some (.int .i64 (rd_T40 xs i).f8.f0) ∧ w.cell? ⟨(ad.add (i.toNat * 18)).block, (ad.add (i.toNat * 18)).off + 13, none⟩ = some (.string (rd_T40 xs i).f8.f1) ∧ w.cell? ⟨(ad.add (i.toNat * 18)).block, (ad.add (i.toNat * 18)).off + 14, none⟩ = some (.int .i64 (rd_T40 xs i).f8.f2) ∧ w.cell? ⟨(ad.add (i.toNat * 18)).block, (ad.add (i.toNat * 18)).off + 15, none⟩ = some (.slice A15 (rd_T40 xs i).f8.f3.length c15) ∧ w.cell? ⟨(ad.add (i.toNat * 18)).block, (ad.add (i.toNat * 18)).off + 16, none⟩ = some (.slice A16 (rd_T40 xs i).f9.length c16) ∧ w.cell? ⟨(ad.add (i.toNat * 18)).block, (ad.add (i.toNat * 18)).off + 17, none⟩ = some (.slice A17 (rd_T40 xs i).f10.length c17) ∧ (rd_T40 xs i).f4.f1.length ≤ c7 ∧ k57.C w A7 (rd_T40 xs i).f4.f1.length (rd_T40 xs i).f4.f1 ∧ (rd_T40 xs i).f5.f1.length ≤ c9 ∧ k57.C w A9 (rd_T40 xs i).f5.f1.length (rd_T40 xs i).f5.f1 ∧ (rd_T40 xs i).f8.f3.length ≤ c15 ∧ k37.C w A15 (rd_T40 xs i).f8.f3.length (rd_T40 xs i).f8.f3 ∧ (rd_T40 xs i).f9.length ≤ c16 ∧ k30.C w A16 (rd_T40 xs i).f9.length (rd_T40 xs i).f9 ∧ (rd_T40 xs i).f10.length ≤ c17 ∧ (Kd.int .i64).C w A17 (rd_T40 xs i).f10.length (rd_T40 xs i).f10 := by
 obtain ⟨ad, c, e, _, hK, hc0⟩ := Kd.C_get h z40 i h0 h1
 have hc : ∀ j u, c[j]? = some u → w.cell? (ad.add (i.toNat * 18 + j)) = some u := hc0
 obtain ⟨A7, c7, A9, c9, A15, c15, A16, c16, A17, c17, rfl, l7, g7, l9, g9, l15, g15, l16, g16, l17, g17⟩ := k40_open hK
 exact ⟨ad, A7, c7, A9, c9, A15, c15, A16, c16, A17, c17, e, hc 0 _ rfl, by rw [← add_field _ _ 1 (by omega)]; exact hc 1 _ rfl, by rw [← add_field _ _ 2 (by omega)]; exact hc 2 _ rfl, by rw [← add_field _ _ 3 (by omega)]; exact hc 3 _ rfl, by rw [← add_field _ _ 4 (by omega)]; exact hc 4 _ rfl, by rw [← add_field _ _ 5 (by omega)]; exact hc 5 _ rfl, by rw [← add_field _ _ 6 (by omega)]; exact hc 6 _ rfl, by rw [← add_field _ _ 7 (by omega)]; exact hc 7 _ rfl, by rw [← add_field _ _ 8 (by omega)]; exact hc 8 _ rfl, by rw [← add_field _ _ 9 (by omega)]; exact hc 9 _ rfl, by rw [← add_field _ _ 10 (by omega)]; exact hc 10 _ rfl, by rw [← add_field _ _ 11 (by omega)]; exact hc 11 _ rfl, by rw [← add_field _ _ 12 (by omega)]; exact hc 12 _ rfl, by rw [← add_field _ _ 13 (by omega)]; exact hc 13 _ rfl, by rw [← add_field _ _ 14 (by omega)]; exact hc 14 _ rfl, by rw [← add_field _ _ 15 (by omega)]; exact hc 15 _ rfl, by rw [← add_field _ _ 16 (by omega)]; exact hc 16 _ rfl, by rw [← add_field _ _ 17 (by omega)]; exact hc 17 _ rfl, l7, g7, l9, g9, l15, g15, l16, g16, l17, g17⟩
structure S43 where
 f0 : Int
 f1 : S30
 f2 : Int
 f3 : Int
 f4 : (List S30)
def z43 : S43 := ⟨(0 : Int), z30, (0 : Int), (0 : Int), ([] : List S30)⟩
def k43 : Kd S43 := Kd.iso (Kd.pair (Kd.int .i64) (Kd.pair k30 (Kd.pair (Kd.int .i64) (Kd.pair (Kd.int .i64) (Kd.slice 30 k30))))) (fun x : S43 => (x.f0, x.f1, x.f2, x.f3, x.f4))
theorem k43_open {w : World} {x : S43} {cs : List Value} (h : k43.K w x cs) : ∃ A5 c5, cs = [.int .i64 x.f0, .bool x.f1.f0, .int .i64 x.f1.f1, .int .i64 x.f2, .int .i64 x.f3, .slice A5 x.f4.length c5] ∧ x.f4.length ≤ c5 ∧ k30.C w A5 x.f4.length x.f4 := by
 obtain ⟨_, _, rfl, rfl, ⟨_, _, rfl, s1, ⟨_, _, rfl, rfl, ⟨_, _, rfl, rfl, ⟨A5, c5, rfl, l5, g5⟩⟩⟩⟩⟩ := h
 obtain rfl := k30_open s1
 exact ⟨A5, c5, rfl, l5, g5⟩
theorem k43_mk (w : World) (x : S43) {A5 : Option Addr} {c5 : Nat} (l5 : x.f4.length ≤ c5) (g5 : k30.C w A5 x.f4.length x.f4) : k43.K w x [.int .i64 x.f0, .bool x.f1.f0, .int .i64 x.f1.f1, .int .i64 x.f2, .int .i64 x.f3, .slice A5 x.f4.length c5] := ⟨[.int .i64 x.f0], [.bool x.f1.f0, .int .i64 x.f1.f1, .int .i64 x.f2, .int .i64 x.f3, .slice A5 x.f4.length c5], rfl, rfl, ⟨[.bool x.f1.f0, .int .i64 x.f1.f1], [.int .i64 x.f2, .int .i64 x.f3, .slice A5 x.f4.length c5], rfl, (k30_mk w x.f1 ), ⟨[.int .i64 x.f2], [.int .i64 x.f3, .slice A5 x.f4.length c5], rfl, rfl, ⟨[.int .i64 x.f3], [.slice A5 x.f4.length c5], rfl, rfl, ⟨A5, c5, rfl, l5, g5⟩⟩⟩⟩⟩
def rd_T43 (xs : List S43) (i : Int) : S43 := xs.getD i.toNat z43
structure S45 where
 f0 : (List S40)
 f1 : S43
def z45 : S45 := ⟨([] : List S40), z43⟩
def k45 : Kd S45 := Kd.iso (Kd.pair (Kd.slice 40 k40) k43) (fun x : S45 => (x.f0, x.f1))
theorem k45_open {w : World} {x : S45} {cs : List Value} (h : k45.K w x cs) : ∃ A0 c0 A6 c6, cs = [.slice A0 x.f0.length c0, .int .i64 x.f1.f0, .bool x.f1.f1.f0, .int .i64 x.f1.f1.f1, .int .i64 x.f1.f2, .int .i64 x.f1.f3, .slice A6 x.f1.f4.length c6] ∧ x.f0.length ≤ c0 ∧ k40.C w A0 x.f0.length x.f0 ∧ x.f1.f4.length ≤ c6 ∧ k30.C w A6 x.f1.f4.length x.f1.f4 := by
 obtain ⟨_, _, rfl, ⟨A0, c0, rfl, l0, g0⟩, s1⟩ := h
 obtain ⟨A6, c6, rfl, l6, g6⟩ := k43_open s1
 exact ⟨A0, c0, A6, c6, rfl, l0, g0, l6, g6⟩
theorem k45_mk (w : World) (x : S45) {A0 : Option Addr} {c0 : Nat} (l0 : x.f0.length ≤ c0) (g0 : k40.C w A0 x.f0.length x.f0) {A6 : Option Addr} {c6 : Nat} (l6 : x.f1.f4.length ≤ c6) (g6 : k30.C w A6 x.f1.f4.length x.f1.f4) : k45.K w x [.slice A0 x.f0.length c0, .int .i64 x.f1.f0, .bool x.f1.f1.f0, .int .i64 x.f1.f1.f1, .int .i64 x.f1.f2, .int .i64 x.f1.f3, .slice A6 x.f1.f4.length c6] := ⟨[.slice A0 x.f0.length c0], [.int .i64 x.f1.f0, .bool x.f1.f1.f0, .int .i64 x.f1.f1.f1, .int .i64 x.f1.f2, .int .i64 x.f1.f3, .slice A6 x.f1.f4.length c6], rfl, ⟨A0, c0, rfl, l0, g0⟩, (k43_mk w x.f1 l6 g6)⟩
def rd_T45 (xs : List S45) (i : Int) : S45 := xs.getD i.toNat z45
theorem at_T45 {w : World} {A : Option Addr} {n : Nat} {xs : List S45} (h : Kd.C k45 w A n xs) (i : Int) (h0 : 0 ≤ i) (h1 : i < n) : ∃ ad A0 c0 A6 c6, A = some ad ∧ w.cell? (ad.add (i.toNat * 7)) = some (.slice A0 (rd_T45 xs i).f0.length c0) ∧ w.cell? ⟨(ad.add (i.toNat * 7)).block, (ad.add (i.toNat * 7)).off + 1, none⟩ = some (.int .i64 (rd_T45 xs i).f1.f0) ∧ w.cell? ⟨(ad.add (i.toNat * 7)).block, (ad.add (i.toNat * 7)).off + 2, none⟩ = some (.bool (rd_T45 xs i).f1.f1.f0) ∧ w.cell? ⟨(ad.add (i.toNat * 7)).block, (ad.add (i.toNat * 7)).off + 3, none⟩ = some (.int .i64 (rd_T45 xs i).f1.f1.f1) ∧ w.cell? ⟨(ad.add (i.toNat * 7)).block, (ad.add (i.toNat * 7)).off + 4, none⟩ = some (.int .i64 (rd_T45 xs i).f1.f2) ∧ w.cell? ⟨(ad.add (i.toNat * 7)).block, (ad.add (i.toNat * 7)).off + 5, none⟩ = some (.int .i64 (rd_T45 xs i).f1.f3) ∧ w.cell? ⟨(ad.add (i.toNat * 7)).block, (ad.add (i.toNat * 7)).off + 6, none⟩ = some (.slice A6 (rd_T45 xs i).f1.f4.length c6) ∧ (rd_T45 xs i).f0.length ≤ c0 ∧ k40.C w A0 (rd_T45 xs i).f0.length (rd_T45 xs i).f0 ∧ (rd_T45 xs i).f1.f4.length ≤ c6 ∧ k30.C w A6 (rd_T45 xs i).f1.f4.length (rd_T45 xs i).f1.f4 := by
 obtain ⟨ad, c, e, _, hK, hc0⟩ := Kd.C_get h z45 i h0 h1
 have hc : ∀ j u, c[j]? = some u → w.cell? (ad.add (i.toNat * 7 + j)) = some u := hc0
 obtain ⟨A0, c0, A6, c6, rfl, l0, g0, l6, g6⟩ := k45_open hK
 exact ⟨ad, A0, c0, A6, c6, e, hc 0 _ rfl, by rw [← add_field _ _ 1 (by omega)]; exact hc 1 _ rfl, by rw [← add_field _ _ 2 (by omega)]; exact hc 2 _ rfl, by rw [← add_field _ _ 3 (by omega)]; exact hc 3 _ rfl, by rw [← add_field _ _ 4 (by omega)]; exact hc 4 _ rfl, by rw [← add_field _ _ 5 (by omega)]; exact hc 5 _ rfl, by rw [← add_field _ _ 6 (by omega)]; exact hc 6 _ rfl, l0, g0, l6, g6⟩
structure S48 where
 f0 : ByteArray
 f1 : (List Int)
 f2 : Int
 f3 : Int
 f4 : Bool
 f5 : (List S45)
def z48 : S48 := ⟨(⟨#[]⟩ : ByteArray), ([] : List Int), (0 : Int), (0 : Int), false, ([] : List S45)⟩
def k48 : Kd S48 := Kd.iso (Kd.pair Kd.string (Kd.pair (Kd.slice 3 (Kd.int .i64)) (Kd.pair (Kd.int .i64) (Kd.pair (Kd.int .i64) (Kd.pair Kd.bool (Kd.slice 45 k45)))))) (fun x : S48 => (x.f0, x.f1, x.f2, x.f3, x.f4, x.f5))
theorem k48_open {w : World} {x : S48} {cs : List Value} (h : k48.K w x cs) : ∃ A1 c1 A5 c5, cs = [.string x.f0, .slice A1 x.f1.length c1, .int .i64 x.f2, .int .i64 x.f3, .bool x.f4, .slice A5 x.f5.length c5] ∧ x.f1.length ≤ c1 ∧ (Kd.int .i64).C w A1 x.f1.length x.f1 ∧ x.f5.length ≤ c5 ∧ k45.C w A5 x.f5.length x.f5 := by
 obtain ⟨_, _, rfl, rfl, ⟨_, _, rfl, ⟨A1, c1, rfl, l1, g1⟩, ⟨_, _, rfl, rfl, ⟨_, _, rfl, rfl, ⟨_, _, rfl, rfl, ⟨A5, c5, rfl, l5, g5⟩⟩⟩⟩⟩⟩ := h
 exact ⟨A1, c1, A5, c5, rfl, l1, g1, l5, g5⟩
theorem k48_mk (w : World) (x : S48) {A1 : Option Addr} {c1 : Nat} (l1 : x.f1.length ≤ c1) (g1 : (Kd.int .i64).C w A1 x.f1.length x.f1) {A5 : Option Addr} {c5 : Nat} (l5 : x.f5.length ≤ c5) (g5 : k45.C w A5 x.f5.length x.f5) : k48.K w x [.string x.f0, .slice A1 x.f1.length c1, .int .i64 x.f2, .int .i64 x.f3, .bool x.f4, .slice A5 x.f5.length c5] := ⟨[.string x.f0], [.slice A1 x.f1.length c1, .int .i64 x.f2, .int .i64 x.f3, .bool x.f4, .slice A5 x.f5.length c5], rfl, rfl, ⟨[.slice A1 x.f1.length c1], [.int .i64 x.f2, .int .i64 x.f3, .bool x.f4, .slice A5 x.f5.length c5], rfl, ⟨A1, c1, rfl, l1, g1⟩, ⟨[.int .i64 x.f2], [.int .i64 x.f3, .bool x.f4, .slice A5 x.f5.length c5], rfl, rfl, ⟨[.int .i64 x.f3], [.bool x.f4, .slice A5 x.f5.length c5], rfl, rfl, ⟨[.bool x.f4], [.slice A5 x.f5.length c5], rfl, rfl, ⟨A5, c5, rfl, l5, g5⟩⟩⟩⟩⟩⟩
def rd_T48 (xs : List S48) (i : Int) : S48 := xs.getD i.toNat z48
theorem at_T48 {w : World} {A : Option Addr} {n : Nat} {xs : List S48} (h : Kd.C k48 w A n xs) (i : Int) (h0 : 0 ≤ i) (h1 : i < n) : ∃ ad A1 c1 A5 c5, A = some ad ∧ w.cell? (ad.add (i.toNat * 6)) = some (.string (rd_T48 xs i).f0) ∧ w.cell? ⟨(ad.add (i.toNat * 6)).block, (ad.add (i.toNat * 6)).off + 1, none⟩ = some (.slice A1 (rd_T48 xs i).f1.length c1) ∧ w.cell? ⟨(ad.add (i.toNat * 6)).block, (ad.add (i.toNat * 6)).off + 2, none⟩ = some (.int .i64 (rd_T48 xs i).f2) ∧ w.cell? ⟨(ad.add (i.toNat * 6)).block, (ad.add (i.toNat * 6)).off + 3, none⟩ = some (.int .i64 (rd_T48 xs i).f3) ∧ w.cell? ⟨(ad.add (i.toNat * 6)).block, (ad.add (i.toNat * 6)).off + 4, none⟩ = some (.bool (rd_T48 xs i).f4) ∧ w.cell? ⟨(ad.add (i.toNat * 6)).block, (ad.add (i.toNat * 6)).off + 5, none⟩ = some (.slice A5 (rd_T48 xs i).f5.length c5) ∧ (rd_T48 xs i).f1.length ≤ c1 ∧ (Kd.int .i64).C w A1 (rd_T48 xs i).f1.length (rd_T48 xs i).f1 ∧ (rd_T48 xs i).f5.length ≤ c5 ∧ k45.C w A5 (rd_T48 xs i).f5.length (rd_T48 xs i).f5 := by
 obtain ⟨ad, c, e, _, hK, hc0⟩ := Kd.C_get h z48 i h0 h1
 have hc : ∀ j u, c[j]? = some u → w.cell? (ad.add (i.toNat * 6 + j)) = some u := hc0
 obtain ⟨A1, c1, A5, c5, rfl, l1, g1, l5, g5⟩ := k48_open hK
 exact ⟨ad, A1, c1, A5, c5, e, hc 0 _ rfl, by rw [← add_field _ _ 1 (by omega)]; exact hc 1 _ rfl, by rw [← add_field _ _ 2 (by omega)]; exact hc 2 _ rfl, by rw [← add_field _ _ 3 (by omega)]; exact hc 3 _ rfl, by rw [← add_field _ _ 4 (by omega)]; exact hc 4 _ rfl, by rw [← add_field _ _ 5 (by omega)]; exact hc 5 _ rfl, l1, g1, l5, g5⟩
end Go.Proofs.Ytpphpcmbpbppoaa.PMirFuel
end
section
namespace Go.Proofs.Ytpphpcmbpbppoaa.Calm
open Go Go.RowKit
set_option linter.unusedVariables false
section
variable {P : Program} {ops : Array Oper} {C : World → Prop} {B : List PanicEntry → World → Prop} {D : Option Nat} {E : Act → Prop}
def calmR (P : Program) (C : World → Prop) (B : List PanicEntry → World → Prop) (w : World) (v : Value) : Result Next → Prop
 | .ok (.value u) w' => w' = w ∧ u = v
 | .ok .skip w' => w' = w ∧ undef = v
 | .ok (.enter f args) w' => w' = w ∧ Calls P f args w fun e w'' => (e = .returned v ∧ C w'') ∨ ∃ ch, e = .panicked ch ∧ B ch w''
 | _ => False
def calmAt (P : Program) (C : World → Prop) (B : List PanicEntry → World → Prop) (o : Oper) (a : Act) (v : Value) (w : World) : Prop := calmR P C B w v ((execOp a.eval o).run P w)
def Gives (P : Program) (ops : Array Oper) (C : World → Prop) (B : List PanicEntry → World → Prop) (o : Oper) (v : Value) (a : Act) : Prop :=
 (Region.wanted o (yielded ops a.tmps) = true ∧ ∀ w, C w → calmAt P C B o a v w) ∨ (Region.wanted o (yielded ops a.tmps) = false ∧ v = undef)
def doomR (P : Program) (B : List PanicEntry → World → Prop) (w : World) : Result Next → Prop
 | .ok (.enter f args) w' => w' = w ∧ Calls P f args w fun e w'' => ∃ ch, e = .panicked ch ∧ B ch w''
 | _ => False
def Doomed (P : Program) (ops : Array Oper) (C : World → Prop) (B : List PanicEntry → World → Prop) (o : Oper) (a : Act) : Prop :=
 Region.wanted o (yielded ops a.tmps) = true ∧ ∀ w, C w → doomR P B w ((execOp a.eval o).run P w)
def DoomAt (P : Program) (ops : Array Oper) (C : World → Prop) (B : List PanicEntry → World → Prop) (i : Nat) (a : Act) : Prop := ∃ o, ops[i]? = some o ∧ Doomed P ops C B o a
def anyC (P : Program) (ops : Array Oper) (C : World → Prop) (B : List PanicEntry → World → Prop) (D : Option Nat) (E : Act → Prop) : Nat → Array Bool → Act → Prop
 | 0, ls, a => Region.ready .any ops ls = [] ∧ E a
 | n + 1, ls, a => (Region.ready .any ops ls = [] → E a) ∧ ∀ i ∈ Region.ready .any ops ls,
   (D = some i ∧ DoomAt P ops C B i a) ∨ (D ≠ some i ∧ ∃ o, ops[i]? = some o ∧ ∃ v, Gives P ops C B o v a ∧ anyC P ops C B D E n (ls.setIfInBounds i true) (a.put o.dst v))
theorem put_defers (a : Act) (d : Option Tmp) (v : Value) : (a.put d v).defers = a.defers := by cases d <;> rfl
theorem any_sound {Q : Exit → Act → World → Prop} {df : List Deferred} (hE : ∀ a w, C w → E a → Q .normal a w) (hB : ∀ ch a w, a.defers = df → B ch w → Q (.panic ch) a w) :
  ∀ (n : Nat) (ls : Array Bool) (a : Act) (w : World), a.defers = df → C w → anyC P ops C B D E n ls a → wpAny P .any ops Q n ls a w
 | 0, _, _, _, _, hw, h => ⟨h.1, hE _ _ hw h.2⟩
 | n + 1, ls, a, w, hdf, hw, h => by
  refine ⟨fun h0 => hE _ _ hw (h.1 h0), fun i hi => ?_⟩
  unfold wpOp
  rcases h.2 i hi with ⟨_, o, ho, hwant, hd⟩ | ⟨_, o, ho, v, hg, hn⟩
  ·simp only [ho, hwant, if_true]
   refine .inl ?_
   have hdw := hd w hw
   unfold Oper.wp
   generalize (execOp a.eval o).run P w = r at *
   cases r with
   | halt x w' => exact hdw.elim
   | ok nx w' =>
    cases nx with
    | enter f args =>
     obtain ⟨e1, hc⟩ := hdw
     simp only [Oper.upon]
     rw [e1]
     refine hc.mono fun e w'' ⟨ch, he, hb⟩ => ?_
     subst he
     exact hB ch _ _ hdf hb
    | _ => exact hdw.elim
  ·simp only [ho]
   rcases hg with ⟨hwant, hv⟩ | ⟨hwant, rfl⟩
   ·simp only [hwant, if_true]
    refine .inl ?_
    have hvw := hv w hw
    unfold calmAt at hvw
    unfold Oper.wp
    generalize (execOp a.eval o).run P w = r at *
    cases r with
    | halt x w' => exact hvw.elim
    | ok nx w' =>
     cases nx with
     | value u =>
      obtain ⟨e1, e2⟩ := hvw
      simp only [Oper.upon]
      rw [e1, e2]
      exact any_sound hE hB n _ _ _ ((put_defers _ _ _).trans hdf) hw hn
     | skip =>
      obtain ⟨e1, e2⟩ := hvw
      simp only [Oper.upon]
      rw [e1, e2]
      exact any_sound hE hB n _ _ _ ((put_defers _ _ _).trans hdf) hw hn
     | enter f args =>
      obtain ⟨e1, hc⟩ := hvw
      simp only [Oper.upon]
      rw [e1]
      refine hc.mono fun e w'' hh => ?_
      rcases hh with ⟨he, hw''⟩ | ⟨ch, he, hb⟩
      ·subst he
       exact any_sound hE hB n _ _ _ ((put_defers _ _ _).trans hdf) hw'' hn
      ·subst he
       exact hB ch _ _ hdf hb
     | _ => exact hvw.elim
   ·simp only [hwant, Bool.false_eq_true, if_false]
    exact any_sound hE hB n _ _ _ ((put_defers _ _ _).trans hdf) hw hn
theorem Gives.put {o o' : Oper} {a : Act} {v u : Value} (hs : ∀ cs b, o.op ≠ .select cs b) (h : ∀ d, o'.dst = some d → d ∉ o.looksAt ops) :
  Gives P ops C B o v (a.put o'.dst u) ↔ Gives P ops C B o v a := by
 unfold Gives calmAt
 rw [execOp_put o hs a o'.dst u h, wanted_put o a o'.dst u h]
theorem Doomed.put {o o' : Oper} {a : Act} {u : Value} (hs : ∀ cs b, o.op ≠ .select cs b) (h : ∀ d, o'.dst = some d → d ∉ o.looksAt ops) :
  Doomed P ops C B o (a.put o'.dst u) ↔ Doomed P ops C B o a := by
 unfold Doomed
 rw [execOp_put o hs a o'.dst u h, wanted_put o a o'.dst u h]
theorem any_first {i : Nat} {oi : Oper} {v : Value} (hi : ops[i]? = some oi) (hD : D ≠ some i) (hsel : ∀ (j : Nat) (o : Oper) cs b, ops[j]? = some o → o.op ≠ .select cs b) :
  ∀ (n : Nat) (ls : Array Bool) (a : Act),
   (∀ j oj, ops[j]? = some oj → j ≠ i → ls.getD j true = false → (∀ e ∈ oj.after, Region.binds .any e = true → e.on ≠ i) → oi.apart ops oj = true) →
   i ∈ Region.ready .any ops ls → Gives P ops C B oi v a → anyC P ops C B D E n (ls.setIfInBounds i true) (a.put oi.dst v) → anyC P ops C B D E (n + 1) ls a := by
 intro n
 induction n with
 | zero =>
  intro ls a _ hr hy H
  refine ⟨fun h => (by rw [h] at hr; cases hr), fun j hj => ?_⟩
  by_cases hji : j = i
  ·subst hji; exact .inr ⟨hD, oi, hi, v, hy, H⟩
  ·have := ready_mono hj hji
   rw [H.1] at this
   cases this
 | succ n ih =>
  intro ls a hfree hr hy H
  refine ⟨fun h => (by rw [h] at hr; cases hr), fun j hj => ?_⟩
  by_cases hji : j = i
  ·subst hji; exact .inr ⟨hD, oi, hi, v, hy, H⟩
  obtain ⟨hjun, oj, hoj, hall⟩ := mem_ready.1 hj
  have hnot : ∀ e ∈ oj.after, Region.binds .any e = true → e.on ≠ i := by
   intro e he hb heq
   have h1 := hall e he hb
   have h0 := (mem_ready.1 hr).1
   rw [heq] at h1
   rcases Nat.lt_or_ge i ls.size with h' | h'
   ·simp [h'] at h0 h1; rw [h0] at h1; cases h1
   ·simp [Array.getElem?_eq_none h'] at h1
  obtain ⟨a1, a2, a3⟩ := Oper.apart_spec (hfree j oj hoj hji hjun hnot)
  have si := fun cs b => hsel i oi cs b hi
  have sj := fun cs b => hsel j oj cs b hoj
  rcases H.2 j (ready_mono hj hji) with ⟨hd, o, ho, hdo⟩ | ⟨hd, o, ho, u, hu, hn⟩
  ·obtain rfl : o = oj := Option.some.inj (ho.symm.trans hoj)
   exact .inl ⟨hd, o, ho, (Doomed.put sj a1).1 hdo⟩
  ·obtain rfl : o = oj := Option.some.inj (ho.symm.trans hoj)
   refine .inr ⟨hd, o, ho, u, (Gives.put sj a1).1 hu, ih (ls.setIfInBounds j true) (a.put o.dst u) ?_ (ready_mono hr (Ne.symm hji)) ((Gives.put si a3).2 hy) ?_⟩
   ·intro k ok hk hki hun hno
    refine hfree k ok hk hki ?_ hno
    by_cases hjk : j = k
    ·subst hjk; exact hjun
    ·rwa [getD_set_ne true hjk] at hun
   ·rw [Array.setIfInBounds_comm _ _ hji, ← Act.put_comm a v u a2]
    exact hn
def walk (P : Program) (ops : Array Oper) (C : World → Prop) (B : List PanicEntry → World → Prop) (Q : Act → Prop) : List Nat → Act → Prop
 | [], a => Q a
 | k :: ks, a => ∃ o, ops[k]? = some o ∧ ∃ v, Gives P ops C B o v a ∧ walk P ops C B Q ks (a.put o.dst v)
def lexK (ops : Array Oper) (D : Option Nat) : List Nat → Array Bool → Bool
 | [], ls => match D with | none => (Region.ready .any ops ls).isEmpty | some d => (Region.ready .any ops ls) == [d]
 | k :: ks, ls => (Region.ready .any ops ls).contains k && Region.free .any ops ls k && (D != some k) && lexK ops D ks (ls.setIfInBounds k true)
def Behind (P : Program) (ops : Array Oper) (C : World → Prop) (B : List PanicEntry → World → Prop) (D : Option Nat) (E : Act → Prop) (a : Act) : Prop :=
 match D with | none => E a | some d => DoomAt P ops C B d a
theorem any_lex (hs : Region.noSelect ops = true) (hE : D ≠ none → ∀ a, E a → False) : ∀ (ks : List Nat) (n : Nat) (ls : Array Bool) (a : Act), ks.length ≤ n → (D ≠ none → ks.length < n) →
  lexK ops D ks ls = true → walk P ops C B (Behind P ops C B D E) ks a → anyC P ops C B D E n ls a
 | [], n, ls, a, hn, hn', hB, h => by
  unfold lexK at hB
  simp only [walk, Behind] at h
  cases D with
  | none =>
   simp only [List.isEmpty_iff] at hB
   cases n with
   | zero => exact ⟨hB, h⟩
   | succ n => exact ⟨fun _ => h, fun i hi => (by rw [hB] at hi; cases hi)⟩
  | some d =>
   have hr : Region.ready .any ops ls = [d] := by simpa using hB
   cases n with
   | zero => exact absurd (hn' (by simp)) (by simp)
   | succ n =>
    refine ⟨fun h0 => (by rw [hr] at h0; cases h0), fun i hi => ?_⟩
    rw [hr] at hi
    obtain rfl : i = d := by simpa using hi
    exact .inl ⟨rfl, h⟩
 | k :: ks, n, ls, a, hn, hn', hB, h => by
  simp only [lexK, Bool.and_eq_true, bne_iff_ne] at hB
  obtain ⟨⟨⟨hr, hf⟩, hd⟩, hB'⟩ := hB
  obtain ⟨o, ho, v, hg, hw⟩ := h
  cases n with
  | zero => simp at hn
  | succ n =>
   exact any_first ho hd (Region.noSelect_spec hs) n ls a (Region.free_spec ho hf) (by simpa using hr) hg
    (any_lex hs hE ks n _ _ (by simpa using hn) (fun h0 => by have := hn' h0; simpa using this) hB' hw)
theorem region_calm {id : Nat} {Q : Exit → Act → World → Prop} {a : Act} {w : World} {l : List Oper} (C : World → Prop) (B : List PanicEntry → World → Prop) (hm : P.follows .mixedOrders = true) (hs : Region.noSelect l.toArray = true)
  (hB : lexK l.toArray none (List.range l.length) (Array.replicate l.length false) = true) (hC : C w.drew) (hP : ∀ ch a' w, a'.defers = a.defers → B ch w → Q (.panic ch) a' w)
  (h : walk P l.toArray C B (fun a' => ∀ w', C w' → Q .normal a' w') (List.range l.length) a) : (Code.region id l.toArray true).wp P Q a w := by
 refine wp_region_any hm ?_
 refine any_sound (D := none) (E := fun a' => ∀ w', C w' → Q .normal a' w') (fun a' w' hw h' => h' w' hw) hP _ _ _ _ rfl hC ?_
 exact any_lex hs (fun h0 => absurd rfl h0) (List.range l.length) l.length _ a (by simp) (fun h0 => absurd rfl h0) (by simpa using hB) h
theorem region_doomed {id : Nat} {Q : Exit → Act → World → Prop} {a : Act} {w : World} {l : List Oper} (C : World → Prop) (B : List PanicEntry → World → Prop) (d : Nat) (ks : List Nat) (hm : P.follows .mixedOrders = true) (hs : Region.noSelect l.toArray = true)
  (hB : (lexK l.toArray (some d) ks (Array.replicate l.length false) && decide (ks.length < l.length)) = true) (hC : C w.drew) (hP : ∀ ch a' w, a'.defers = a.defers → B ch w → Q (.panic ch) a' w)
  (h : walk P l.toArray C B (DoomAt P l.toArray C B d) ks a) : (Code.region id l.toArray true).wp P Q a w := by
 refine wp_region_any hm ?_
 simp only [Bool.and_eq_true, decide_eq_true_eq] at hB
 refine any_sound (D := some d) (E := fun _ => False) (fun _ _ _ h' => h'.elim) hP _ _ _ _ rfl hC ?_
 refine any_lex hs (fun _ _ h' => h') ks l.toArray.size _ a (by simpa using Nat.le_of_lt hB.2) (fun _ => by simpa using hB.2) (by simpa using hB.1) ?_
 exact h
structure R (P : Program) (C : World → Prop) (B : List PanicEntry → World → Prop) (w : World) (v : Value) (r : Result Next) : Prop where
 mk :: (out : calmR P C B w v r)
structure DR (P : Program) (B : List PanicEntry → World → Prop) (w : World) (r : Result Next) : Prop where
 mk :: (out : doomR P B w r)
theorem walk_nil {Q : Act → Prop} {a : Act} (h : Q a) : walk P ops C B Q [] a := h
theorem walk_ex {Q : Act → Prop} {a : Act} {k : Nat} {ks : List Nat} {o : Oper} {d : Tmp} (ho : ops[k]? = some o) (hd : o.dst = some d) (hw : Region.wanted o (yielded ops a.tmps) = true)
  (h : ∃ v, (∀ w, C w → R P C B w v ((execOp a.eval o).run P w)) ∧ walk P ops C B Q ks { tmps := a.tmps.setIfInBounds d v, defers := a.defers }) : walk P ops C B Q (k :: ks) a :=
 let ⟨v, h1, h2⟩ := h; ⟨o, ho, v, .inl ⟨hw, fun w hw => (h1 w hw).out⟩, by rw [hd]; exact h2⟩
theorem walk_doom {a : Act} {d : Nat} {o : Oper} (ho : ops[d]? = some o) (hw : Region.wanted o (yielded ops a.tmps) = true) (h : ∀ w, C w → DR P B w ((execOp a.eval o).run P w)) : walk P ops C B (DoomAt P ops C B d) [] a :=
 ⟨o, ho, hw, fun w hw => (h w hw).out⟩
theorem calm_value {w : World} {v : Value} {r : Result Next} (h : r = .ok (.value v) w) : R P C B w v r := by rw [h]; exact ⟨⟨rfl, rfl⟩⟩
theorem calm_call {w : World} {v : Value} {f : FuncId} {args : Array Value} {r : Result Next} (h : r = .ok (.enter f args) w)
  (hc : Calls P f args w fun e w'' => (e = .returned v ∧ C w'') ∨ ∃ ch, e = .panicked ch ∧ B ch w'') : R P C B w v r := by rw [h]; exact ⟨⟨rfl, hc⟩⟩
theorem doom_call {w : World} {f : FuncId} {args : Array Value} {r : Result Next} (h : r = .ok (.enter f args) w)
  (hc : Calls P f args w fun e w'' => ∃ ch, e = .panicked ch ∧ B ch w'') : DR P B w r := by rw [h]; exact ⟨⟨rfl, hc⟩⟩
end
end Go.Proofs.Ytpphpcmbpbppoaa.Calm
end
section
namespace Go.Proofs.Ytpphpcmbpbppoaa.Mach
open Go.RowKit Go.Proofs.YtpphpcmbpbppoaaW.PrintWords Go.Proofs.YtpphpcmbpbppoaaW.PrintLast Go.Proofs.YtpphpcmbpbppoaaW.PrintMore
open Go.Proofs.Ytpphpcmbpbppoaa.Calm
open Go.Proofs.Ytpphpcmbpbppoaa.PMirFuel (S30 S57 S34 S37 S40 S43 S45 S48 k30 k57 k34 k37 k40 k43 k45 k48 rd_T30 rd_T57 rd_T34 rd_T37 rd_T40 rd_T43 rd_T45 rd_T48 at_T30 at_T57 at_T34 at_T40 at_T45 at_T48)
set_option linter.unusedVariables false
set_option linter.unusedSimpArgs false
theorem wrap64_le (n : Int) : wrap64 n ≤ 9223372036854775807 := by unfold wrap64; omega
structure Glob where
 w0 : World
 m : Nat
 lA : Option Addr
 lc : Nat
 l : List S48
structure Fr where
 xb : Nat
 fp : Addr
 atv : Value
 hb : Nat
 at_ : List Int
 fend : Int
 held : List Bool
def heldA (l : List Bool) : Array Value := (l.map Value.bool).toArray
theorem heldA_get (l : List Bool) (i : Nat) (h : i < l.length) : (heldA l)[i]? = some (.bool (l.getD i false)) := by
 simp [heldA, h]
theorem heldA_set (l : List Bool) (i : Nat) (v : Bool) : (heldA l).setIfInBounds i (.bool v) = heldA (l.set i v) := by
 simp [heldA, List.map_set]
structure FrameIs (w : World) (F : Fr) : Prop where
 head : Has w F.xb #[.pointer (some F.fp), F.atv, .int .i64 F.fend, .slice (some ⟨F.hb, 0, none⟩) F.held.length F.held.length] 135
 row : w.ownsRow 0 3 1 F.atv F.at_.length (nums .i64 F.at_)
 held : Has w F.hb (heldA F.held) 4
 ok : ∀ v, v ∈ F.at_ → v ≤ 9223372036854775807
namespace FrameIs
variable {w w' : World} {F : Fr}
theorem of_blocks (H : FrameIs w F) (h1 : w'.heap[F.xb]? = w.heap[F.xb]?) (h2 : ∀ b, F.atv.ownBlock = some b → w'.heap[b]? = w.heap[b]?) (h3 : w'.heap[F.hb]? = w.heap[F.hb]?) : FrameIs w' F :=
 ⟨H.head.of_block h1, Rep.row_of_block H.row h2, H.held.of_block h3, H.ok⟩
theorem lt_at (H : FrameIs w F) : ∀ b, F.atv.ownBlock = some b → b < w.heap.size := fun b hb => (Rep.has_own H.row hb).elim fun _ h => h.lt
theorem below (H : FrameIs w F) (hb : Below w.heap.size w w') : FrameIs w' F :=
 H.of_blocks (hb.block _ H.head.lt) (fun b e => hb.block b (H.lt_at b e)) (hb.block _ H.held.lt)
theorem kept {S : Nat → Prop} (H : FrameIs w F) (K : Kept S w w') (h1 : ¬ S F.xb) (h2 : ∀ b, F.atv.ownBlock = some b → ¬ S b) (h3 : ¬ S F.hb) : FrameIs w' F :=
 H.of_blocks (K.block _ H.head.lt h1) (fun b e => K.block b (H.lt_at b e) (h2 b e)) (K.block _ H.held.lt h3)
theorem setCell (H : FrameIs w F) {a : Addr} (h1 : F.xb ≠ a.block) (h2 : ∀ b, F.atv.ownBlock = some b → b ≠ a.block) (h3 : F.hb ≠ a.block) (v : Value) : FrameIs (w.setCell a v) F :=
 H.of_blocks (Below.heap_setCell _ _ _ _ h1) (fun b e => Below.heap_setCell _ _ _ _ (h2 b e)) (Below.heap_setCell _ _ _ _ h3)
theorem rd_le (H : FrameIs w F) (i : Int) : rd F.at_ i ≤ 9223372036854775807 := by
 unfold rd
 rw [List.getD_eq_getElem?_getD]
 cases hk : F.at_[i.toNat]? with
 | none => simp
 | some v => simpa using H.ok v (List.mem_of_getElem? hk)
theorem at_form (H : FrameIs w F) (h : 0 < F.at_.length) : ∃ g cap, F.atv = .slice (some ⟨g, 0, none⟩) F.at_.length cap := by
 obtain ⟨g, cap, e, _⟩ := H.row.form h
 exact ⟨g, cap, e⟩
end FrameIs
structure In (G : Glob) (S : Nat → Prop) (L : Lay) (F : Fr) (st : St) (w : World) : Prop where
 rep : Rep S G.m L (some ⟨F.xb, 0, none⟩) st w
 lA : L.lA = G.lA
 lc : L.lc = G.lc
 ln : L.ln = G.l.length
 base : Below G.w0.heap.size G.w0 w
 ge : ∀ b, S b → G.w0.heap.size ≤ b
 inp : ReadsInt G.w0 .i64 L.iA st.input.length st.input
 inc : st.input.length ≤ L.ic
 fr : FrameIs w F
 o1 : ¬ S F.xb
 o2 : ∀ b, F.atv.ownBlock = some b → ¬ S b
 o3 : ¬ S F.hb
 g3 : G.w0.heap.size ≤ F.hb
 lt : ∀ b, S b → b < w.heap.size
namespace In
variable {G : Glob} {S : Nat → Prop} {L : Lay} {F : Fr} {st : St} {w w' : World}
theorem below (I : In G S L F st w) (hb : Below w.heap.size w w') : In G S L F st w' :=
 ⟨I.rep.below hb, I.lA, I.lc, I.ln, I.base.trans (hb.mono I.base.size), I.ge, I.inp, I.inc, I.fr.below hb, I.o1, I.o2, I.o3, I.g3, fun b h => Nat.lt_of_lt_of_le (I.lt b h) hb.size⟩
theorem drewN (I : In G S L F st w) (n : Nat) : In G S L F st (w.drewN n) := I.below (pw_below_drewN (Below.refl _ _) n)
theorem alloc (I : In G S L F st w) (o : Obj) : In G S L F st (w.alloc o) := I.below (below_alloc (Below.refl _ _) o)
theorem own_ne (I : In G S L F st w) {b : Nat} (hb : S b) : F.xb ≠ b ∧ (∀ c, F.atv.ownBlock = some c → c ≠ b) ∧ F.hb ≠ b :=
 ⟨fun e => I.o1 (e ▸ hb), fun c hc e => I.o2 c hc (e ▸ hb), fun e => I.o3 (e ▸ hb)⟩
theorem stored (I : In G S L F st w) {a : Addr} (ha : S a.block) (v : Value) {L' : Lay} {st' : St} (R : Rep S G.m L' (some ⟨F.xb, 0, none⟩) st' (w.setCell a v)) (h1 : L'.lA = L.lA) (h2 : L'.lc = L.lc) (h3 : L'.ln = L.ln)
  (hi : ReadsInt G.w0 .i64 L'.iA st'.input.length st'.input) (hc : st'.input.length ≤ L'.ic) : In G S L' F st' (w.setCell a v) :=
 ⟨R, h1.trans I.lA, h2.trans I.lc, h3.trans I.ln, I.base.setCell (I.ge _ ha) v, I.ge, hi, hc, I.fr.setCell (I.own_ne ha).1 (I.own_ne ha).2.1 (I.own_ne ha).2.2 v, I.o1, I.o2, I.o3, I.g3, fun b h => by simpa [World.setCell] using I.lt b h⟩
theorem wr (I : In G S L F st w) {a : Int} {l : Loc} (h : locate st a = some l) (v : Int) (hv : v ≤ 9223372036854775807) : In G S L F (wrL st l v) (w.setCell (L.addr l) (.int .i64 v)) :=
 I.stored (I.rep.addr_own h) _ (I.rep.store h v hv) rfl rfl rfl (by cases l <;> exact I.inp) (by cases l <;> exact I.inc)
theorem c11 (I : In G S L F st w) : w.cell? ⟨G.m, 11, none⟩ = some (.pointer (some ⟨F.xb, 0, none⟩)) := I.rep.c11
theorem f1 (I : In G S L F st w) : w.cell? ⟨F.xb, 1, none⟩ = some F.atv := by rw [I.fr.head.cell]; rfl
theorem f2 (I : In G S L F st w) : w.cell? ⟨F.xb, 2, none⟩ = some (.int .i64 F.fend) := by rw [I.fr.head.cell]; rfl
theorem f3 (I : In G S L F st w) : w.cell? ⟨F.xb, 3, none⟩ = some (.slice (some ⟨F.hb, 0, none⟩) F.held.length F.held.length) := by rw [I.fr.head.cell]; rfl
theorem at_cell (I : In G S L F st w) (i : Int) (h0 : 0 ≤ i) (h1 : i < F.at_.length) : ∃ g cap, F.atv = .slice (some ⟨g, 0, none⟩) F.at_.length cap ∧ w.cell? ⟨g, i.toNat, none⟩ = some (.int .i64 (rd F.at_ i)) := by
 obtain ⟨g, cap, e⟩ := I.fr.at_form (by omega)
 have hr := I.fr.row
 rw [e] at hr
 exact ⟨g, cap, e, (own_at hr i h0 h1).1⟩
end In
def w32 (n : Int) : Int := wrap64 (wrap32 n)
def operandP (st : St) (F : Fr) (o : S30) : Option Int :=
 if o.f0 = true then some (w32 o.f1) else (locate st (rd F.at_ o.f1)).map (rdL st)
theorem operandP_le {G : Glob} {S : Nat → Prop} {L : Lay} {F : Fr} {st : St} {w : World} (I : In G S L F st w) {o : S30} {v : Int} (h : operandP st F o = some v) : v ≤ 9223372036854775807 := by
 unfold operandP at h
 split at h
 ·obtain rfl := Option.some.inj h
  exact wrap64_le _
 ·obtain ⟨l, _, rfl⟩ := Option.map_eq_some_iff.1 h
  exact I.rep.rd_le l
set_option maxHeartbeats 1000000 in
theorem operand_const (m : Nat) (n : Int) (w : World) :
  Calls Try.prog 84 #[.pointer (some ⟨m, 0, none⟩), .agg #[.bool true, .int .i64 n]] w fun e w' => e = .returned (.int .i64 (w32 n)) ∧ Below w.heap.size w w' := by
 go_enter Try.func84, Try.ntmps84
 go_wp2
 go_ret
 exact ⟨rfl, below_alloc (Below.refl _ _) _⟩
set_option maxRecDepth 100000 in
set_option maxHeartbeats 2000000 in
theorem operand_local {G : Glob} {S : Nat → Prop} {L : Lay} {F : Fr} {st : St} {w : World} (I : In G S L F st w) (n : Int) (h0 : 0 ≤ n) (h1 : n < F.at_.length) {l : Loc} (hl : locate st (rd F.at_ n) = some l) :
  Calls Try.prog 84 #[.pointer (some ⟨G.m, 0, none⟩), .agg #[.bool false, .int .i64 n]] w fun e w' => e = .returned (.int .i64 (rdL st l)) ∧ Below w.heap.size w w' := by
 have II := Aside0.mk I
 have HL := Aside0.mk hl
 obtain ⟨W, hW⟩ : ∃ W, (w.alloc (.cells #[.bool false, .int .i64 n] 30)).drew = W := ⟨_, rfl⟩
 have bW : Below w.heap.size w W := hW ▸ below_drew (below_alloc (Below.refl _ _) _)
 have IW := Aside0.mk (I.below bW)
 obtain ⟨g, cap, e, hc⟩ := IW.out.at_cell n h0 h1
 have c11 := IW.out.c11
 have f1 := IW.out.f1
 rw [e] at f1
 have hbx : W.cell? ⟨w.heap.size, 1, none⟩ = some (.int .i64 n) := by rw [← hW]; simp [go_sem]
 have HW := Aside0.mk hW
 have BW := Aside0.mk bW
 have hd1 := (IW.out.rep.load hl).1
 clear I hl e hW bW
 go_enter Try.func84, Try.ntmps84
 go_wp2
 refine region_calm (fun w' => w'.cell? ⟨G.m, 11, none⟩ = some (.pointer (some ⟨F.xb, 0, none⟩)) ∧ w'.cell? ⟨F.xb, 1, none⟩ = some (.slice (some ⟨g, 0, none⟩) F.at_.length cap) ∧ w'.cell? ⟨w.heap.size, 1, none⟩ = some (.int .i64 n) ∧ w'.cell? ⟨g, n.toNat, none⟩ = some (.int .i64 (rd F.at_ n)) ∧ w'.cell? (L.addr l) = some (.int .i64 (rdL st l)) ∧ Aside0 (Below W.heap.size W w'))
  (fun _ _ => False) (by kernel_rfl) (by kernel_rfl) (by kernel_rfl) (by rw [HW.out]; exact ⟨c11, f1, hbx, hc, hd1, ⟨Below.refl _ _⟩⟩) (fun _ _ _ _ h => h.elim) ?_
 simp only [List.length_cons, List.length_nil, Nat.reduceAdd, List.range_succ, List.range_zero, List.nil_append, List.cons_append, List.singleton_append]
 repeat (
  refine walk_ex (by rfl) (by rfl) (by rfl) ?_
  apply Exists.intro
  apply And.intro
  ·rintro w' ⟨k1, k2, k3, k4, k5, kb⟩
   apply calm_value
   go_simp
   with_reducible rfl
  simp only [List.setIfInBounds_toArray, List.set_cons_zero, List.set_cons_succ])
 refine walk_ex (by rfl) (by rfl) (by rfl) ?_
 apply Exists.intro
 apply And.intro
 ·rintro w' ⟨k1, k2, k3, k4, k5, kb⟩
  apply calm_call
  ·go_simp
   with_reducible exact ⟨rfl, rfl⟩
  ·refine (cell_ok (IW.out.below kb.out).rep (IW.out.fr.rd_le n) HL.out).mono ?_
   rintro e w2 ⟨rfl, hb⟩
   exact .inl ⟨rfl, ⟨pwcb hb k1, pwcb hb k2, pwcb hb k3, pwcb hb k4, pwcb hb k5, ⟨below_then kb.out kb.out.size hb⟩⟩⟩
 simp only [List.setIfInBounds_toArray, List.set_cons_zero, List.set_cons_succ]
 repeat (
  refine walk_ex (by rfl) (by rfl) (by rfl) ?_
  apply Exists.intro
  apply And.intro
  ·rintro w' ⟨k1, k2, k3, k4, k5, kb⟩
   apply calm_value
   go_simp
   with_reducible rfl
  simp only [List.setIfInBounds_toArray, List.set_cons_zero, List.set_cons_succ])
 refine walk_nil ?_
 rintro w' ⟨k1, k2, k3, k4, k5, kb⟩
 go_wp2
 go_ret
 exact ⟨rfl, below_then BW.out BW.out.size kb.out⟩
set_option maxRecDepth 100000 in
set_option maxHeartbeats 2000000 in
theorem operand_trap {G : Glob} {S : Nat → Prop} {L : Lay} {F : Fr} {st : St} {w : World} (I : In G S L F st w) (n : Int) (h0 : 0 ≤ n) (h1 : n < F.at_.length) (hl : locate st (rd F.at_ n) = none) :
  Calls Try.prog 84 #[.pointer (some ⟨G.m, 0, none⟩), .agg #[.bool false, .int .i64 n]] w fun e w' => e = haltE 4 0 ∧ Below w.heap.size w w' := by
 have II := Aside0.mk I
 have HL := Aside0.mk hl
 obtain ⟨W, hW⟩ : ∃ W, (w.alloc (.cells #[.bool false, .int .i64 n] 30)).drew = W := ⟨_, rfl⟩
 have bW : Below w.heap.size w W := hW ▸ below_drew (below_alloc (Below.refl _ _) _)
 have IW := Aside0.mk (I.below bW)
 obtain ⟨g, cap, e, hc⟩ := IW.out.at_cell n h0 h1
 have c11 := IW.out.c11
 have f1 := IW.out.f1
 rw [e] at f1
 have hbx : W.cell? ⟨w.heap.size, 1, none⟩ = some (.int .i64 n) := by rw [← hW]; simp [go_sem]
 have HW := Aside0.mk hW
 have BW := Aside0.mk bW
 clear I hl e hW bW
 go_enter Try.func84, Try.ntmps84
 go_wp2
 refine region_doomed (fun w' => w'.cell? ⟨G.m, 11, none⟩ = some (.pointer (some ⟨F.xb, 0, none⟩)) ∧ w'.cell? ⟨F.xb, 1, none⟩ = some (.slice (some ⟨g, 0, none⟩) F.at_.length cap) ∧ w'.cell? ⟨w.heap.size, 1, none⟩ = some (.int .i64 n) ∧ w'.cell? ⟨g, n.toNat, none⟩ = some (.int .i64 (rd F.at_ n)) ∧ Aside0 (Below W.heap.size W w'))
  (fun ch w' => ch = [{ v := .iface 95 (.agg #[.int .i64 4, .int .i64 0]), recovered := false }] ∧ Below W.heap.size W w') 12 [0, 1, 2, 3, 4, 5, 6, 7, 8, 9, 10, 11] (by kernel_rfl) (by kernel_rfl) (by kernel_rfl) (by rw [HW.out]; exact ⟨c11, f1, hbx, hc, ⟨Below.refl _ _⟩⟩) ?_ ?_
 ·rintro ch a w' hdf ⟨rfl, hb⟩
  exact ⟨hdf, rfl, below_then BW.out BW.out.size hb⟩
 ·skip
  repeat (
   refine walk_ex (by rfl) (by rfl) (by rfl) ?_
   apply Exists.intro
   apply And.intro
   ·rintro w' ⟨k1, k2, k3, k4, kb⟩
    apply calm_value
    go_simp
    with_reducible rfl
   simp only [List.setIfInBounds_toArray, List.set_cons_zero, List.set_cons_succ])
  refine walk_doom (by rfl) (by rfl) ?_
  rintro w' ⟨k1, k2, k3, k4, kb⟩
  apply doom_call
  ·go_simp
   with_reducible exact ⟨rfl, rfl⟩
  ·refine (cell_bad (IW.out.below kb.out).rep (IW.out.fr.rd_le n) HL.out).mono ?_
   rintro e w2 ⟨rfl, hb⟩
   exact ⟨_, rfl, rfl, below_then kb.out kb.out.size hb⟩
def OpIn (F : Fr) (o : S30) : Prop := o.f0 = false → 0 ≤ o.f1 ∧ o.f1 < F.at_.length
theorem operand_ok {G : Glob} {S : Nat → Prop} {L : Lay} {F : Fr} {st : St} {w : World} (I : In G S L F st w) (o : S30) (ho : OpIn F o) {v : Int} (h : operandP st F o = some v) :
  Calls Try.prog 84 #[.pointer (some ⟨G.m, 0, none⟩), .agg #[.bool o.f0, .int .i64 o.f1]] w fun e w' => e = .returned (.int .i64 v) ∧ Below w.heap.size w w' := by
 unfold operandP at h
 cases hc : o.f0 with
 | true =>
  rw [hc, if_pos rfl] at h
  obtain rfl := Option.some.inj h
  exact operand_const _ _ _
 | false =>
  rw [hc, if_neg (by simp)] at h
  obtain ⟨l, hl, rfl⟩ := Option.map_eq_some_iff.1 h
  exact operand_local I _ (ho hc).1 (ho hc).2 hl
theorem operand_bad {G : Glob} {S : Nat → Prop} {L : Lay} {F : Fr} {st : St} {w : World} (I : In G S L F st w) (o : S30) (ho : OpIn F o) (h : operandP st F o = none) :
  Calls Try.prog 84 #[.pointer (some ⟨G.m, 0, none⟩), .agg #[.bool o.f0, .int .i64 o.f1]] w fun e w' => e = haltE 4 0 ∧ Below w.heap.size w w' := by
 unfold operandP at h
 cases hc : o.f0 with
 | true =>
  rw [hc, if_pos rfl] at h
  cases h
 | false =>
  rw [hc, if_neg (by simp)] at h
  exact operand_trap I _ (ho hc).1 (ho hc).2 (Option.map_eq_none_iff.1 h)
set_option maxHeartbeats 1000000 in
theorem set_ok {G : Glob} {S : Nat → Prop} {L : Lay} {F : Fr} {st : St} {w : World} (I : In G S L F st w) (n v : Int) (h0 : 0 ≤ n) (h1 : n < F.at_.length) (hv : v ≤ 9223372036854775807) {l : Loc} (hl : locate st (rd F.at_ n) = some l) :
  Calls Try.prog 97 #[.pointer (some ⟨G.m, 0, none⟩), .int .i64 n, .int .i64 v] w fun e w' => e = .returned (.tuple #[]) ∧ Kept S w w' ∧ In G S L F (wrL st l v) w' := by
 have II := Aside0.mk I
 have HL := Aside0.mk hl
 have HV := Aside0.mk hv
 obtain ⟨g, cap, e, hc⟩ := I.at_cell n h0 h1
 have c11 := I.c11
 have f1 := I.f1
 rw [e] at f1
 clear I hl e hv
 go_enter Try.func97, Try.ntmps97
 go_wp2_with (go_at_call 98; refine (cell_ok II.out.rep (II.out.fr.rd_le n) HL.out).mono ?_; rintro e w1 ⟨rfl, hb⟩; have I1 := Aside0.mk (II.out.below hb); have hd := I1.out.rep.load HL.out; have hd1 := hd.1; have hd2 := hd.2; clear hd)
 refine bodyPost_end (results_none rfl _ _ _) rfl ⟨rfl, ?_, I1.out.wr HL.out _ HV.out⟩
 exact (Kept.of_below hb).setCell (I1.out.rep.addr_own HL.out) _
set_option maxHeartbeats 1000000 in
theorem set_bad {G : Glob} {S : Nat → Prop} {L : Lay} {F : Fr} {st : St} {w : World} (I : In G S L F st w) (n v : Int) (h0 : 0 ≤ n) (h1 : n < F.at_.length) (hl : locate st (rd F.at_ n) = none) :
  Calls Try.prog 97 #[.pointer (some ⟨G.m, 0, none⟩), .int .i64 n, .int .i64 v] w fun e w' => e = haltE 4 0 ∧ Below w.heap.size w w' := by
 have II := Aside0.mk I
 have HL := Aside0.mk hl
 obtain ⟨g, cap, e, hc⟩ := I.at_cell n h0 h1
 have c11 := I.c11
 have f1 := I.f1
 rw [e] at f1
 clear I hl e
 go_enter Try.func97, Try.ntmps97
 go_wp2_with (go_at_call 98; refine (cell_bad II.out.rep (II.out.fr.rd_le n) HL.out).mono ?_; rintro e w1 ⟨rfl, hb⟩)
 exact ⟨rfl, rfl, hb⟩
end Go.Proofs.Ytpphpcmbpbppoaa.Mach
end
section
namespace Go.Proofs.Ytpphpcmbpbppoaa.Mach
open Go.RowKit Go.Proofs.YtpphpcmbpbppoaaW.PrintWords Go.Proofs.YtpphpcmbpbppoaaW.PrintLast Go.Proofs.YtpphpcmbpbppoaaW.PrintMore
open Go.Proofs.Ytpphpcmbpbppoaa.Calm
open Go.Proofs.Ytpphpcmbpbppoaa.PMirFuel (S30 S57 S34 S37 S40 S43 S45 S48 k30 k57 k34 k37 k40 k43 k45 k48 rd_T30 rd_T57 rd_T34 rd_T37 rd_T40 rd_T43 rd_T45 rd_T48 at_T30 at_T57 at_T34 at_T40 at_T45 at_T48)
set_option linter.unusedVariables false
set_option linter.unusedSimpArgs false
def stepP (st : St) (F : Fr) (a : Int) (s : S57) : Option Int :=
 if s.f0 = 1 then some (wrap64 (a + wrap64 (4 * s.f1)))
 else if s.f0 = 2 then (locate st (rd F.at_ s.f1)).map fun l => wrap64 (a + wrap64 (wrap64 (4 * s.f2) * rdL st l))
 else (locate st a).map (rdL st)
def placeP (st : St) (F : Fr) : Int → List S57 → Option Int
 | a, [] => some a
 | a, s :: r => (stepP st F a s).bind fun b => placeP st F b r
def StepIn (F : Fr) (s : S57) : Prop := s.f0 = 2 → 0 ≤ s.f1 ∧ s.f1 < F.at_.length
theorem stepP_le {G : Glob} {S : Nat → Prop} {L : Lay} {F : Fr} {st : St} {w : World} (I : In G S L F st w) {a b : Int} {s : S57} (h : stepP st F a s = some b) : b ≤ 9223372036854775807 := by
 unfold stepP at h
 repeat' split at h
 ·obtain rfl := Option.some.inj h; exact wrap64_le _
 ·obtain ⟨l, _, rfl⟩ := Option.map_eq_some_iff.1 h; exact wrap64_le _
 ·obtain ⟨l, _, rfl⟩ := Option.map_eq_some_iff.1 h; exact I.rep.rd_le l
theorem placeP_drop {st : St} {F : Fr} {a : Int} {xs : List S57} {i : Nat} (h : i < xs.length) : placeP st F a (xs.drop i) = (stepP st F a (rd_T57 xs (i : Int))).bind fun b => placeP st F b (xs.drop (i + 1)) := by
 rw [List.drop_eq_getElem_cons h]
 simp [placeP, rd_T57, List.getD_eq_getElem?_getD, List.getElem?_eq_getElem h]
def PlacePost (r : Option Int) (w : World) (e : Ending) (w' : World) : Prop :=
 Below w.heap.size w w' ∧ match r with | some v => e = .returned (.int .i64 v) | none => e = haltE 4 0
theorem PlacePost.halt {r : Option Int} {w w' : World} (h : r = none) (hb : Below w.heap.size w w') : PlacePost r w (haltE 4 0) w' := by subst h; exact ⟨hb, rfl⟩
theorem PlacePost.some_ {r : Option Int} {w w' : World} {v : Int} (h : r = some v) (hb : Below w.heap.size w w') : PlacePost r w (.returned (.int .i64 v)) w' := by subst h; exact ⟨hb, rfl⟩
set_option maxRecDepth 100000 in
set_option maxHeartbeats 8000000 in
theorem place_any {G : Glob} {S : Nat → Prop} {L : Lay} {F : Fr} {st : St} {w : World} (I : In G S L F st w) (n : Int) (h0 : 0 ≤ n) (h1 : n < F.at_.length) (A : Option Addr) (c : Nat) (xs : List S57) (hx : Kd.C k57 w A xs.length xs) (hxc : xs.length ≤ c)
  (hin : ∀ i, i < xs.length → StepIn F (rd_T57 xs (i : Int))) (r : Option Int) (hr : placeP st F (rd F.at_ n) xs = r) :
  Calls Try.prog 99 #[.pointer (some ⟨G.m, 0, none⟩), .agg #[.int .i64 n, .slice A xs.length c]] w (PlacePost r w) := by
 have hmx := Kd.C_max hx
 have HIN := Aside0.mk hin
 have HR := Aside0.mk hr
 obtain ⟨W, hW⟩ : ∃ W, (w.alloc (.cells #[.int .i64 n, .slice A xs.length c] 34)).drew = W := ⟨_, rfl⟩
 have bW : Below w.heap.size w W := hW ▸ below_drew (below_alloc (Below.refl _ _) _)
 have IW := Aside0.mk (I.below bW)
 have HX := Aside0.mk (Kd.C_below hx bW)
 obtain ⟨g, cap, e, hc⟩ := IW.out.at_cell n h0 h1
 have c11 := IW.out.c11
 have f1 := IW.out.f1
 rw [e] at f1
 have HE := Aside0.mk e
 have hb0 : W.cell? ⟨w.heap.size, 0, none⟩ = some (.int .i64 n) := by rw [← hW]; simp [go_sem]
 have hb1 : W.cell? ⟨w.heap.size, 1, none⟩ = some (.slice A xs.length c) := by rw [← hW]; simp [go_sem]
 have HB1 := Aside0.mk hb1
 have HW := Aside0.mk hW
 have BW := Aside0.mk bW
 clear I hx hin hr e hW bW hb1
 go_enter Try.func99, Try.ntmps99
 go_wp2
 refine region_calm (fun w' => w'.cell? ⟨G.m, 11, none⟩ = some (.pointer (some ⟨F.xb, 0, none⟩)) ∧ w'.cell? ⟨F.xb, 1, none⟩ = some (.slice (some ⟨g, 0, none⟩) F.at_.length cap) ∧ w'.cell? ⟨w.heap.size, 0, none⟩ = some (.int .i64 n) ∧ w'.cell? ⟨g, n.toNat, none⟩ = some (.int .i64 (rd F.at_ n)) ∧ w'.cell? ⟨w.heap.size, 1, none⟩ = some (.slice A xs.length c) ∧ Aside0 (Below W.heap.size W w'))
  (fun _ _ => False) (by kernel_rfl) (by kernel_rfl) (by kernel_rfl) (by rw [HW.out]; exact ⟨c11, f1, hb0, hc, HB1.out, ⟨Below.refl _ _⟩⟩) (fun _ _ _ _ h => h.elim) ?_
 simp only [List.length_cons, List.length_nil, Nat.reduceAdd, List.range_succ, List.range_zero, List.nil_append, List.cons_append, List.singleton_append]
 repeat (
  refine walk_ex (by rfl) (by rfl) (by rfl) ?_
  apply Exists.intro
  apply And.intro
  ·rintro w' ⟨k1, k2, k3, k4, k5, kb⟩
   apply calm_value
   go_simp
   with_reducible rfl
  simp only [List.setIfInBounds_toArray, List.set_cons_zero, List.set_cons_succ])
 refine walk_nil ?_
 rintro w' ⟨k1, k2, k3, k4, k5, kb⟩
 go_wp2
 have AL := Aside0.mk (IW.out.fr.rd_le n)
 have KB := kb
 clear c11 f1 hb0 hc k1 k2 k3 k4 k5 kb
 go_loopw [5, 22] (fun x v wr => ∃ (i a : Int), v = .int .i64 i ∧ x = .int .i64 a ∧ 0 ≤ i ∧ i ≤ xs.length ∧ Aside0 (a ≤ 9223372036854775807 ∧ placeP st F a (xs.drop i.toNat) = r) ∧ Aside0 (Below W.heap.size W wr)) (fun _ v _ => xs.length - (intOf v).toNat)
 case atStart => exact ⟨0, rd F.at_ n, rfl, rfl, by omega, by omega, ⟨AL.out, by simpa using HR.out⟩, ⟨KB.out⟩⟩
 case round =>
  obtain ⟨i, a, rfl, rfl, hi0, hi1, HS, HB⟩ := hrel
  by_cases hlt : i < xs.length
  ·obtain ⟨ad, e1, hx0, hx1, hx2⟩ := at_T57 (Kd.C_below HX.out HB.out) i hi0 hlt
   have IWr := Aside0.mk (IW.out.below HB.out)
   have hst := placeP_drop (st := st) (F := F) (a := a) (xs := xs) (i := i.toNat) (by omega)
   rw [show ((i.toNat : Nat) : Int) = i by omega, HS.out.2] at hst
   have HIs := Aside0.mk (HIN.out i.toNat (by omega))
   rw [show ((i.toNat : Nat) : Int) = i by omega] at HIs
   have HST := Aside0.mk hst
   clear hst
   revert hx0 hx1 hx2 HST HIs
   generalize rd_T57 xs i = s
   obtain ⟨s0, s1, s2⟩ := s
   intro hx0 hx1 hx2 HIs HST
   have nx : (i + 1).toNat = i.toNat + 1 := by omega
   have NX := Aside0.mk nx
   clear nx
   subst e1
   have hba : (ad.add (i.toNat * 3)).block < wr.heap.size := World.block_lt_of_cell? wr _ hx0
   by_cases q1 : s0 = 1
   ·subst q1
    go_wp2
    go_roundw
    case measure => simp [intOf]; omega
    case rel =>
     have hb : stepP st F a ⟨1, s1, s2⟩ = some (wrap64 (a + wrap64 (4 * s1))) := by simp [stepP]
     exact ⟨i + 1, _, by go_num, rfl, by omega, by omega, ⟨stepP_le IWr.out hb, by rw [NX.out, HST.out, hb]; rfl⟩, ⟨below_alloc HB.out _⟩⟩
   ·have d1 : (s0 == 1) = false := by simpa using q1
    by_cases q2 : s0 = 2
    ·subst q2
     obtain ⟨m0, m1⟩ := HIs.out rfl
     obtain ⟨W1, hW1⟩ : ∃ W1, (wr.alloc (.cells #[.int .i64 2, .int .i64 s1, .int .i64 s2] 57)).drew = W1 := ⟨_, rfl⟩
     have bW1 : Below wr.heap.size wr W1 := hW1 ▸ below_drew (below_alloc (Below.refl _ _) _)
     have I1 := Aside0.mk (IWr.out.below bW1)
     obtain ⟨g1, cap1, e1, hc1⟩ := I1.out.at_cell s1 m0 m1
     obtain ⟨rfl, rfl⟩ : g1 = g ∧ cap1 = cap := by
      have := e1.symm.trans HE.out
      simpa using this
     have c11 := I1.out.c11
     have f1 := I1.out.f1
     rw [e1] at f1
     have hy1 : W1.cell? ⟨wr.heap.size, 1, none⟩ = some (.int .i64 s1) := by rw [← hW1]; simp [go_sem]
     have hy2 : W1.cell? ⟨wr.heap.size, 2, none⟩ = some (.int .i64 s2) := by rw [← hW1]; simp [go_sem]
     have HW1 := Aside0.mk hW1
     have BW1 := Aside0.mk bW1
     clear hW1 bW1 e1
     cases hl : locate st (rd F.at_ s1) with
     | none =>
      have HL := Aside0.mk hl
      clear hl
      go_wp2
      refine region_doomed (fun w' => w'.cell? ⟨G.m, 11, none⟩ = some (.pointer (some ⟨F.xb, 0, none⟩)) ∧ w'.cell? ⟨F.xb, 1, none⟩ = some (.slice (some ⟨g1, 0, none⟩) F.at_.length cap1) ∧ w'.cell? ⟨wr.heap.size, 1, none⟩ = some (.int .i64 s1) ∧ w'.cell? ⟨wr.heap.size, 2, none⟩ = some (.int .i64 s2) ∧ w'.cell? ⟨g1, s1.toNat, none⟩ = some (.int .i64 (rd F.at_ s1)) ∧ Aside0 (Below W1.heap.size W1 w'))
       (fun ch w' => ch = [{ v := .iface 95 (.agg #[.int .i64 4, .int .i64 0]), recovered := false }] ∧ Below W1.heap.size W1 w') 16 [0, 1, 2, 3, 4, 5, 6, 7, 8, 9, 10, 11, 12, 13, 14, 15] (by kernel_rfl) (by kernel_rfl) (by kernel_rfl) (by rw [HW1.out]; exact ⟨c11, f1, hy1, hy2, hc1, ⟨Below.refl _ _⟩⟩) ?_ ?_
      ·rintro ch a w' hdf ⟨rfl, hb⟩
       exact ⟨hdf, PlacePost.halt (by rw [HST.out]; simp [stepP, HL.out]) (below_then BW.out BW.out.size (below_then HB.out HB.out.size (below_then BW1.out BW1.out.size hb)))⟩
      ·skip
       repeat (
        refine walk_ex (by rfl) (by rfl) (by rfl) ?_
        apply Exists.intro
        apply And.intro
        ·rintro w' ⟨k1, k2, k3, k4, k5, kb⟩
         apply calm_value
         go_simp
         with_reducible rfl
        simp only [List.setIfInBounds_toArray, List.set_cons_zero, List.set_cons_succ])
       refine walk_doom (by rfl) (by rfl) ?_
       rintro w' ⟨k1, k2, k3, k4, k5, kb⟩
       apply doom_call
       ·go_simp
        with_reducible exact ⟨rfl, rfl⟩
       ·refine (cell_bad (I1.out.below kb.out).rep (I1.out.fr.rd_le s1) HL.out).mono ?_
        rintro e w2 ⟨rfl, hb⟩
        exact ⟨_, rfl, rfl, below_then kb.out kb.out.size hb⟩
     | some l =>
      have hd1 := (I1.out.rep.load hl).1
      have HL := Aside0.mk hl
      clear hl
      go_wp2
      refine region_calm (fun w' => w'.cell? ⟨G.m, 11, none⟩ = some (.pointer (some ⟨F.xb, 0, none⟩)) ∧ w'.cell? ⟨F.xb, 1, none⟩ = some (.slice (some ⟨g1, 0, none⟩) F.at_.length cap1) ∧ w'.cell? ⟨wr.heap.size, 1, none⟩ = some (.int .i64 s1) ∧ w'.cell? ⟨wr.heap.size, 2, none⟩ = some (.int .i64 s2) ∧ w'.cell? ⟨g1, s1.toNat, none⟩ = some (.int .i64 (rd F.at_ s1)) ∧ w'.cell? (L.addr l) = some (.int .i64 (rdL st l)) ∧ Aside0 (Below W1.heap.size W1 w'))
       (fun _ _ => False) (by kernel_rfl) (by kernel_rfl) (by kernel_rfl) (by rw [HW1.out]; exact ⟨c11, f1, hy1, hy2, hc1, hd1, ⟨Below.refl _ _⟩⟩) (fun _ _ _ _ h => h.elim) ?_
      simp only [List.length_cons, List.length_nil, Nat.reduceAdd, List.range_succ, List.range_zero, List.nil_append, List.cons_append, List.singleton_append]
      repeat (
       refine walk_ex (by rfl) (by rfl) (by rfl) ?_
       apply Exists.intro
       apply And.intro
       ·rintro w' ⟨k1, k2, k3, k4, k5, k6, kb⟩
        apply calm_value
        go_simp
        with_reducible rfl
       simp only [List.setIfInBounds_toArray, List.set_cons_zero, List.set_cons_succ])
      refine walk_ex (by rfl) (by rfl) (by rfl) ?_
      apply Exists.intro
      apply And.intro
      ·rintro w' ⟨k1, k2, k3, k4, k5, k6, kb⟩
       apply calm_call
       ·go_simp
        with_reducible exact ⟨rfl, rfl⟩
       ·refine (cell_ok (I1.out.below kb.out).rep (I1.out.fr.rd_le s1) HL.out).mono ?_
        rintro e w2 ⟨rfl, hb⟩
        exact .inl ⟨rfl, ⟨pwcb hb k1, pwcb hb k2, pwcb hb k3, pwcb hb k4, pwcb hb k5, pwcb hb k6, ⟨below_then kb.out kb.out.size hb⟩⟩⟩
      simp only [List.setIfInBounds_toArray, List.set_cons_zero, List.set_cons_succ]
      repeat (
       refine walk_ex (by rfl) (by rfl) (by rfl) ?_
       apply Exists.intro
       apply And.intro
       ·rintro w' ⟨k1, k2, k3, k4, k5, k6, kb⟩
        apply calm_value
        go_simp
        with_reducible rfl
       simp only [List.setIfInBounds_toArray, List.set_cons_zero, List.set_cons_succ])
      refine walk_nil ?_
      rintro w' ⟨k1, k2, k3, k4, k5, k6, kb⟩
      have KB := kb
      clear k1 k2 k3 k4 k5 k6 kb
      go_wp2
      go_roundw
      case measure => simp [intOf]; omega
      case rel =>
       have hb : stepP st F a ⟨2, s1, s2⟩ = some (wrap64 (a + wrap64 (wrap64 (4 * s2) * rdL st l))) := by simp [stepP, HL.out]
       refine ⟨i + 1, wrap64 (a + wrap64 (wrap64 (4 * s2) * rdL st l)), by go_num, ?_, by omega, by omega, ⟨stepP_le IWr.out hb, by rw [NX.out, HST.out, hb]; rfl⟩, ⟨below_then HB.out HB.out.size (below_then BW1.out BW1.out.size KB.out)⟩⟩
       simp only [IntKind.wrap_i64, wrap64]
    ·have d2 : (s0 == 2) = false := by simpa using q2
     have I1 := Aside0.mk (IWr.out.alloc (.cells #[.int .i64 s0, .int .i64 s1, .int .i64 s2] 57))
     cases hl : locate st a with
     | none =>
      have HL := Aside0.mk hl
      clear hl
      go_wp2_with (go_at_call 98; refine (cell_bad I1.out.rep HS.out.1 HL.out).mono ?_; rintro e w2 ⟨rfl, hb⟩)
      exact ⟨rfl, PlacePost.halt (by rw [HST.out]; simp [stepP, q1, q2, HL.out]) (below_then BW.out BW.out.size (below_then (below_alloc HB.out _) (by have := HB.out.size; simp; omega) hb))⟩
     | some l =>
      have HL := Aside0.mk hl
      clear hl
      go_wp2_with (go_at_call 98; refine (cell_ok I1.out.rep HS.out.1 HL.out).mono ?_; rintro e w2 ⟨rfl, hb⟩; have hd := ((I1.out.below hb).rep.load HL.out).1)
      go_roundw
      case measure => simp [intOf]; omega
      case rel =>
       have hb' : stepP st F a ⟨s0, s1, s2⟩ = some (rdL st l) := by simp [stepP, q1, q2, HL.out]
       exact ⟨i + 1, rdL st l, by go_num, rfl, by omega, by omega, ⟨stepP_le IWr.out hb', by rw [NX.out, HST.out, hb']; rfl⟩, ⟨below_then (below_alloc HB.out _) (by have := HB.out.size; simp; omega) hb⟩⟩
  ·have hd : decide (i < (xs.length : Int)) = false := decide_eq_false hlt
   go_wp2
   go_ret
   refine PlacePost.some_ ?_ (below_then BW.out BW.out.size HB.out)
   rw [← HS.out.2, List.drop_of_length_le (by omega)]
   rfl
end Go.Proofs.Ytpphpcmbpbppoaa.Mach
end
section
namespace Go.Proofs.Ytpphpcmbpbppoaa.Mach
open Go.RowKit Go.Proofs.YtpphpcmbpbppoaaW.PrintWords Go.Proofs.YtpphpcmbpbppoaaW.PrintLast Go.Proofs.YtpphpcmbpbppoaaW.PrintMore
open Go.Proofs.Ytpphpcmbpbppoaa.Calm
open Go.Proofs.Ytpphpcmbpbppoaa.PMirFuel (S30 S57 S34 S37 S40 S43 S45 S48 k30 k57 k34 k37 k40 k43 k45 k48 rd_T30 rd_T57 rd_T34 rd_T37 rd_T40 rd_T43 rd_T45 rd_T48 at_T30 at_T57 at_T34 at_T40 at_T45 at_T48)
set_option linter.unusedVariables false
set_option linter.unusedSimpArgs false
theorem info3 : (Try.prog.info? 3).map (fun i => (i.zero, i.size, i.bytes)) = some (some (.int .i64 0), 1, 8) := by kernel_rfl
def allP (st : St) (F : Fr) : List S30 → Option (List Int)
 | [] => some []
 | o :: r => (operandP st F o).bind fun v => (allP st F r).map (v :: ·)
def AllPost (r : Option (List Int)) (w : World) (e : Ending) (w' : World) : Prop :=
 Below w.heap.size w w' ∧ match r with
  | some vs => (∃ v, e = .returned v ∧ w'.ownsRow w.heap.size 3 1 v vs.length (nums .i64 vs)) ∧ ∀ x, x ∈ vs → x ≤ 9223372036854775807
  | none => e = haltE 4 0
theorem AllPost.halt {r : Option (List Int)} {w w' : World} (h : r = none) (hb : Below w.heap.size w w') : AllPost r w (haltE 4 0) w' := by subst h; exact ⟨hb, rfl⟩
theorem AllPost.some_ {r : Option (List Int)} {w w' : World} {vs : List Int} {v : Value} (h : r = some vs) (hb : Below w.heap.size w w') (ho : w'.ownsRow w.heap.size 3 1 v vs.length (nums .i64 vs)) (hl : ∀ x, x ∈ vs → x ≤ 9223372036854775807) : AllPost r w (.returned v) w' := by
 subst h; exact ⟨hb, ⟨v, rfl, ho⟩, hl⟩
theorem allP_drop {st : St} {F : Fr} {xs : List S30} {i : Nat} (h : i < xs.length) : allP st F (xs.drop i) = (operandP st F (rd_T30 xs (i : Int))).bind fun v => (allP st F (xs.drop (i + 1))).map (v :: ·) := by
 rw [List.drop_eq_getElem_cons h]
 simp [allP, rd_T30, List.getD_eq_getElem?_getD, List.getElem?_eq_getElem h]
set_option maxRecDepth 100000 in
set_option maxHeartbeats 4000000 in
theorem all_any {G : Glob} {S : Nat → Prop} {L : Lay} {F : Fr} {st : St} {w : World} (I : In G S L F st w) (A : Option Addr) (c : Nat) (xs : List S30) (hx : Kd.C k30 w A xs.length xs) (hxc : xs.length ≤ c) (h8 : xs.length ≤ 8)
  (hin : ∀ i, i < xs.length → OpIn F (rd_T30 xs (i : Int))) (r : Option (List Int)) (hr : allP st F xs = r) :
  Calls Try.prog 83 #[.pointer (some ⟨G.m, 0, none⟩), .slice A xs.length c] w (AllPost r w) := by
 have HIN := Aside0.mk hin
 have HR := Aside0.mk hr
 have HX := Aside0.mk hx
 have II := Aside0.mk I
 clear I hx hin hr
 go_enter Try.func83, Try.ntmps83
 go_wp2
 go_loopw [5, 10] (fun x v wr => ∃ (i : Int) (ys : List Int), v = .int .i64 i ∧ 0 ≤ i ∧ i ≤ xs.length ∧ Aside0 ((ys.length : Int) = i ∧ (∀ y, y ∈ ys → y ≤ 9223372036854775807) ∧ (allP st F (xs.drop i.toNat)).map (ys ++ ·) = r) ∧ Aside0 (wr.ownsRow w.heap.size 3 1 x ys.length (nums .i64 ys)) ∧ Aside0 (Below w.heap.size w wr)) (fun _ v _ => xs.length - (intOf v).toNat)
 case atStart => exact ⟨0, [], rfl, by omega, by omega, ⟨rfl, by simp, by simpa using HR.out⟩, ⟨own_nil _ _ _ _⟩, ⟨Below.refl _ _⟩⟩
 case round =>
  obtain ⟨i, ys, rfl, hi0, hi1, HS, HO, HB⟩ := hrel
  by_cases hlt : i < xs.length
  ·obtain ⟨ad, e1, hx0, hx1⟩ := at_T30 (Kd.C_below HX.out HB.out) i hi0 hlt
   have I1 := Aside0.mk ((II.out.below HB.out).alloc (.cells #[.bool (rd_T30 xs i).f0, .int .i64 (rd_T30 xs i).f1] 30))
   have hst := allP_drop (st := st) (F := F) (xs := xs) (i := i.toNat) (by omega)
   rw [show ((i.toNat : Nat) : Int) = i by omega] at hst
   have HST := Aside0.mk hst
   have HOI := HIN.out i.toNat (by omega)
   rw [show ((i.toNat : Nat) : Int) = i by omega] at HOI
   have HII := Aside0.mk HOI
   have nx : (i + 1).toNat = i.toNat + 1 := by omega
   have NX := Aside0.mk nx
   have hba : (ad.add (i.toNat * 2)).block < wr.heap.size := World.block_lt_of_cell? wr _ hx0
   clear hst HOI nx
   subst e1
   cases hv : operandP st F (rd_T30 xs i) with
   | none =>
    have HV := Aside0.mk hv
    clear hv
    go_wp2_with (go_at_call 84; refine (operand_bad I1.out _ HII.out HV.out).mono ?_; rintro e w2 ⟨rfl, hb⟩)
    exact ⟨rfl, AllPost.halt (by rw [← HS.out.2.2, HST.out, HV.out]; rfl) (below_then (below_alloc HB.out _) (by have := HB.out.size; simp; omega) hb)⟩
   | some v =>
    have HV := Aside0.mk hv
    clear hv
    go_wp2_with (first | (go_at_call 84; refine (operand_ok I1.out _ HII.out HV.out).mono ?_; rintro e w2 ⟨rfl, hb⟩) | (at_builtin; refine print_append_num (w0 := w) w.heap.size rfl (.tmp 14) (.tmp 18) 23 3 .i64 8 rfl Try.underlying23 info3 (by omega) u5 ys v rfl rfl ?aO ?aB ?aS ?aL ?_; (case aO => exact pw_own_below HO.out (below_then (below_alloc (Below.refl _ _) _) (by simp) hb)); (case aB => exact below_then (below_alloc HB.out _) (by have := HB.out.size; simp; omega) hb); (case aS => have := HB.out.size; have := hb.size; simp at this; omega); (case aL => have := HS.out.1; omega); intro v1 w3 ho hB hg hat))
    go_roundw
    case measure => simp [intOf]; omega
    case rel =>
     refine ⟨i + 1, ys ++ [v], by go_num, by omega, by omega, ⟨?_, ?_, ?_⟩, ⟨ho⟩, ⟨hB⟩⟩
     ·have := HS.out.1; simp; omega
     ·intro y hy
      rcases List.mem_append.1 hy with h | h
      ·exact HS.out.2.1 y h
      ·obtain rfl : y = v := by simpa using h
       exact operandP_le I1.out HV.out
     ·rw [NX.out, ← HS.out.2.2, HST.out, HV.out]
      cases allP st F (xs.drop (i.toNat + 1)) <;> simp
  ·have hd : decide (i < (xs.length : Int)) = false := decide_eq_false hlt
   go_wp2
   go_ret
   refine AllPost.some_ ?_ HB.out HO.out HS.out.2.1
   rw [← HS.out.2.2, List.drop_of_length_le (by omega)]
   simp [allP]
inductive Res where
 | ok (st : St)
 | halt (k c : Int) (st : St)
def HaltCh (ch : List PanicEntry) (k c : Int) : Prop := ch = [{ v := .iface 95 (.agg #[.int .i64 k, .int .i64 c]), recovered := false }] ∨ (k = 4 ∧ c = 0 ∧ ∃ T pv, T ≠ 95 ∧ ch = [{ v := .iface T pv, recovered := false }])
def ResPost (G : Glob) (S : Nat → Prop) (L : Lay) (F : Fr) (r : Res) (w : World) (e : Ending) (w' : World) : Prop :=
 Kept S w w' ∧ match r with
  | .ok st' => e = .returned (.tuple #[]) ∧ In G S L F st' w'
  | .halt k c st' => (∃ ch, e = .panicked ch ∧ HaltCh ch k c) ∧ ∃ x', Rep S G.m L x' st' w'
namespace ResPost
variable {G : Glob} {S : Nat → Prop} {L : Lay} {F : Fr} {r : Res} {w w1 w' : World} {st' : St} {e : Ending}
theorem ok_ (h : r = .ok st') (K : Kept S w w') (I : In G S L F st' w') : ResPost G S L F r w (.returned (.tuple #[])) w' := by subst h; exact ⟨K, rfl, I⟩
theorem halt_ {k c : Int} {x' : Option Addr} (h : r = .halt k c st') (K : Kept S w w') (R : Rep S G.m L x' st' w') : ResPost G S L F r w (haltE k c) w' := by subst h; exact ⟨K, ⟨_, rfl, .inl rfl⟩, x', R⟩
theorem halt_ch {k c : Int} {x' : Option Addr} {ch : List PanicEntry} (h : r = .halt k c st') (hc : HaltCh ch k c) (K : Kept S w w') (R : Rep S G.m L x' st' w') : ResPost G S L F r w (.panicked ch) w' := by subst h; exact ⟨K, ⟨_, rfl, hc⟩, x', R⟩
theorem norm {v : Value} (h : ResPost G S L F r w (.returned v) w') : ResPost G S L F r w (.returned (.tuple #[])) w' := by
 cases r with
 | ok st => exact ⟨h.1, rfl, h.2.2⟩
 | halt k c st => obtain ⟨_, ⟨ch, h, _⟩, _⟩ := h; cases h
theorem not_out (h : ResPost G S L F r w .outgrown w') : False := by
 cases r with
 | ok st => obtain ⟨_, h, _⟩ := h; cases h
 | halt k c st => obtain ⟨_, ⟨ch, h, _⟩, _⟩ := h; cases h
theorem trans (K : Kept S w w1) (h : ResPost G S L F r w1 e w') : ResPost G S L F r w e w' := ⟨K.then_ h.1, h.2⟩
end ResPost
theorem Rep.used {S : Nat → Prop} {m : Nat} {L : Lay} {x : Option Addr} {st : St} {w w1 : World} {us : Nat → Nat → Bool} (R : Rep S m L x st w) (K : Kept (fun b => ∃ k, k < 4 ∧ b = L.u k) w w1) (H : HeapIs w1 L.h L.u us) : Rep S m L x { st with used := us } w1 := by
 have nt : ∀ {b : Nat} {cs : Array Value} {t : TypeId}, Has w b cs t → t ≠ 4 → ¬ ∃ k, k < 4 ∧ b = L.u k := fun hb ht ⟨k, hk, e⟩ => hb.ne (R.heap.row k hk) ht e
 exact ⟨K.has R.head (nt R.head (by decide)), H, K.has R.cells (nt R.cells (by decide)), Rep.row_of_block R.stk (fun b e => (Rep.has_own R.stk e).elim fun _ hc => K.block b hc.lt (nt hc (by decide))), Rep.row_of_block R.prt (fun b e => (Rep.has_own R.prt e).elim fun _ hc => K.block b hc.lt (nt hc (by decide))), R.ownM, R.ownH, R.ownU, R.ownC, R.ownS, R.ownP, R.sc, R.pc, R.sp, R.okS, R.okC⟩
theorem In.used {G : Glob} {S : Nat → Prop} {L : Lay} {F : Fr} {st : St} {w w1 : World} {us : Nat → Nat → Bool} (I : In G S L F st w) (K : Kept (fun b => ∃ k, k < 4 ∧ b = L.u k) w w1) (H : HeapIs w1 L.h L.u us) : In G S L F { st with used := us } w1 := by
 have sub : ∀ b, (∃ k, k < 4 ∧ b = L.u k) → S b := fun b ⟨k, hk, e⟩ => e ▸ I.rep.ownU k hk
 exact ⟨I.rep.used K H, I.lA, I.lc, I.ln, I.base.trans (K.below_of (fun b hb => I.ge b (sub b hb)) I.base.size), I.ge, I.inp, I.inc, I.fr.kept K (fun h => I.o1 (sub _ h)) (fun b e h => I.o2 b e (sub _ h)) (fun h => I.o3 (sub _ h)), I.o1, I.o2, I.o3, I.g3, fun b h => Nat.lt_of_lt_of_le (I.lt b h) K.size⟩
theorem kept_u {S : Nat → Prop} {m : Nat} {L : Lay} {x : Option Addr} {st : St} {w w1 w2 : World} (R : Rep S m L x st w) (K : Kept (fun b => ∃ k, k < 4 ∧ b = L.u k) w1 w2) : Kept S w1 w2 := K.mono fun b ⟨k, hk, e⟩ => e ▸ R.ownU k hk
def freeP (st : St) (a : Int) : Res :=
 match hfree st.used a with
 | some us => .ok { st with used := us }
 | none => .halt 4 0 st
set_option maxRecDepth 100000 in
set_option maxHeartbeats 2000000 in
theorem mfree {G : Glob} {S : Nat → Prop} {L : Lay} {F : Fr} {st : St} {w : World} (I : In G S L F st w) (a : Int) :
  Calls Try.prog 102 #[.pointer (some ⟨G.m, 0, none⟩), .int .i64 a] w (ResPost G S L F (freeP st a) w) := by
 have II := Aside0.mk I
 have c7 := I.rep.c7
 have FF := Aside0.mk (free (fun b => ∃ k, k < 4 ∧ b = L.u k) L.h L.u st.used a w I.rep.heap (fun k hk => ⟨k, hk, rfl⟩))
 clear I
 cases hf : hfree st.used a with
 | some us =>
  have HF := Aside0.mk hf
  clear hf
  go_enter Try.func102, Try.ntmps102
  go_wp2_with (go_at_call 119; refine FF.out.mono ?_; intro e w1 hp; unfold FreePost at hp; rw [HF.out] at hp; obtain ⟨K, rfl, H⟩ := hp)
  refine bodyPost_end (results_none rfl _ _ _) rfl ?_
  exact ResPost.ok_ (by unfold freeP; rw [HF.out]) (kept_u II.out.rep K) (II.out.used K H)
 | none =>
  have HF := Aside0.mk hf
  clear hf
  go_enter Try.func102, Try.ntmps102
  go_wp2_with (first | (go_at_call 28; refine (stop _ _ _).mono ?_; rintro e w1 ⟨rfl, rfl⟩) | (go_at_call 119; refine FF.out.mono ?_; intro e w1 hp; unfold FreePost at hp; rw [HF.out] at hp; obtain ⟨K, rfl, H⟩ := hp))
  exact ⟨rfl, ResPost.halt_ (by unfold freeP; rw [HF.out]) (kept_u II.out.rep K) (II.out.rep.used K H)⟩
end Go.Proofs.Ytpphpcmbpbppoaa.Mach
end
