/- Steps toward the law Fuel, merged from several texts (some of them began as the kit's print). No condition. -/
import Derived.StillTail
import Derived.StillTactics
import Derived.Deep.RegionWith
import Derived.Test.YtpphpcmbpbppoaaZFuel3
section
namespace Go.Proofs.Ytpphpcmbpbppoaa.Mach
open Go.RowKit Go.Proofs.YtpphpcmbpbppoaaW.PrintWords Go.Proofs.YtpphpcmbpbppoaaW.PrintLast Go.Proofs.YtpphpcmbpbppoaaW.PrintMore
open Go.Proofs.Ytpphpcmbpbppoaa.Calm
open Go.Proofs.Ytpphpcmbpbppoaa.PMirFuel (S30 S57 S34 S37 S40 S43 S45 S48 k30 k57 k34 k37 k40 k43 k45 k48 rd_T30 rd_T57 rd_T34 rd_T37 rd_T40 rd_T43 rd_T45 rd_T48 at_T30 at_T57 at_T34 at_T40 at_T45 at_T48)
set_option linter.unusedVariables false
set_option linter.unusedSimpArgs false
def clsOf (n : Int) : Nat := if n ≤ 4 then 0 else if n ≤ 16 then 1 else if n ≤ 64 then 2 else 3
def cbase : Nat → Int | 0 => 262144 | 1 => 263168 | 2 => 265216 | _ => 269312
def cbytes : Nat → Int | 0 => 16 | 1 => 64 | 2 => 256 | _ => 512
theorem halloc (h : Nat) (u : Nat → Nat) (used : Nat → Nat → Bool) (n : Int) (w : World) (H : HeapIs w h u used) (h0 : 0 ≤ n) (h1 : n ≤ 128) :
  Calls Try.prog 118 #[.pointer (some ⟨h, 0, none⟩), .int .i64 n] w (AllocPost h u used (clsOf n) (cbase (clsOf n)) (cbytes (clsOf n)) w) := by
 unfold clsOf
 by_cases c0 : n ≤ 4
 ·rw [if_pos c0]; exact alloc_0 h u used n w H h0 c0
 by_cases c1 : n ≤ 16
 ·rw [if_neg c0, if_pos c1]; exact alloc_1 h u used n w H (by omega) c1
 by_cases c2 : n ≤ 64
 ·rw [if_neg c0, if_neg c1, if_pos c2]; exact alloc_2 h u used n w H (by omega) c2
 ·rw [if_neg c0, if_neg c1, if_neg c2]; exact alloc_3 h u used n w H (by omega) h1
theorem Kept.cell {S : Nat → Prop} {w w1 : World} (K : Kept S w w1) {a : Addr} {v : Value} (h : w.cell? a = some v) (hn : ¬ S a.block) : w1.cell? a = some v :=
 (World.cell?_of_block (K.block a.block (World.block_lt_of_cell? w a h) hn)).trans h
theorem clsOf_lt (n : Int) : clsOf n < 4 := by unfold clsOf; (repeat' split) <;> omega
theorem firstFree_lt {used : Nat → Nat → Bool} {k i : Nat} (h : firstFree used k = some i) : i < clsBlocks k := by
 unfold firstFree at h
 simpa using List.mem_of_find?_eq_some h
theorem alloc_le {used : Nat → Nat → Bool} {n : Int} {i : Nat} (h : firstFree used (clsOf n) = some i) : cbase (clsOf n) + cbytes (clsOf n) * (i : Int) ≤ 9223372036854775807 := by
 have := firstFree_lt h
 revert this
 have hk := clsOf_lt n
 generalize clsOf n = k at *
 match k, hk with
 | 0, _ => intro h; simp [clsBlocks, cbase, cbytes] at *; omega
 | 1, _ => intro h; simp [clsBlocks, cbase, cbytes] at *; omega
 | 2, _ => intro h; simp [clsBlocks, cbase, cbytes] at *; omega
 | 3, _ => intro h; simp [clsBlocks, cbase, cbytes] at *; omega
def setP (st : St) (F : Fr) (dst v : Int) : Res :=
 match locate st (rd F.at_ dst) with
 | some l => .ok (wrL st l v)
 | none => .halt 4 0 st
def allocP (st : St) (F : Fr) (n dst : Int) : Res :=
 match firstFree st.used (clsOf n) with
 | none => .halt 3 0 st
 | some i => setP { st with used := setUsed st.used (clsOf n) i true } F dst (cbase (clsOf n) + cbytes (clsOf n) * (i : Int))
theorem mset {G : Glob} {S : Nat → Prop} {L : Lay} {F : Fr} {st : St} {w : World} (I : In G S L F st w) (n v : Int) (h0 : 0 ≤ n) (h1 : n < F.at_.length) (hv : v ≤ 9223372036854775807) :
  Calls Try.prog 97 #[.pointer (some ⟨G.m, 0, none⟩), .int .i64 n, .int .i64 v] w (ResPost G S L F (setP st F n v) w) := by
 cases hl : locate st (rd F.at_ n) with
 | some l => exact (set_ok I n v h0 h1 hv hl).mono fun e w' ⟨he, K, I'⟩ => by subst he; exact ResPost.ok_ (by unfold setP; rw [hl]) K I'
 | none => exact (set_bad I n v h0 h1 hl).mono fun e w' ⟨he, hb⟩ => by subst he; exact ResPost.halt_ (by unfold setP; rw [hl]) (Kept.of_below hb) (I.rep.below hb)
set_option maxRecDepth 100000 in
set_option maxHeartbeats 2000000 in
theorem malloc {G : Glob} {S : Nat → Prop} {L : Lay} {F : Fr} {st : St} {w : World} (I : In G S L F st w) (p : Addr) (n dst : Int) (hp1 : w.cell? ⟨p.block, p.off + 1, none⟩ = some (.int .i64 dst)) (hp10 : w.cell? ⟨p.block, p.off + 10, none⟩ = some (.int .i64 n))
  (hS : ¬ S p.block) (n0 : 0 ≤ n) (n1 : n ≤ 128) (h0 : 0 ≤ dst) (h1 : dst < F.at_.length) :
  Calls Try.prog 101 #[.pointer (some ⟨G.m, 0, none⟩), .pointer (some p)] w (ResPost G S L F (allocP st F n dst) w) := by
 have bW : Below w.heap.size w w.drew := below_drew (Below.refl _ _)
 have IW := Aside0.mk (I.below bW)
 have c7 := I.rep.c7
 have Q1 := Aside0.mk (show w.drew.cell? ⟨p.block, p.off + 1, none⟩ = some (.int .i64 dst) from hp1)
 have FF := Aside0.mk (halloc L.h L.u st.used n w.drew IW.out.rep.heap n0 n1)
 have BW := Aside0.mk bW
 have HS := Aside0.mk hS
 have SUB := Aside0.mk (show ∀ b, b = L.u (clsOf n) → ∃ k, k < 4 ∧ b = L.u k from fun b e => ⟨_, clsOf_lt n, e⟩)
 clear I bW hS n0 n1
 cases hf : firstFree st.used (clsOf n) with
 | none =>
  have HF := Aside0.mk hf
  clear hf
  go_enter Try.func101, Try.ntmps101
  go_wp2
  go_region_with (first | (go_at_call 118; refine FF.out.mono ?_; intro e w1 hp; obtain ⟨K, hp⟩ := hp; rw [HF.out] at hp; obtain ⟨rfl, H⟩ := hp; have KK := Aside0.mk (K.mono SUB.out); have HH := Aside0.mk H; clear K H))
  all_goals
   go_wp2_with (go_at_call 28; refine (stop _ _ _).mono ?_; rintro e w1 ⟨rfl, rfl⟩)
   exact ⟨rfl, ResPost.halt_ (by unfold allocP; rw [HF.out]) ((Kept.of_below BW.out).then_ (kept_u IW.out.rep KK.out)) (IW.out.rep.used KK.out HH.out)⟩
 | some i =>
  have HF := Aside0.mk hf
  clear hf
  have he : allocP st F n dst = setP { st with used := setUsed st.used (clsOf n) i true } F dst (cbase (clsOf n) + cbytes (clsOf n) * (i : Int)) := by unfold allocP; rw [HF.out]
  rw [he]
  clear he
  go_enter Try.func101, Try.ntmps101
  go_wp2
  go_region_with (first | (go_at_call 118; refine FF.out.mono ?_; intro e w1 hp; obtain ⟨K, hp⟩ := hp; rw [HF.out] at hp; obtain ⟨rfl, H⟩ := hp; have I1 := Aside0.mk (IW.out.used (K.mono SUB.out) H); have KK := Aside0.mk (K.mono SUB.out); have q1' : w1.cell? ⟨p.block, p.off + 1, none⟩ = some (.int .i64 dst) := Kept.cell K Q1.out (fun e => HS.out ((show p.block = L.u (clsOf n) from e) ▸ IW.out.rep.ownU _ (clsOf_lt n))); clear K H))
  all_goals
   go_wp2_with (go_at_call 97; refine (mset I1.out dst _ h0 h1 (alloc_le HF.out)).mono ?_; intro e w2 hp; have HP := Aside0.mk (ResPost.trans ((Kept.of_below BW.out).then_ (kept_u IW.out.rep KK.out)) hp); clear hp)
   all_goals first | exact bodyPost_end (results_none rfl _ _ _) rfl (ResPost.norm HP.out) | exact ⟨rfl, HP.out⟩ | exact (ResPost.not_out HP.out).elim
def readP (st : St) (a : Int) : Nat → Nat → Option (List Int)
 | 0, _ => some []
 | m + 1, i => (locate st (wrap64 (a + 4 * (i : Int)))).bind fun l => (readP st a m (i + 1)).map (rdL st l :: ·)
def writeP (st : St) (a : Int) : List Int → Nat → Res
 | [], _ => .ok st
 | v :: r, i => match locate st (wrap64 (a + 4 * (i : Int))) with
  | some l => writeP (wrL st l v) a r (i + 1)
  | none => .halt 4 0 st
theorem writeP_cons (st : St) (a v : Int) (r : List Int) (i : Nat) : writeP st a (v :: r) i = match locate st (wrap64 (a + 4 * (i : Int))) with | some l => writeP (wrL st l v) a r (i + 1) | none => .halt 4 0 st := rfl
def copyP (st : St) (to_ from_ : Int) (n : Nat) : Res :=
 match readP st from_ n 0 with
 | none => .halt 4 0 st
 | some l => writeP st to_ l 0
theorem Rep.row_of_block' {base : Nat} {w w' : World} {v : Value} {n : Nat} {xs : List Value} (h : w.ownsRow base 3 1 v n xs) (hb : ∀ b, v.ownBlock = some b → w'.heap[b]? = w.heap[b]?) : w'.ownsRow base 3 1 v n xs := by
 refine ⟨h.1, ?_⟩
 rcases h.2 with h2 | ⟨g, cap, cur, rfl, hg, hh, r⟩
 ·exact .inl h2
 ·exact .inr ⟨g, cap, cur, rfl, hg, by rw [hb g (by simp [Value.ownBlock])]; exact hh, r⟩
theorem set_take_succ (xs : List Int) (i : Nat) (v : Int) (h : i < xs.length) : (xs.set i v).take (i + 1) = xs.take i ++ [v] := by
 rw [List.take_add_one, List.take_set, List.set_eq_of_length_le (by rw [List.length_take]; omega)]
 simp [h]
theorem drop_rd (xs : List Int) (i : Nat) (h : i < xs.length) : xs.drop i = rd xs (i : Int) :: xs.drop (i + 1) := by
 rw [List.drop_eq_getElem_cons h]
 simp [rd, List.getD_eq_getElem?_getD, List.getElem?_eq_getElem h]
set_option maxRecDepth 100000 in
set_option maxHeartbeats 8000000 in
theorem mcopy {G : Glob} {S : Nat → Prop} {L : Lay} {F : Fr} {st : St} {w : World} (I : In G S L F st w) (to_ from_ : Int) (k : Nat) (hk : k ≤ 128) :
  Calls Try.prog 100 #[.pointer (some ⟨G.m, 0, none⟩), .int .i64 to_, .int .i64 from_, .int .i64 (k : Int)] w (ResPost G S L F (copyP st to_ from_ k) w) := by
 have mk := print_make (P := Try.prog) 23 3 .i64 8 Try.underlying23 info3 (by omega) k (by omega)
 have II := Aside0.mk I
 clear I
 go_enter Try.func100, Try.ntmps100
 go_wp2
 obtain ⟨W, hW⟩ : ∃ W, w.alloc (.cells (madeCells #[.int .i64 0] k) 3) = W := ⟨_, rfl⟩
 have ho : W.ownsRow w.heap.size 3 1 (.slice (some ⟨w.heap.size, 0, none⟩) k k) k (nums .i64 (List.replicate k 0)) := hW ▸ own_made w w.heap.size 3 .i64 k (Nat.le_refl _) (by omega)
 have bW : Below w.heap.size w W := hW ▸ below_alloc (Below.refl _ _) _
 rw [hW]
 have HO := Aside0.mk ho
 have BW := Aside0.mk bW
 have hz : w.heap.size < W.heap.size := by rw [← hW]; simp
 clear hW ho bW mk
 go_loopw [9, 16] (fun _ v wr => ∃ (i : Int) (zs : List Int), v = .int .i64 i ∧ 0 ≤ i ∧ i ≤ k ∧ Aside0 (zs.length = k ∧ (∀ y, y ∈ zs → y ≤ 9223372036854775807) ∧ (readP st from_ (k - i.toNat) i.toNat).map (zs.take i.toNat ++ ·) = readP st from_ k 0) ∧ Aside0 (wr.ownsRow w.heap.size 3 1 (.slice (some ⟨w.heap.size, 0, none⟩) k k) k (nums .i64 zs)) ∧ Aside0 (Below w.heap.size w wr) ∧ Aside0 (w.heap.size < wr.heap.size)) (fun _ v _ => k - (intOf v).toNat)
 case atStart => exact ⟨0, List.replicate k 0, rfl, by omega, by omega, ⟨by simp, fun y hy => by have := List.eq_of_mem_replicate hy; omega, by simp⟩, HO, BW, ⟨hz⟩⟩
 case round =>
  obtain ⟨i, zs, rfl, hi0, hi1, HS, HR, HB, HZ⟩ := hrel
  by_cases hlt : i < k
  ·have I1 := Aside0.mk (II.out.below HB.out)
   have hfz := (own_at HR.out i hi0 hlt).2
   have hcl := (own_at HR.out i hi0 hlt).1
   have ek : k - i.toNat = (k - (i + 1).toNat) + 1 := by omega
   have EK := Aside0.mk ek
   have nx : (i + 1).toNat = i.toNat + 1 := by omega
   have NX := Aside0.mk nx
   have hT := HS.out.2.2
   rw [ek, readP, show ((i.toNat : Nat) : Int) = i by omega] at hT
   have HT := Aside0.mk hT
   have hlg : w.heap.size < wr.heap.size := World.block_lt_of_cell? wr _ hcl
   clear ek nx hT
   cases hl : locate st (wrap64 (from_ + 4 * i)) with
   | none =>
    have HL := Aside0.mk hl
    clear hl
    go_wp2_with (go_at_call 98; refine (cell_bad I1.out.rep (wrap64_le _) HL.out).mono ?_; rintro e w2 ⟨rfl, hb⟩)
    refine ⟨rfl, ResPost.halt_ ?_ (Kept.of_below (below_then HB.out HB.out.size hb)) (I1.out.rep.below hb)⟩
    have h0 := HT.out
    rw [HL.out] at h0
    unfold copyP
    rw [← h0]
    rfl
   | some l =>
    have HL := Aside0.mk hl
    clear hl
    go_wp2_with (go_at_call 98; refine (cell_ok I1.out.rep (wrap64_le _) HL.out).mono ?_; rintro e w2 ⟨rfl, hb⟩; have hd := ((I1.out.below hb).rep.load HL.out).1; have hf2 := (hb.frozen hlg).trans hfz; have hc2 := (hb.cell hlg).trans hcl)
    have hst := own_store (pw_own_below HR.out hb) i (rdL st l)
    go_roundw
    case measure => simp [intOf]; omega
    case rel =>
     refine ⟨i + 1, zs.set i.toNat (rdL st l), by go_num, by omega, by omega, ⟨by simpa using HS.out.1, ?_, ?_⟩, ⟨hst.1⟩, ⟨?_⟩, ⟨by have := hb.size; have := HZ.out; simp [World.setCell]; omega⟩⟩
     ·intro y hy
      rcases List.mem_or_eq_of_mem_set hy with h1 | rfl
      ·exact HS.out.2.1 y h1
      ·exact I1.out.rep.rd_le l
     ·have h0 := HT.out
      rw [HL.out] at h0
      rw [← h0, NX.out, set_take_succ _ _ _ (by have := HS.out.1; omega)]
      simp only [Option.bind_some]
      cases readP st from_ (k - (i.toNat + 1)) (i.toNat + 1) <;> simp
     ·exact (below_then HB.out HB.out.size hb).setCell (by simp) _
  ·obtain rfl : i = (k : Int) := by omega
   have hd : decide ((k : Int) < (k : Int)) = false := by simp
   have hrd : readP st from_ k 0 = some zs := by
    rw [← HS.out.2.2]
    simp [readP, HS.out.1.symm]
   have HRD := Aside0.mk hrd
   have I1 := Aside0.mk (II.out.below HB.out)
   have hlg := HZ.out
   clear hrd
   go_wp2
   have hfin : copyP st to_ from_ k = writeP st to_ zs 0 := by unfold copyP; rw [HRD.out]
   rw [hfin]
   have HLEN := Aside0.mk HS.out.1
   have HYS := Aside0.mk HS.out.2.1
   clear hfin
   go_loopw [10, 11, 33] (fun _ _ v wv => ∃ (j : Int) (st2 : St), v = .int .i64 j ∧ 0 ≤ j ∧ j ≤ k ∧ Aside0 (writeP st2 to_ (zs.drop j.toNat) j.toNat = writeP st to_ zs 0) ∧ Aside0 (In G S L F st2 wv) ∧ Aside0 (wv.ownsRow w.heap.size 3 1 (.slice (some ⟨w.heap.size, 0, none⟩) k k) k (nums .i64 zs)) ∧ Aside0 (Kept S w wv) ∧ Aside0 (w.heap.size < wv.heap.size)) (fun _ _ v _ => k - (intOf v).toNat)
   case atStart => exact ⟨0, st, rfl, by omega, by omega, ⟨by simp⟩, I1, HR, ⟨Kept.of_below HB.out⟩, HZ⟩
   case round =>
    obtain ⟨j, st2, rfl, hj0, hj1, HT, I2, HR2, HK, HZ2⟩ := hrel
    by_cases hjl : j < k
    ·have hcl := (own_at HR2.out j hj0 hjl).1
     have hdr := drop_rd zs j.toNat (by have := HLEN.out; omega)
     rw [show ((j.toNat : Nat) : Int) = j by omega] at hdr
     have hT := HT.out
     rw [hdr, writeP_cons] at hT
     rw [show ((j.toNat : Nat) : Int) = j by omega] at hT
     have nx : (j + 1).toNat = j.toNat + 1 := by omega
     have NX := Aside0.mk nx
     have hle : rd zs j ≤ 9223372036854775807 := HYS.out _ (by
      have : zs.drop j.toNat ≠ [] := by rw [hdr]; simp
      unfold rd
      rw [List.getD_eq_getElem?_getD, List.getElem?_eq_getElem (by have := HLEN.out; omega)]
      simp)
     have HLE := Aside0.mk hle
     have HT2 := Aside0.mk hT
     clear nx hdr hT hle
     cases hl : locate st2 (wrap64 (to_ + 4 * j)) with
     | none =>
      have HL := Aside0.mk hl
      clear hl
      go_wp2_with (go_at_call 98; refine (cell_bad I2.out.rep (wrap64_le _) HL.out).mono ?_; rintro e w2 ⟨rfl, hb⟩)
      have h0 := HT2.out
      rw [HL.out] at h0
      exact ⟨rfl, ResPost.halt_ h0.symm (HK.out.below hb) (I2.out.rep.below hb)⟩
     | some l =>
      have HL := Aside0.mk hl
      clear hl
      go_wp2_with (go_at_call 98; refine (cell_ok I2.out.rep (wrap64_le _) HL.out).mono ?_; rintro e w2 ⟨rfl, hb⟩; have hd := ((I2.out.below hb).rep.load HL.out); have hd1 := hd.1; have hf2 := hd.2; clear hd)
      go_roundw
      case measure => simp [intOf]; omega
      case rel =>
       have I3 := I2.out.below hb
       have hw := I3.wr HL.out (rd zs j) HLE.out
       have hne : (L.addr l).block ≠ w.heap.size := fun e => by
        have h1 := II.out.lt _ (I3.rep.addr_own HL.out)
        omega
       refine ⟨j + 1, wrL st2 l (rd zs j), by go_num, by omega, by omega, ⟨?_⟩, ⟨hw⟩, ⟨Rep.row_of_block' (pw_own_below HR2.out hb) (fun b hb' => ?_)⟩, ⟨(HK.out.below hb).setCell (I3.rep.addr_own HL.out) _⟩, ⟨by have := hb.size; have := HZ2.out; simp [World.setCell]; omega⟩⟩
       ·have h0 := HT2.out
        rw [HL.out] at h0
        rw [NX.out]
        exact h0
       ·have : w.heap.size = b := by simpa [Value.ownBlock] using hb'
        subst this
        exact Below.heap_setCell _ _ _ _ (Ne.symm hne)
    ·obtain rfl : j = (k : Int) := by omega
     have hd2 : decide ((k : Int) < (k : Int)) = false := by simp
     have hT := HT.out
     rw [List.drop_of_length_le (by have := HLEN.out; omega)] at hT
     go_wp2
     refine bodyPost_end (results_none rfl _ _ _) rfl (ResPost.ok_ hT.symm HK.out I2.out)
end Go.Proofs.Ytpphpcmbpbppoaa.Mach
end
section
namespace Go.Proofs.Ytpphpcmbpbppoaa.PMirFuel
open Go.RowKit Go.Proofs.YtpphpcmbpbppoaaW.PrintWords Go.Proofs.YtpphpcmbpbppoaaW.PrintLast Go.Proofs.YtpphpcmbpbppoaaW.PrintMore
attribute [local go_sem] max2_int min2_int max_two min_two max_three min_three max_four min_four   
set_option linter.unusedVariables false
set_option linter.unusedSimpArgs false
def mir_find.l0 : Nat → List (S48) → ByteArray → Int → Int → Option (Int)
 | 0, _, _, _, _ => none
 | k + 1, x0, x1, x7, x8 => if x8 < x7 then (if 0 ≤ x8 then (if x8 < (x0.length : Int) then (if ((rd_T48 x0 x8).f0).toList = x1.toList then (some x8) else (mir_find.l0 k x0 x1 x7 (wrap64 (x8 + 1)))) else (none)) else (none)) else (some (-1))
def mir_find.f (k : Nat) (l0 : List (S48)) (a1 : ByteArray) : Option (Int) := mir_find.l0 k l0 a1 (l0.length : Int) 0
theorem mir_find.mono_l : ∀ k, (∀ y0 y1 y2 y3, LeO (mir_find.l0 k y0 y1 y2 y3) (mir_find.l0 (k + 1) y0 y1 y2 y3))
 | 0 => fun _ _ _ _ r h => by simp [mir_find.l0] at h
 | k + 1 => by
  have ih0 := mir_find.mono_l k
  ·intro y0 y1 y2 y3
   unfold mir_find.l0
   repeat' first
   | (with_reducible exact ih0 _ _ _ _)
   | (with_reducible exact LeO.refl _)
   | (with_reducible exact LeO.none _)
   | (with_reducible refine LeO.ite ?_ ?_)
   | (with_reducible refine LeO.bind ?_ (fun _ => ?_))
   | exact ih0 _ _ _ _
   | exact LeO.none _
   | refine LeO.ite ?_ ?_
   | refine LeO.bind ?_ (fun _ => ?_)
theorem mir_find.mono : ∀ a0 a1 k, LeO (mir_find.f k a0 a1) (mir_find.f (k + 1) a0 a1) := by
 intro a0 a1 k
 have ih0 := mir_find.mono_l k
 unfold mir_find.f
 repeat' first
   | (with_reducible exact ih0 _ _ _ _)
   | (with_reducible exact LeO.refl _)
   | (with_reducible exact LeO.none _)
   | (with_reducible refine LeO.ite ?_ ?_)
   | (with_reducible refine LeO.bind ?_ (fun _ => ?_))
   | exact ih0 _ _ _ _
   | exact LeO.none _
   | refine LeO.ite ?_ ?_
   | refine LeO.bind ?_ (fun _ => ?_)
set_option maxHeartbeats 8000000 in
set_option maxRecDepth 100000 in
theorem mir_find.calls (k : Nat) (A0 : Option Addr) (c0 : Nat) (l0 : List (S48)) (a1 : ByteArray) (r : Int) (w : World) (hr0 : Kd.C k48 w A0 l0.length l0) (hc0 : l0.length ≤ c0) (h : mir_find.f k l0 a1 = some r) :
  Calls Try.prog 27 #[.slice A0 l0.length c0, .string a1] w fun e w' => e = .returned (.int .i64 r) ∧ Drawn0 w w' := by
 have HR0 := Aside0.mk hr0
 have HC0 := Aside0.mk hc0
 clear hr0 hc0
 have H : (mir_find.l0 k l0 a1 (l0.length : Int) 0) = some r := h
 clear h
 have H' := Aside0.mk H
 clear H
 go_enter Try.func27, Try.ntmps27
 go_wp2
 go_loopg [8] k (fun kq v8 w' => ∃ (x8_1 : Int), v8 = .int .i64 x8_1 ∧ Aside0 (mir_find.l0 kq l0 a1 (l0.length : Int) x8_1 = some r) ∧ Aside0 (kq ≤ k) ∧ Drawn0 w w')
 case atStart => exact ⟨(0), (by first | rfl | (simp; done) | (simp [*]; done)), H', ⟨Nat.le_refl _⟩, by repeat (first | exact Drawn0.refl _ | apply Drawn0.step)⟩
 case round =>
  clear H'
  try clear c2
  try clear p2
  obtain ⟨x8_1, rfl, HA, HK1, ⟨m1, rfl⟩⟩ := hrel
  cases gk with
  | zero => exact absurd HA.out (by simp [mir_find.l0])
  | succ k1 =>
   have H := HA.out
   clear HA
   simp only [mir_find.l0] at H
   by_cases c3 : x8_1 < (l0.length : Int)
   ·rw [if_pos c3] at H
    have c3b0 : decide (x8_1 < (l0.length : Int)) = true := decide_eq_true c3
    clear c3
    by_cases c4 : 0 ≤ x8_1
    ·rw [if_pos c4] at H
     have c4b0 : decide (0 ≤ x8_1) = true := decide_eq_true c4
     clear c4
     by_cases c5 : x8_1 < (l0.length : Int)
     ·rw [if_pos c5] at H
      have c5b0 : decide (x8_1 < (l0.length : Int)) = true := decide_eq_true c5
      clear c5
      by_cases c6 : ((rd_T48 l0 x8_1).f0).toList = a1.toList
      ·rw [if_pos c6] at H
       have c6b0 : (((rd_T48 l0 x8_1).f0).toList == a1.toList) = true := beq_iff_eq.mpr c6
       have c6b1 : (((rd_T48 l0 x8_1).f0).toList != a1.toList) = false := bne_eq_false_iff_eq.mpr c6
       clear c6
       obtain rfl := Option.some.inj H
       have p101 : 0 ≤ (x8_1 : Int) := of_decide_eq_true (by first | (with_reducible assumption) | assumption)
       have q101 : x8_1 < (l0.length : Int) := of_decide_eq_true (by first | (with_reducible assumption) | assumption)
       obtain ⟨ad101, A101_1, c101_1, A101_5, c101_5, e101, hx101_0, hx101_1, hx101_2, hx101_3, hx101_4, hx101_5, hl101_1, hi101_1, hl101_5, hi101_5⟩ := at_T48 HR0.out x8_1 p101 q101
       cases e101
       have HR101_1 := Aside0.mk hi101_1
       have HC101_1 := Aside0.mk hl101_1
       clear hi101_1 hl101_1
       have HR101_5 := Aside0.mk hi101_5
       have HC101_5 := Aside0.mk hl101_5
       clear hi101_5 hl101_5
       replace p101 := eq_true p101
       replace q101 := eq_true q101
       go_wp2
       go_ret
       exact ⟨by first | rfl | (simp; done) | (simp [*]; done), by repeat (first | exact Drawn0.refl _ | apply Drawn0.step)⟩
      ·rw [if_neg c6] at H
       have c6b0 : (((rd_T48 l0 x8_1).f0).toList == a1.toList) = false := beq_eq_false_iff_ne.mpr c6
       have c6b1 : (((rd_T48 l0 x8_1).f0).toList != a1.toList) = true := bne_iff_ne.mpr c6
       have H' := Aside0.mk H
       clear H
       have p101 : 0 ≤ (x8_1 : Int) := of_decide_eq_true (by first | (with_reducible assumption) | assumption)
       have q101 : x8_1 < (l0.length : Int) := of_decide_eq_true (by first | (with_reducible assumption) | assumption)
       obtain ⟨ad101, A101_1, c101_1, A101_5, c101_5, e101, hx101_0, hx101_1, hx101_2, hx101_3, hx101_4, hx101_5, hl101_1, hi101_1, hl101_5, hi101_5⟩ := at_T48 HR0.out x8_1 p101 q101
       cases e101
       have HR101_1 := Aside0.mk hi101_1
       have HC101_1 := Aside0.mk hl101_1
       clear hi101_1 hl101_1
       have HR101_5 := Aside0.mk hi101_5
       have HC101_5 := Aside0.mk hl101_5
       clear hi101_5 hl101_5
       replace p101 := eq_true p101
       replace q101 := eq_true q101
       go_wp2
       go_roundg k1
       case measure => have := HK1.out; omega
       case rel => exact ⟨(wrap64 (x8_1 + 1)), (by first | rfl | (simp; done) | (simp [*]; done)), H', ⟨by have := HK1.out; omega⟩, by repeat (first | exact Drawn0.refl _ | apply Drawn0.step)⟩
     ·rw [if_neg c5] at H
      exact absurd H (by simp)
    ·rw [if_neg c4] at H
     exact absurd H (by simp)
   ·rw [if_neg c3] at H
    have c3b0 : decide (x8_1 < (l0.length : Int)) = false := decide_eq_false c3
    clear c3
    obtain rfl := Option.some.inj H
    go_wp2
    go_ret
    exact ⟨by first | rfl | (simp; done) | (simp [*]; done), by repeat (first | exact Drawn0.refl _ | apply Drawn0.step)⟩
def mir_former_scalar.f (l0_0 : List (S48)) (a0_1 : ByteArray) (l0_2 : List Int) (a0_3 : Int) (a0_4 : Int) (a0_5 : Bool) (l0_6 : List (S45)) (a1 : Int) : Option (Bool) := if a1 ≥ 0 then (if a1 < (l0_2.length : Int) then (if 0 ≤ a1 then (some ((rd l0_2 a1) == 1)) else (none)) else (some false)) else (some false)
set_option maxHeartbeats 8000000 in
set_option maxRecDepth 100000 in
theorem mir_former_scalar.calls (A0_0 : Option Addr) (c0_0 : Nat) (l0_0 : List (S48)) (a0_1 : ByteArray) (A0_2 : Option Addr) (c0_2 : Nat) (l0_2 : List Int) (a0_3 : Int) (a0_4 : Int) (a0_5 : Bool) (A0_6 : Option Addr) (c0_6 : Nat) (l0_6 : List (S45)) (a1 : Int) (r : Bool) (w : World) (hr0_0 : Kd.C k48 w A0_0 l0_0.length l0_0) (hc0_0 : l0_0.length ≤ c0_0) (hr0_2 : Kd.C (Kd.int .i64) w A0_2 l0_2.length l0_2) (hc0_2 : l0_2.length ≤ c0_2) (hr0_6 : Kd.C k45 w A0_6 l0_6.length l0_6) (hc0_6 : l0_6.length ≤ c0_6) (h : mir_former_scalar.f l0_0 a0_1 l0_2 a0_3 a0_4 a0_5 l0_6 a1 = some r) :
  Calls Try.prog 57 #[.agg #[.slice A0_0 l0_0.length c0_0, .string a0_1, .slice A0_2 l0_2.length c0_2, .int .i64 a0_3, .int .i64 a0_4, .bool a0_5, .slice A0_6 l0_6.length c0_6], .int .i64 a1] w fun e w' => e = .returned (.bool r) ∧ Below w.heap.size w w' := by
 have hu101 := Try.underlying101
 have HR0_0 := Aside0.mk hr0_0
 have HC0_0 := Aside0.mk hc0_0
 clear hr0_0 hc0_0
 have HR0_2 := Aside0.mk hr0_2
 have HC0_2 := Aside0.mk hc0_2
 clear hr0_2 hc0_2
 have HR0_6 := Aside0.mk hr0_6
 have HC0_6 := Aside0.mk hc0_6
 clear hr0_6 hc0_6
 have HB := Aside0.mk (Below.refl w.heap.size w)
 have H : (if a1 ≥ 0 then (if a1 < (l0_2.length : Int) then (if 0 ≤ a1 then (some ((rd l0_2 a1) == 1)) else (none)) else (some false)) else (some false)) = some r := h
 clear h
 by_cases c3 : a1 ≥ 0
 ·rw [if_pos c3] at H
  have c3b0 : decide (0 ≤ a1) = true := decide_eq_true c3
  clear c3
  by_cases c4 : a1 < (l0_2.length : Int)
  ·rw [if_pos c4] at H
   have c4b0 : decide (a1 < (l0_2.length : Int)) = true := decide_eq_true c4
   clear c4
   by_cases c5 : 0 ≤ a1
   ·rw [if_pos c5] at H
    have c5b0 : decide (0 ≤ a1) = true := decide_eq_true c5
    clear c5
    obtain rfl := Option.some.inj H
    go_enter Try.func57, Try.ntmps57
    go_wp2_with (first | ((with_reducible refine gate_dst (N := 2) rfl ?_); (try (refine gate_guard (by rfl) ?_; dsimp only)); refine box_event ?hg (N := 2) ?hd (cs := #[.slice A0_0 l0_0.length c0_0, .string a0_1, .slice A0_2 l0_2.length c0_2, .int .i64 a0_3, .int .i64 a0_4, .bool a0_5, .slice A0_6 l0_6.length c0_6]) (t := 101) ?hr ?_; (case hd => rfl); (case hg => rfl); (case hr => first | (go_simp; done) | (go_simp; rfl)); intro gb108 hg w6 hbox hb; have n0_ := Aside0.mk (below_step (by repeat (first | (with_reducible first | exact HB.out | apply below_alloc | apply pw_below_drewN | apply below_drew1) | exact HB.out)) hb); have n1_ := Aside0.mk (hbox); have n2_ := Aside0.mk ((by rw [hg]; exact (below_size (by repeat (first | (with_reducible first | exact HB.out | apply below_alloc | apply pw_below_drewN | apply below_drew1) | exact HB.out))) : w.heap.size ≤ gb108)); have n3_ := Aside0.mk ((by rw [hg]; exact (below_size (by repeat (first | (with_reducible first | exact HB.out | apply below_alloc | apply pw_below_drewN | apply below_drew1) | exact HB.out))) : w.heap.size ≤ gb108)); clear HB; have HB := n0_; have BK108 := n1_; have GW108 := n2_; have GE108 := n3_; clear n0_ n1_ n2_ n3_; clear hb hbox hg; have hcz7_0 : w6.cell? ⟨gb108, 0, none⟩ = some (.slice A0_0 l0_0.length c0_0) := (blk_cell BK108.out 0).trans rfl; have hcz7_1 : w6.cell? ⟨gb108, 1, none⟩ = some (.string a0_1) := (blk_cell BK108.out 1).trans rfl; have hcz7_2 : w6.cell? ⟨gb108, 2, none⟩ = some (.slice A0_2 l0_2.length c0_2) := (blk_cell BK108.out 2).trans rfl; have hcz7_3 : w6.cell? ⟨gb108, 3, none⟩ = some (.int .i64 a0_3) := (blk_cell BK108.out 3).trans rfl; have hcz7_4 : w6.cell? ⟨gb108, 4, none⟩ = some (.int .i64 a0_4) := (blk_cell BK108.out 4).trans rfl; have hcz7_5 : w6.cell? ⟨gb108, 5, none⟩ = some (.bool a0_5) := (blk_cell BK108.out 5).trans rfl; have hcz7_6 : w6.cell? ⟨gb108, 6, none⟩ = some (.slice A0_6 l0_6.length c0_6) := (blk_cell BK108.out 6).trans rfl; have hfz7_0 := blk_frozen BK108.out 0; have hfz7_1 := blk_frozen BK108.out 1; have hfz7_2 := blk_frozen BK108.out 2; have hfz7_3 := blk_frozen BK108.out 3; have hfz7_4 := blk_frozen BK108.out 4; have hfz7_5 := blk_frozen BK108.out 5; have hfz7_6 := blk_frozen BK108.out 6; have p109 : 0 ≤ (a1 : Int) := of_decide_eq_true (by first | (with_reducible assumption) | assumption); have q109 : a1 < (l0_2.length : Int) := of_decide_eq_true (by first | (with_reducible assumption) | assumption); obtain ⟨ad109, e109, hx109_0⟩ := Kd.at_int HR0_2.out a1 p109 q109; cases e109; replace hx109_0 := (HB.out.cell (World.block_lt_of_cell? w _ hx109_0)).trans hx109_0; replace p109 := eq_true p109; replace q109 := eq_true q109))
    go_ret
    exact ⟨by first | rfl | (simp [errW_none, errW_some] <;> rfl) | (simp [*, errW_none, errW_some] <;> rfl), by repeat (first | (with_reducible first | exact HB.out | apply below_alloc | apply pw_below_drewN | apply below_drew1 | refine below_set ?_ GE108.out) | exact HB.out)⟩
   ·rw [if_neg c5] at H
    exact absurd H (by simp)
  ·rw [if_neg c4] at H
   have c4b0 : decide (a1 < (l0_2.length : Int)) = false := decide_eq_false c4
   clear c4
   obtain rfl := Option.some.inj H
   go_enter Try.func57, Try.ntmps57
   go_wp2_with (first | ((with_reducible refine gate_dst (N := 2) rfl ?_); (try (refine gate_guard (by rfl) ?_; dsimp only)); refine box_event ?hg (N := 2) ?hd (cs := #[.slice A0_0 l0_0.length c0_0, .string a0_1, .slice A0_2 l0_2.length c0_2, .int .i64 a0_3, .int .i64 a0_4, .bool a0_5, .slice A0_6 l0_6.length c0_6]) (t := 101) ?hr ?_; (case hd => rfl); (case hg => rfl); (case hr => first | (go_simp; done) | (go_simp; rfl)); intro gb108 hg w8 hbox hb; have n0_ := Aside0.mk (below_step (by repeat (first | (with_reducible first | exact HB.out | apply below_alloc | apply pw_below_drewN | apply below_drew1) | exact HB.out)) hb); have n1_ := Aside0.mk (hbox); have n2_ := Aside0.mk ((by rw [hg]; exact (below_size (by repeat (first | (with_reducible first | exact HB.out | apply below_alloc | apply pw_below_drewN | apply below_drew1) | exact HB.out))) : w.heap.size ≤ gb108)); have n3_ := Aside0.mk ((by rw [hg]; exact (below_size (by repeat (first | (with_reducible first | exact HB.out | apply below_alloc | apply pw_below_drewN | apply below_drew1) | exact HB.out))) : w.heap.size ≤ gb108)); clear HB; have HB := n0_; have BK108 := n1_; have GW108 := n2_; have GE108 := n3_; clear n0_ n1_ n2_ n3_; clear hb hbox hg; have hcz9_0 : w8.cell? ⟨gb108, 0, none⟩ = some (.slice A0_0 l0_0.length c0_0) := (blk_cell BK108.out 0).trans rfl; have hcz9_1 : w8.cell? ⟨gb108, 1, none⟩ = some (.string a0_1) := (blk_cell BK108.out 1).trans rfl; have hcz9_2 : w8.cell? ⟨gb108, 2, none⟩ = some (.slice A0_2 l0_2.length c0_2) := (blk_cell BK108.out 2).trans rfl; have hcz9_3 : w8.cell? ⟨gb108, 3, none⟩ = some (.int .i64 a0_3) := (blk_cell BK108.out 3).trans rfl; have hcz9_4 : w8.cell? ⟨gb108, 4, none⟩ = some (.int .i64 a0_4) := (blk_cell BK108.out 4).trans rfl; have hcz9_5 : w8.cell? ⟨gb108, 5, none⟩ = some (.bool a0_5) := (blk_cell BK108.out 5).trans rfl; have hcz9_6 : w8.cell? ⟨gb108, 6, none⟩ = some (.slice A0_6 l0_6.length c0_6) := (blk_cell BK108.out 6).trans rfl; have hfz9_0 := blk_frozen BK108.out 0; have hfz9_1 := blk_frozen BK108.out 1; have hfz9_2 := blk_frozen BK108.out 2; have hfz9_3 := blk_frozen BK108.out 3; have hfz9_4 := blk_frozen BK108.out 4; have hfz9_5 := blk_frozen BK108.out 5; have hfz9_6 := blk_frozen BK108.out 6))
   go_ret
   exact ⟨by first | rfl | (simp [errW_none, errW_some] <;> rfl) | (simp [*, errW_none, errW_some] <;> rfl), by repeat (first | (with_reducible first | exact HB.out | apply below_alloc | apply pw_below_drewN | apply below_drew1 | refine below_set ?_ GE108.out) | exact HB.out)⟩
 ·rw [if_neg c3] at H
  have c3b0 : decide (0 ≤ a1) = false := decide_eq_false c3
  clear c3
  obtain rfl := Option.some.inj H
  go_enter Try.func57, Try.ntmps57
  go_wp2_with (first | ((with_reducible refine gate_dst (N := 2) rfl ?_); (try (refine gate_guard (by rfl) ?_; dsimp only)); refine box_event ?hg (N := 2) ?hd (cs := #[.slice A0_0 l0_0.length c0_0, .string a0_1, .slice A0_2 l0_2.length c0_2, .int .i64 a0_3, .int .i64 a0_4, .bool a0_5, .slice A0_6 l0_6.length c0_6]) (t := 101) ?hr ?_; (case hd => rfl); (case hg => rfl); (case hr => first | (go_simp; done) | (go_simp; rfl)); intro gb108 hg w10 hbox hb; have n0_ := Aside0.mk (below_step (by repeat (first | (with_reducible first | exact HB.out | apply below_alloc | apply pw_below_drewN | apply below_drew1) | exact HB.out)) hb); have n1_ := Aside0.mk (hbox); have n2_ := Aside0.mk ((by rw [hg]; exact (below_size (by repeat (first | (with_reducible first | exact HB.out | apply below_alloc | apply pw_below_drewN | apply below_drew1) | exact HB.out))) : w.heap.size ≤ gb108)); have n3_ := Aside0.mk ((by rw [hg]; exact (below_size (by repeat (first | (with_reducible first | exact HB.out | apply below_alloc | apply pw_below_drewN | apply below_drew1) | exact HB.out))) : w.heap.size ≤ gb108)); clear HB; have HB := n0_; have BK108 := n1_; have GW108 := n2_; have GE108 := n3_; clear n0_ n1_ n2_ n3_; clear hb hbox hg))
  go_ret
  exact ⟨by first | rfl | (simp [errW_none, errW_some] <;> rfl) | (simp [*, errW_none, errW_some] <;> rfl), by repeat (first | (with_reducible first | exact HB.out | apply below_alloc | apply pw_below_drewN | apply below_drew1 | refine below_set ?_ GE108.out) | exact HB.out)⟩
def mir_former_operand.f (l0_0 : List (S48)) (a0_1 : ByteArray) (l0_2 : List Int) (a0_3 : Int) (a0_4 : Int) (a0_5 : Bool) (l0_6 : List (S45)) (a1_0 : Bool) (a1_1 : Int) : Option (Bool) := if a1_0 = true then (some true) else ((mir_former_scalar.f l0_0 a0_1 l0_2 a0_3 a0_4 a0_5 l0_6 a1_1).bind fun t112 => (some t112))
set_option maxHeartbeats 8000000 in
set_option maxRecDepth 100000 in
theorem mir_former_operand.calls (A0_0 : Option Addr) (c0_0 : Nat) (l0_0 : List (S48)) (a0_1 : ByteArray) (A0_2 : Option Addr) (c0_2 : Nat) (l0_2 : List Int) (a0_3 : Int) (a0_4 : Int) (a0_5 : Bool) (A0_6 : Option Addr) (c0_6 : Nat) (l0_6 : List (S45)) (a1_0 : Bool) (a1_1 : Int) (r : Bool) (w : World) (hr0_0 : Kd.C k48 w A0_0 l0_0.length l0_0) (hc0_0 : l0_0.length ≤ c0_0) (hr0_2 : Kd.C (Kd.int .i64) w A0_2 l0_2.length l0_2) (hc0_2 : l0_2.length ≤ c0_2) (hr0_6 : Kd.C k45 w A0_6 l0_6.length l0_6) (hc0_6 : l0_6.length ≤ c0_6) (h : mir_former_operand.f l0_0 a0_1 l0_2 a0_3 a0_4 a0_5 l0_6 a1_0 a1_1 = some r) :
  Calls Try.prog 58 #[.agg #[.slice A0_0 l0_0.length c0_0, .string a0_1, .slice A0_2 l0_2.length c0_2, .int .i64 a0_3, .int .i64 a0_4, .bool a0_5, .slice A0_6 l0_6.length c0_6], .agg #[.bool a1_0, .int .i64 a1_1]] w fun e w' => e = .returned (.bool r) ∧ Below w.heap.size w w' := by
 have hu101 := Try.underlying101
 have hu30 := Try.underlying30
 have HR0_0 := Aside0.mk hr0_0
 have HC0_0 := Aside0.mk hc0_0
 clear hr0_0 hc0_0
 have HR0_2 := Aside0.mk hr0_2
 have HC0_2 := Aside0.mk hc0_2
 clear hr0_2 hc0_2
 have HR0_6 := Aside0.mk hr0_6
 have HC0_6 := Aside0.mk hc0_6
 clear hr0_6 hc0_6
 have HB := Aside0.mk (Below.refl w.heap.size w)
 have H : (if a1_0 = true then (some true) else ((mir_former_scalar.f l0_0 a0_1 l0_2 a0_3 a0_4 a0_5 l0_6 a1_1).bind fun t112 => (some t112))) = some r := h
 clear h
 by_cases c3 : a1_0 = true
 ·subst c3
  have H1 : (some true) = some r := by rw [if_pos rfl] at H; exact H
  clear H
  have H := H1
  clear H1
  obtain rfl := Option.some.inj H
  go_enter Try.func58, Try.ntmps58
  go_wp2_with (first | ((with_reducible refine gate_dst (N := 2) rfl ?_); refine box_event ?hg (N := 2) ?hd (cs := #[.slice A0_0 l0_0.length c0_0, .string a0_1, .slice A0_2 l0_2.length c0_2, .int .i64 a0_3, .int .i64 a0_4, .bool a0_5, .slice A0_6 l0_6.length c0_6]) (t := 101) ?hr ?_; (case hd => rfl); (case hg => rfl); (case hr => first | (go_simp; done) | (go_simp; rfl)); intro gb110 hg w4 hbox hb; have n0_ := Aside0.mk (below_step (by repeat (first | (with_reducible first | exact HB.out | apply below_alloc | apply pw_below_drewN | apply below_drew1) | exact HB.out)) hb); have n1_ := Aside0.mk (hbox); have n2_ := Aside0.mk ((by rw [hg]; exact (below_size (by repeat (first | (with_reducible first | exact HB.out | apply below_alloc | apply pw_below_drewN | apply below_drew1) | exact HB.out))) : w.heap.size ≤ gb110)); have n3_ := Aside0.mk ((by rw [hg]; exact (below_size (by repeat (first | (with_reducible first | exact HB.out | apply below_alloc | apply pw_below_drewN | apply below_drew1) | exact HB.out))) : w.heap.size ≤ gb110)); clear HB; have HB := n0_; have BK110 := n1_; have GW110 := n2_; have GE110 := n3_; clear n0_ n1_ n2_ n3_; clear hb hbox hg) | ((with_reducible refine gate_dst (N := 3) rfl ?_); refine box_event ?hg (N := 3) ?hd (cs := #[.bool true, .int .i64 a1_1]) (t := 30) ?hr ?_; (case hd => rfl); (case hg => rfl); (case hr => first | (go_simp; done) | (go_simp; rfl)); intro gb111 hg w5 hbox hb; have n0_ := Aside0.mk (blk_below (g := gb110) (o := .cells #[.slice A0_0 l0_0.length c0_0, .string a0_1, .slice A0_2 l0_2.length c0_2, .int .i64 a0_3, .int .i64 a0_4, .bool a0_5, .slice A0_6 l0_6.length c0_6] 101 (0, 0)) (by (with_reducible repeat (first | refine blk_drewN ?_ _ | refine blk_drew ?_ | refine blk_alloc ?_ _)); exact BK110.out) hb); have n1_ := Aside0.mk (below_step (by repeat (first | (with_reducible first | exact HB.out | apply below_alloc | apply pw_below_drewN | apply below_drew1 | refine below_set ?_ GE110.out) | exact HB.out)) hb); have n2_ := Aside0.mk (hbox); have n3_ := Aside0.mk ((by rw [hg]; exact (below_size (by repeat (first | (with_reducible first | exact HB.out | apply below_alloc | apply pw_below_drewN | apply below_drew1 | refine below_set ?_ GE110.out) | exact HB.out))) : w.heap.size ≤ gb111)); have n4_ := Aside0.mk ((by rw [hg]; exact (below_size (by repeat (first | (with_reducible first | exact HB.out | apply below_alloc | apply pw_below_drewN | apply below_drew1 | refine below_set ?_ GE110.out) | exact HB.out))) : w.heap.size ≤ gb111)); have n5_ := Aside0.mk ((by rw [hg]; exact Nat.ne_of_lt (blk_lt (g := gb110) (o := .cells #[.slice A0_0 l0_0.length c0_0, .string a0_1, .slice A0_2 l0_2.length c0_2, .int .i64 a0_3, .int .i64 a0_4, .bool a0_5, .slice A0_6 l0_6.length c0_6] 101 (0, 0)) (by (with_reducible repeat (first | refine blk_drewN ?_ _ | refine blk_drew ?_ | refine blk_alloc ?_ _)); exact BK110.out)) : gb110 ≠ gb111)); have n6_ := Aside0.mk ((by rw [hg]; exact Nat.ne_of_gt (blk_lt (g := gb110) (o := .cells #[.slice A0_0 l0_0.length c0_0, .string a0_1, .slice A0_2 l0_2.length c0_2, .int .i64 a0_3, .int .i64 a0_4, .bool a0_5, .slice A0_6 l0_6.length c0_6] 101 (0, 0)) (by (with_reducible repeat (first | refine blk_drewN ?_ _ | refine blk_drew ?_ | refine blk_alloc ?_ _)); exact BK110.out)) : gb111 ≠ gb110)); clear BK110; clear HB; have BK110 := n0_; have HB := n1_; have BK111 := n2_; have GW111 := n3_; have GE111 := n4_; have NB110_111 := n5_; have NB111_110 := n6_; clear n0_ n1_ n2_ n3_ n4_ n5_ n6_; clear hb hbox hg; have hnb6 := NB111_110.out; have hnc6 := NB110_111.out; have hcz7_0 : w5.cell? ⟨gb111, 0, none⟩ = some (.bool true) := (blk_cell BK111.out 0).trans rfl; have hcz7_1 : w5.cell? ⟨gb111, 1, none⟩ = some (.int .i64 a1_1) := (blk_cell BK111.out 1).trans rfl; have hfz7_0 := blk_frozen BK111.out 0; have hfz7_1 := blk_frozen BK111.out 1))
  go_ret
  exact ⟨by first | rfl | (simp [errW_none, errW_some] <;> rfl) | (simp [*, errW_none, errW_some] <;> rfl), by repeat (first | (with_reducible first | exact HB.out | apply below_alloc | apply pw_below_drewN | apply below_drew1 | refine below_set ?_ GE110.out | refine below_set ?_ GE111.out) | exact HB.out)⟩
 ·replace c3 := Bool.eq_false_iff.mpr c3
  subst c3
  have H1 : ((mir_former_scalar.f l0_0 a0_1 l0_2 a0_3 a0_4 a0_5 l0_6 a1_1).bind fun t112 => (some t112)) = some r := by rw [if_neg (show ¬ (false = true) by decide)] at H; exact H
  clear H
  have H := H1
  clear H1
  replace H := Option.bind_eq_some_iff.mp H
  obtain ⟨t112, A80, H⟩ := H
  replace H : (some t112) = some r := H
  have A8 := Aside0.mk A80
  clear A80
  obtain rfl := Option.some.inj H
  go_enter Try.func58, Try.ntmps58
  go_wp2_with (first | ((with_reducible refine gate_dst (N := 2) rfl ?_); refine box_event ?hg (N := 2) ?hd (cs := #[.slice A0_0 l0_0.length c0_0, .string a0_1, .slice A0_2 l0_2.length c0_2, .int .i64 a0_3, .int .i64 a0_4, .bool a0_5, .slice A0_6 l0_6.length c0_6]) (t := 101) ?hr ?_; (case hd => rfl); (case hg => rfl); (case hr => first | (go_simp; done) | (go_simp; rfl)); intro gb110 hg w9 hbox hb; have n0_ := Aside0.mk (below_step (by repeat (first | (with_reducible first | exact HB.out | apply below_alloc | apply pw_below_drewN | apply below_drew1) | exact HB.out)) hb); have n1_ := Aside0.mk (hbox); have n2_ := Aside0.mk ((by rw [hg]; exact (below_size (by repeat (first | (with_reducible first | exact HB.out | apply below_alloc | apply pw_below_drewN | apply below_drew1) | exact HB.out))) : w.heap.size ≤ gb110)); have n3_ := Aside0.mk ((by rw [hg]; exact (below_size (by repeat (first | (with_reducible first | exact HB.out | apply below_alloc | apply pw_below_drewN | apply below_drew1) | exact HB.out))) : w.heap.size ≤ gb110)); clear HB; have HB := n0_; have BK110 := n1_; have GW110 := n2_; have GE110 := n3_; clear n0_ n1_ n2_ n3_; clear hb hbox hg) | ((with_reducible refine gate_dst (N := 3) rfl ?_); refine box_event ?hg (N := 3) ?hd (cs := #[.bool false, .int .i64 a1_1]) (t := 30) ?hr ?_; (case hd => rfl); (case hg => rfl); (case hr => first | (go_simp; done) | (go_simp; rfl)); intro gb111 hg w10 hbox hb; have n0_ := Aside0.mk (blk_below (g := gb110) (o := .cells #[.slice A0_0 l0_0.length c0_0, .string a0_1, .slice A0_2 l0_2.length c0_2, .int .i64 a0_3, .int .i64 a0_4, .bool a0_5, .slice A0_6 l0_6.length c0_6] 101 (0, 0)) (by (with_reducible repeat (first | refine blk_drewN ?_ _ | refine blk_drew ?_ | refine blk_alloc ?_ _)); exact BK110.out) hb); have n1_ := Aside0.mk (below_step (by repeat (first | (with_reducible first | exact HB.out | apply below_alloc | apply pw_below_drewN | apply below_drew1 | refine below_set ?_ GE110.out) | exact HB.out)) hb); have n2_ := Aside0.mk (hbox); have n3_ := Aside0.mk ((by rw [hg]; exact (below_size (by repeat (first | (with_reducible first | exact HB.out | apply below_alloc | apply pw_below_drewN | apply below_drew1 | refine below_set ?_ GE110.out) | exact HB.out))) : w.heap.size ≤ gb111)); have n4_ := Aside0.mk ((by rw [hg]; exact (below_size (by repeat (first | (with_reducible first | exact HB.out | apply below_alloc | apply pw_below_drewN | apply below_drew1 | refine below_set ?_ GE110.out) | exact HB.out))) : w.heap.size ≤ gb111)); have n5_ := Aside0.mk ((by rw [hg]; exact Nat.ne_of_lt (blk_lt (g := gb110) (o := .cells #[.slice A0_0 l0_0.length c0_0, .string a0_1, .slice A0_2 l0_2.length c0_2, .int .i64 a0_3, .int .i64 a0_4, .bool a0_5, .slice A0_6 l0_6.length c0_6] 101 (0, 0)) (by (with_reducible repeat (first | refine blk_drewN ?_ _ | refine blk_drew ?_ | refine blk_alloc ?_ _)); exact BK110.out)) : gb110 ≠ gb111)); have n6_ := Aside0.mk ((by rw [hg]; exact Nat.ne_of_gt (blk_lt (g := gb110) (o := .cells #[.slice A0_0 l0_0.length c0_0, .string a0_1, .slice A0_2 l0_2.length c0_2, .int .i64 a0_3, .int .i64 a0_4, .bool a0_5, .slice A0_6 l0_6.length c0_6] 101 (0, 0)) (by (with_reducible repeat (first | refine blk_drewN ?_ _ | refine blk_drew ?_ | refine blk_alloc ?_ _)); exact BK110.out)) : gb111 ≠ gb110)); clear BK110; clear HB; have BK110 := n0_; have HB := n1_; have BK111 := n2_; have GW111 := n3_; have GE111 := n4_; have NB110_111 := n5_; have NB111_110 := n6_; clear n0_ n1_ n2_ n3_ n4_ n5_ n6_; clear hb hbox hg; have hnb11 := NB111_110.out; have hnc11 := NB110_111.out; have hcz12_0 : w10.cell? ⟨gb111, 0, none⟩ = some (.bool false) := (blk_cell BK111.out 0).trans rfl; have hcz12_1 : w10.cell? ⟨gb111, 1, none⟩ = some (.int .i64 a1_1) := (blk_cell BK111.out 1).trans rfl; have hfz12_0 := blk_frozen BK111.out 0; have hfz12_1 := blk_frozen BK111.out 1; have hcz13_0 : w10.cell? ⟨gb110, 0, none⟩ = some (.slice A0_0 l0_0.length c0_0) := (blk_cell BK110.out 0).trans rfl; have hcz13_1 : w10.cell? ⟨gb110, 1, none⟩ = some (.string a0_1) := (blk_cell BK110.out 1).trans rfl; have hcz13_2 : w10.cell? ⟨gb110, 2, none⟩ = some (.slice A0_2 l0_2.length c0_2) := (blk_cell BK110.out 2).trans rfl; have hcz13_3 : w10.cell? ⟨gb110, 3, none⟩ = some (.int .i64 a0_3) := (blk_cell BK110.out 3).trans rfl; have hcz13_4 : w10.cell? ⟨gb110, 4, none⟩ = some (.int .i64 a0_4) := (blk_cell BK110.out 4).trans rfl; have hcz13_5 : w10.cell? ⟨gb110, 5, none⟩ = some (.bool a0_5) := (blk_cell BK110.out 5).trans rfl; have hcz13_6 : w10.cell? ⟨gb110, 6, none⟩ = some (.slice A0_6 l0_6.length c0_6) := (blk_cell BK110.out 6).trans rfl; have hfz13_0 := blk_frozen BK110.out 0; have hfz13_1 := blk_frozen BK110.out 1; have hfz13_2 := blk_frozen BK110.out 2; have hfz13_3 := blk_frozen BK110.out 3; have hfz13_4 := blk_frozen BK110.out 4; have hfz13_5 := blk_frozen BK110.out 5; have hfz13_6 := blk_frozen BK110.out 6) | (go_at_call 57; (with_reducible refine (mir_former_scalar.calls _ _ l0_0 a0_1 _ _ l0_2 a0_3 a0_4 a0_5 _ _ l0_6 a1_1 t112 _ ?side1 ?side2 ?side3 ?side4 ?side5 ?side6 A8.out).mono ?_); (case side1 => repeat (first | exact (Kd.C_below HR0_0.out HB.out) | (with_reducible refine Kd.C_alloc ?_ _) | (with_reducible refine Kd.C_drewN ?_ _) | (with_reducible refine Kd.C_drew ?_))); (case side2 => exact HC0_0.out); (case side3 => repeat (first | exact (Kd.C_below HR0_2.out HB.out) | (with_reducible refine Kd.C_alloc ?_ _) | (with_reducible refine Kd.C_drewN ?_ _) | (with_reducible refine Kd.C_drew ?_))); (case side4 => exact HC0_2.out); (case side5 => repeat (first | exact (Kd.C_below HR0_6.out HB.out) | (with_reducible refine Kd.C_alloc ?_ _) | (with_reducible refine Kd.C_drewN ?_ _) | (with_reducible refine Kd.C_drew ?_))); (case side6 => exact HC0_6.out); rintro e w14 ⟨rfl, hb⟩; have n0_ := Aside0.mk (blk_below (g := gb110) (o := .cells #[.slice A0_0 l0_0.length c0_0, .string a0_1, .slice A0_2 l0_2.length c0_2, .int .i64 a0_3, .int .i64 a0_4, .bool a0_5, .slice A0_6 l0_6.length c0_6] 101 (0, 0)) (by (with_reducible repeat (first | refine blk_drewN ?_ _ | refine blk_drew ?_ | refine blk_alloc ?_ _)); exact BK110.out) hb); have n1_ := Aside0.mk (blk_below (g := gb111) (o := .cells #[.bool false, .int .i64 a1_1] 30 (0, 0)) (by (with_reducible repeat (first | refine blk_drewN ?_ _ | refine blk_drew ?_ | refine blk_alloc ?_ _)); exact BK111.out) hb); have n2_ := Aside0.mk (below_step (by repeat (first | (with_reducible first | exact HB.out | apply below_alloc | apply pw_below_drewN | apply below_drew1 | refine below_set ?_ GE110.out | refine below_set ?_ GE111.out) | exact HB.out)) hb); clear BK110; clear BK111; clear HB; have BK110 := n0_; have BK111 := n1_; have HB := n2_; clear n0_ n1_ n2_; (try clear hb); (try clear hb2); (try clear hk); (try clear hi)))
  go_ret
  exact ⟨by first | rfl | (simp [errW_none, errW_some] <;> rfl) | (simp [*, errW_none, errW_some] <;> rfl), by repeat (first | (with_reducible first | exact HB.out | apply below_alloc | apply pw_below_drewN | apply below_drew1 | refine below_set ?_ GE110.out | refine below_set ?_ GE111.out) | exact HB.out)⟩
def mir_quotient.f (a0 : Int) (a1 : Int) : Option (Int × Int) := if a1 = 0 then (some ((-1), a0)) else (some (wrap64 (Int.tdiv a0 a1), Int.tmod a0 a1))
set_option maxHeartbeats 8000000 in
set_option maxRecDepth 100000 in
theorem mir_quotient.calls (a0 : Int) (a1 : Int) (r1 : Int) (r2 : Int) (w : World) (h : mir_quotient.f a0 a1 = some (r1, r2)) :
  Calls Try.prog 104 #[.int .i64 a0, .int .i64 a1] w fun e w' => e = .returned (.tuple #[.int .i64 r1, .int .i64 r2]) ∧ Drawn0 w w' := by
 have H : (if a1 = 0 then (some ((-1), a0)) else (some (wrap64 (Int.tdiv a0 a1), Int.tmod a0 a1))) = some (r1, r2) := h
 clear h
 by_cases c3 : a1 = 0
 ·rw [if_pos c3] at H
  have c3b0 : (a1 == 0) = true := beq_iff_eq.mpr c3
  have c3b1 : (a1 != 0) = false := bne_eq_false_iff_eq.mpr c3
  clear c3
  simp only [Option.some.injEq, Prod.mk.injEq] at H
  obtain ⟨rfl, rfl⟩ := H
  go_enter Try.func104, Try.ntmps104
  go_wp2
  repeat (go_quiet (fail); try go_wp2)
  go_ret2
  exact ⟨by first | rfl | (simp; done) | (simp [*]; done), by repeat (first | exact Drawn0.refl _ | apply Drawn0.step)⟩
 ·rw [if_neg c3] at H
  have c3b0 : (a1 == 0) = false := beq_eq_false_iff_ne.mpr c3
  have c3b1 : (a1 != 0) = true := bne_iff_ne.mpr c3
  simp only [Option.some.injEq, Prod.mk.injEq] at H
  obtain ⟨rfl, rfl⟩ := H
  go_enter Try.func104, Try.ntmps104
  go_wp2
  repeat (go_quiet (fail); try go_wp2)
  go_ret2
  exact ⟨by first | rfl | (simp; done) | (simp [*]; done), by repeat (first | exact Drawn0.refl _ | apply Drawn0.step)⟩
def mir_divide.j0 : Nat → ByteArray → Int → Int → Bool → Option (Int)
 | 0, _, _, _, _ => none
 | k + 1, x0, x1, x2, x14 => if x14 = true then ((mir_quotient.f ((x1) % 4294967296) ((x2) % 4294967296)).bind fun bt113 => (if 0 < (x0.size : Int) then (if (bt x0 0) = 100 then (some bt113.1) else (some bt113.2)) else (none))) else ((mir_quotient.f x1 x2).bind fun bt115 => (if 0 < (x0.size : Int) then (if (bt x0 0) = 100 then (some bt115.1) else (some bt115.2)) else (none)))
def mir_divide.f (k : Nat) (a0 : ByteArray) (a1 : Int) (a2 : Int) : Option (Int) := if a0.toList = ([100, 105, 118, 117] : List UInt8) then (mir_divide.j0 k a0 a1 a2 true) else (mir_divide.j0 k a0 a1 a2 (a0.toList == ([114, 101, 109, 117] : List UInt8)))
theorem mir_divide.mono_l : ∀ k, (∀ y0 y1 y2 y3, LeO (mir_divide.j0 k y0 y1 y2 y3) (mir_divide.j0 (k + 1) y0 y1 y2 y3))
 | 0 => fun _ _ _ _ r h => by simp [mir_divide.j0] at h
 | k + 1 => by
  have ih0 := mir_divide.mono_l k
  ·intro y0 y1 y2 y3
   unfold mir_divide.j0
   repeat' first
   | (with_reducible exact ih0 _ _ _ _)
   | (with_reducible exact LeO.refl _)
   | (with_reducible exact LeO.none _)
   | (with_reducible refine LeO.ite ?_ ?_)
   | (with_reducible refine LeO.bind ?_ (fun _ => ?_))
   | exact ih0 _ _ _ _
   | exact LeO.none _
   | refine LeO.ite ?_ ?_
   | refine LeO.bind ?_ (fun _ => ?_)
theorem mir_divide.mono : ∀ a0 a1 a2 k, LeO (mir_divide.f k a0 a1 a2) (mir_divide.f (k + 1) a0 a1 a2) := by
 intro a0 a1 a2 k
 have ih0 := mir_divide.mono_l k
 unfold mir_divide.f
 repeat' first
   | (with_reducible exact ih0 _ _ _ _)
   | (with_reducible exact LeO.refl _)
   | (with_reducible exact LeO.none _)
   | (with_reducible refine LeO.ite ?_ ?_)
   | (with_reducible refine LeO.bind ?_ (fun _ => ?_))
   | exact ih0 _ _ _ _
   | exact LeO.none _
   | refine LeO.ite ?_ ?_
   | refine LeO.bind ?_ (fun _ => ?_)
set_option maxHeartbeats 8000000 in
set_option maxRecDepth 100000 in
theorem mir_divide.calls (k : Nat) (a0 : ByteArray) (a1 : Int) (a2 : Int) (r : Int) (w : World) (h : mir_divide.f k a0 a1 a2 = some r) :
  Calls Try.prog 85 #[.string a0, .int .i64 a1, .int .i64 a2] w fun e w' => e = .returned (.int .i64 r) ∧ Drawn0 w w' := by
 have H : (if a0.toList = ([100, 105, 118, 117] : List UInt8) then (mir_divide.j0 k a0 a1 a2 true) else (mir_divide.j0 k a0 a1 a2 (a0.toList == ([114, 101, 109, 117] : List UInt8)))) = some r := h
 clear h
 have HC4 := Aside0.mk H
 clear H
 go_enter Try.func85, Try.ntmps85
 go_upto_region 1 with (fail)
 go_cut [14] (fun v14 wc => ∃ (kq : Nat) (x14_3 : Bool), v14 = .bool x14_3 ∧ Aside0 (mir_divide.j0 kq a0 a1 a2 x14_3 = some r) ∧ Aside0 (kq ≤ k) ∧ Drawn0 w wc)
 case first =>
  have H := HC4.out
  clear HC4
  by_cases c5 : a0.toList = ([100, 105, 118, 117] : List UInt8)
  ·rw [if_pos c5] at H
   have c5b0 : (a0.toList == ([100, 105, 118, 117] : List UInt8)) = true := beq_iff_eq.mpr c5
   have c5b1 : (a0.toList != ([100, 105, 118, 117] : List UInt8)) = false := bne_eq_false_iff_eq.mpr c5
   clear c5
   (first | rw [c5b0] | (simp only [i64_w, i32_w]; rw [c5b0]) | skip)
   have H' := Aside0.mk H
   clear H
   go_wp2
   go_meet
   case rel => exact ⟨_, (true), (by first | rfl | (simp; done) | (simp [*]; done)), H', ⟨by first | omega | exact Nat.le_refl _⟩, by repeat (first | exact Drawn0.refl _ | apply Drawn0.step)⟩
  ·rw [if_neg c5] at H
   have c5b0 : (a0.toList == ([100, 105, 118, 117] : List UInt8)) = false := beq_eq_false_iff_ne.mpr c5
   have c5b1 : (a0.toList != ([100, 105, 118, 117] : List UInt8)) = true := bne_iff_ne.mpr c5
   (first | rw [c5b0] | (simp only [i64_w, i32_w]; rw [c5b0]) | skip)
   have H' := Aside0.mk H
   clear H
   go_wp2
   go_meet
   case rel => exact ⟨_, ((a0.toList == ([114, 101, 109, 117] : List UInt8))), (by first | rfl | (simp; done) | (simp [*]; done)), H', ⟨by first | omega | exact Nat.le_refl _⟩, by repeat (first | exact Drawn0.refl _ | apply Drawn0.step)⟩
 case rest =>
  clear HC4
  try clear p2
  try clear c5
  try clear c5b0
  try clear c5b1
  obtain ⟨kq, x14_3, rfl, HA, HJ3, ⟨mc3, rfl⟩⟩ := hcut
  cases kq with
  | zero => exact absurd HA.out (by simp [mir_divide.j0])
  | succ kj3 =>
   have H := HA.out
   clear HA
   simp only [mir_divide.j0] at H
   by_cases c6 : x14_3 = true
   ·subst c6
    have H1 : ((mir_quotient.f ((a1) % 4294967296) ((a2) % 4294967296)).bind fun bt113 => (if 0 < (a0.size : Int) then (if (bt a0 0) = 100 then (some bt113.1) else (some bt113.2)) else (none))) = some r := by rw [if_pos rfl] at H; exact H
    clear H
    have H := H1
    clear H1
    replace H := Option.bind_eq_some_iff.mp H
    obtain ⟨⟨t113, t114⟩, A70, H⟩ := H
    replace H : (if 0 < (a0.size : Int) then (if (bt a0 0) = 100 then (some t113) else (some t114)) else (none)) = some r := H
    have A7 := Aside0.mk A70
    clear A70
    by_cases c8 : 0 < (a0.size : Int)
    ·rw [if_pos c8] at H
     have c8b0 : decide (0 < (a0.size : Int)) = true := decide_eq_true c8
     have c8b1 : decide (0 < a0.size) = true := decide_eq_true (by omega)
     clear c8
     by_cases c10 : (bt a0 0) = 100
     ·rw [if_pos c10] at H
      have c10b0 : ((bt a0 0) == 100) = true := beq_iff_eq.mpr c10
      have c10b1 : ((bt a0 0) != 100) = false := bne_eq_false_iff_eq.mpr c10
      clear c10
      obtain rfl := Option.some.inj H
      go_wp2_with (first | ((with_reducible refine gate_callee (f := 104) rfl ?_); refine goesL_ (some 24) rfl rfl Try.func104 (by kernel_rfl) rfl #[.int .i64 ((a1) % 4294967296), .int .i64 ((a2) % 4294967296)] rfl (by (try simp only [List.map_toArray, List.map_cons, List.map_nil]); first | done | rfl | (simp only [List.length_drop, List.length_take]; rfl)) ?_; (with_reducible refine (mir_quotient.calls ((a1) % 4294967296) ((a2) % 4294967296) t113 t114 _ A7.out).mono ?_); rintro e w' ⟨rfl, ⟨nd, rfl⟩⟩; refine ⟨_, rfl, ?_⟩; have p9 : 0 ≤ (0 : Int) := (by omega); have q9 : 0 < a0.size := (by have : (0 : Int) < (a0.size : Int) := of_decide_eq_true (by first | (with_reducible assumption) | assumption); omega); have hx9 : ∀ h : 0 < a0.size, ((a0[0]'h).toNat : Int) = bt a0 0 := bt_at a0 0; clear p9; have qi9 : (0 < (a0.size : Int)) = True := eq_true (of_decide_eq_true (by first | (with_reducible assumption) | assumption)); replace q9 := eq_true q9))
      go_ret
      exact ⟨by first | rfl | (simp; done) | (simp [*]; done), by repeat (first | exact Drawn0.refl _ | apply Drawn0.step)⟩
     ·rw [if_neg c10] at H
      have c10b0 : ((bt a0 0) == 100) = false := beq_eq_false_iff_ne.mpr c10
      have c10b1 : ((bt a0 0) != 100) = true := bne_iff_ne.mpr c10
      obtain rfl := Option.some.inj H
      go_wp2_with (first | ((with_reducible refine gate_callee (f := 104) rfl ?_); refine goesL_ (some 24) rfl rfl Try.func104 (by kernel_rfl) rfl #[.int .i64 ((a1) % 4294967296), .int .i64 ((a2) % 4294967296)] rfl (by (try simp only [List.map_toArray, List.map_cons, List.map_nil]); first | done | rfl | (simp only [List.length_drop, List.length_take]; rfl)) ?_; (with_reducible refine (mir_quotient.calls ((a1) % 4294967296) ((a2) % 4294967296) t113 t114 _ A7.out).mono ?_); rintro e w' ⟨rfl, ⟨nd, rfl⟩⟩; refine ⟨_, rfl, ?_⟩; have p9 : 0 ≤ (0 : Int) := (by omega); have q9 : 0 < a0.size := (by have : (0 : Int) < (a0.size : Int) := of_decide_eq_true (by first | (with_reducible assumption) | assumption); omega); have hx9 : ∀ h : 0 < a0.size, ((a0[0]'h).toNat : Int) = bt a0 0 := bt_at a0 0; clear p9; have qi9 : (0 < (a0.size : Int)) = True := eq_true (of_decide_eq_true (by first | (with_reducible assumption) | assumption)); replace q9 := eq_true q9))
      go_ret
      exact ⟨by first | rfl | (simp; done) | (simp [*]; done), by repeat (first | exact Drawn0.refl _ | apply Drawn0.step)⟩
    ·rw [if_neg c8] at H
     exact absurd H (by simp)
   ·replace c6 := Bool.eq_false_iff.mpr c6
    subst c6
    have H1 : ((mir_quotient.f a1 a2).bind fun bt115 => (if 0 < (a0.size : Int) then (if (bt a0 0) = 100 then (some bt115.1) else (some bt115.2)) else (none))) = some r := by rw [if_neg (show ¬ (false = true) by decide)] at H; exact H
    clear H
    have H := H1
    clear H1
    replace H := Option.bind_eq_some_iff.mp H
    obtain ⟨⟨t115, t116⟩, A110, H⟩ := H
    replace H : (if 0 < (a0.size : Int) then (if (bt a0 0) = 100 then (some t115) else (some t116)) else (none)) = some r := H
    have A11 := Aside0.mk A110
    clear A110
    by_cases c12 : 0 < (a0.size : Int)
    ·rw [if_pos c12] at H
     have c12b0 : decide (0 < (a0.size : Int)) = true := decide_eq_true c12
     have c12b1 : decide (0 < a0.size) = true := decide_eq_true (by omega)
     clear c12
     by_cases c14 : (bt a0 0) = 100
     ·rw [if_pos c14] at H
      have c14b0 : ((bt a0 0) == 100) = true := beq_iff_eq.mpr c14
      have c14b1 : ((bt a0 0) != 100) = false := bne_eq_false_iff_eq.mpr c14
      clear c14
      obtain rfl := Option.some.inj H
      go_wp2_with (first | ((with_reducible refine gate_callee (f := 104) rfl ?_); refine goesL_ (some 24) rfl rfl Try.func104 (by kernel_rfl) rfl #[.int .i64 a1, .int .i64 a2] rfl (by (try simp only [List.map_toArray, List.map_cons, List.map_nil]); first | done | rfl | (simp only [List.length_drop, List.length_take]; rfl)) ?_; (with_reducible refine (mir_quotient.calls a1 a2 t115 t116 _ A11.out).mono ?_); rintro e w' ⟨rfl, ⟨nd, rfl⟩⟩; refine ⟨_, rfl, ?_⟩; have p13 : 0 ≤ (0 : Int) := (by omega); have q13 : 0 < a0.size := (by have : (0 : Int) < (a0.size : Int) := of_decide_eq_true (by first | (with_reducible assumption) | assumption); omega); have hx13 : ∀ h : 0 < a0.size, ((a0[0]'h).toNat : Int) = bt a0 0 := bt_at a0 0; clear p13; have qi13 : (0 < (a0.size : Int)) = True := eq_true (of_decide_eq_true (by first | (with_reducible assumption) | assumption)); replace q13 := eq_true q13))
      go_ret
      exact ⟨by first | rfl | (simp; done) | (simp [*]; done), by repeat (first | exact Drawn0.refl _ | apply Drawn0.step)⟩
     ·rw [if_neg c14] at H
      have c14b0 : ((bt a0 0) == 100) = false := beq_eq_false_iff_ne.mpr c14
      have c14b1 : ((bt a0 0) != 100) = true := bne_iff_ne.mpr c14
      obtain rfl := Option.some.inj H
      go_wp2_with (first | ((with_reducible refine gate_callee (f := 104) rfl ?_); refine goesL_ (some 24) rfl rfl Try.func104 (by kernel_rfl) rfl #[.int .i64 a1, .int .i64 a2] rfl (by (try simp only [List.map_toArray, List.map_cons, List.map_nil]); first | done | rfl | (simp only [List.length_drop, List.length_take]; rfl)) ?_; (with_reducible refine (mir_quotient.calls a1 a2 t115 t116 _ A11.out).mono ?_); rintro e w' ⟨rfl, ⟨nd, rfl⟩⟩; refine ⟨_, rfl, ?_⟩; have p13 : 0 ≤ (0 : Int) := (by omega); have q13 : 0 < a0.size := (by have : (0 : Int) < (a0.size : Int) := of_decide_eq_true (by first | (with_reducible assumption) | assumption); omega); have hx13 : ∀ h : 0 < a0.size, ((a0[0]'h).toNat : Int) = bt a0 0 := bt_at a0 0; clear p13; have qi13 : (0 < (a0.size : Int)) = True := eq_true (of_decide_eq_true (by first | (with_reducible assumption) | assumption)); replace q13 := eq_true q13))
      go_ret
      exact ⟨by first | rfl | (simp; done) | (simp [*]; done), by repeat (first | exact Drawn0.refl _ | apply Drawn0.step)⟩
    ·rw [if_neg c12] at H
     exact absurd H (by simp)
def mir_flag.f (a0 : Bool) : Option (Int) := if a0 = true then (some 1) else (some 0)
set_option maxHeartbeats 8000000 in
set_option maxRecDepth 100000 in
theorem mir_flag.calls (a0 : Bool) (r : Int) (w : World) (h : mir_flag.f a0 = some r) :
  Calls Try.prog 86 #[.bool a0] w fun e w' => e = .returned (.int .i64 r) ∧ Drawn0 w w' := by
 have H : (if a0 = true then (some 1) else (some 0)) = some r := h
 clear h
 by_cases c2 : a0 = true
 ·subst c2
  have H1 : (some 1) = some r := by rw [if_pos rfl] at H; exact H
  clear H
  have H := H1
  clear H1
  obtain rfl := Option.some.inj H
  go_enter Try.func86, Try.ntmps86
  go_wp2
  go_ret
  exact ⟨by first | rfl | (simp; done) | (simp [*]; done), by repeat (first | exact Drawn0.refl _ | apply Drawn0.step)⟩
 ·replace c2 := Bool.eq_false_iff.mpr c2
  subst c2
  have H1 : (some 0) = some r := by rw [if_neg (show ¬ (false = true) by decide)] at H; exact H
  clear H
  have H := H1
  clear H1
  obtain rfl := Option.some.inj H
  go_enter Try.func86, Try.ntmps86
  go_wp2
  go_ret
  exact ⟨by first | rfl | (simp; done) | (simp [*]; done), by repeat (first | exact Drawn0.refl _ | apply Drawn0.step)⟩
end Go.Proofs.Ytpphpcmbpbppoaa.PMirFuel
end
section
namespace Go.Proofs.Ytpphpcmbpbppoaa.PMirFuel
open Go.RowKit Go.Proofs.YtpphpcmbpbppoaaW.PrintWords Go.Proofs.YtpphpcmbpbppoaaW.PrintLast Go.Proofs.YtpphpcmbpbppoaaW.PrintMore
attribute [local go_sem] max2_int min2_int max_two min_two max_three min_three max_four min_four   
set_option linter.unusedVariables false
set_option linter.unusedSimpArgs false
def mir_Do.j0 : Nat → ByteArray → Int → Int → Int → ByteArray → Bool → Option (Int × Bool)
 | 0, _, _, _, _, _, _ => none
 | k + 1, x0, x8, x9, x10, x19, x57 => if x57 = true then ((mir_divide.f k x0 (wrap64 (x8)) (wrap64 (x9))).bind fun t105 => (some (wrap64 (wrap32 (t105)), true))) else (if x19.toList = ([97, 110, 100] : List UInt8) then (some (wrap64 (wrap32 (wrap64 (Go.bits .and .i32 x8 x9))), true)) else (if x19.toList = ([111, 114] : List UInt8) then (some (wrap64 (wrap32 (wrap64 (Go.bits .or .i32 x8 x9))), true)) else (if x19.toList = ([120, 111, 114] : List UInt8) then (some (wrap64 (wrap32 (wrap64 (Go.bits .xor .i32 x8 x9))), true)) else (if x19.toList = ([115, 108, 108] : List UInt8) then (if 0 ≤ x10 then (some (wrap64 (wrap32 (wrap64 (shl .i32 x8 x10))), true)) else (none)) else (if x19.toList = ([115, 114, 108] : List UInt8) then (if 0 ≤ x10 then (some (wrap64 (wrap32 (wrap64 (shr .u32 ((x8) % 4294967296) x10))), true)) else (none)) else (if x19.toList = ([115, 114, 97] : List UInt8) then (if 0 ≤ x10 then (some (wrap64 (wrap32 (wrap64 (shr .i32 x8 x10))), true)) else (none)) else (if x19.toList = ([115, 108, 116] : List UInt8) then ((mir_flag.f (decide (x8 < x9))).bind fun t106 => (some (wrap64 (wrap32 (t106)), true))) else (if x19.toList = ([115, 108, 116, 117] : List UInt8) then ((mir_flag.f (decide (((x8) % 4294967296) < ((x9) % 4294967296)))).bind fun t107 => (some (wrap64 (wrap32 (t107)), true))) else (some (0, false))))))))))
def mir_Do.f (k : Nat) (a0 : ByteArray) (a1 : Int) (a2 : Int) : Option (Int × Bool) := if a0.toList = ([97, 100, 100] : List UInt8) then (some (wrap64 (wrap32 (wrap64 (wrap32 ((wrap32 (a1)) + (wrap32 (a2)))))), true)) else (if a0.toList = ([115, 117, 98] : List UInt8) then (some (wrap64 (wrap32 (wrap64 (wrap32 ((wrap32 (a1)) - (wrap32 (a2)))))), true)) else (if a0.toList = ([109, 117, 108] : List UInt8) then (some (wrap64 (wrap32 (wrap64 (wrap32 ((wrap32 (a1)) * (wrap32 (a2)))))), true)) else (if a0.toList = ([109, 117, 108, 104] : List UInt8) then (some (wrap64 (wrap32 ((wrap64 ((wrap64 (wrap32 (a1))) * (wrap64 (wrap32 (a2))))) / 4294967296)), true)) else (if a0.toList = ([109, 117, 108, 104, 117] : List UInt8) then (some (wrap64 (wrap32 (wrap64 ((IntKind.u64.wrap (((wrap32 (a1)) % 4294967296) * ((wrap32 (a2)) % 4294967296))) / 4294967296))), true)) else (if a0.toList = ([100, 105, 118] : List UInt8) then (mir_Do.j0 k a0 (wrap32 (a1)) (wrap32 (a2)) (Go.bits .and .u64 (IntKind.u64.wrap (wrap32 (a2))) 31) a0 (a0.toList == ([100, 105, 118] : List UInt8))) else (if a0.toList = ([100, 105, 118, 117] : List UInt8) then (mir_Do.j0 k a0 (wrap32 (a1)) (wrap32 (a2)) (Go.bits .and .u64 (IntKind.u64.wrap (wrap32 (a2))) 31) a0 (a0.toList == ([100, 105, 118, 117] : List UInt8))) else (if a0.toList = ([114, 101, 109] : List UInt8) then (mir_Do.j0 k a0 (wrap32 (a1)) (wrap32 (a2)) (Go.bits .and .u64 (IntKind.u64.wrap (wrap32 (a2))) 31) a0 (a0.toList == ([114, 101, 109] : List UInt8))) else (mir_Do.j0 k a0 (wrap32 (a1)) (wrap32 (a2)) (Go.bits .and .u64 (IntKind.u64.wrap (wrap32 (a2))) 31) a0 (a0.toList == ([114, 101, 109, 117] : List UInt8))))))))))
theorem mir_Do.mono_l : ∀ k, (∀ y0 y1 y2 y3 y4 y5, LeO (mir_Do.j0 k y0 y1 y2 y3 y4 y5) (mir_Do.j0 (k + 1) y0 y1 y2 y3 y4 y5))
 | 0 => fun _ _ _ _ _ _ r h => by simp [mir_Do.j0] at h
 | k + 1 => by
  have ih0 := mir_Do.mono_l k
  ·intro y0 y1 y2 y3 y4 y5
   unfold mir_Do.j0
   repeat' first
   | (with_reducible exact ih0 _ _ _ _ _ _)
   | (with_reducible exact mir_divide.mono _ _ _ _)
   | (with_reducible exact LeO.refl _)
   | (with_reducible exact LeO.none _)
   | (with_reducible refine LeO.ite ?_ ?_)
   | (with_reducible refine LeO.bind ?_ (fun _ => ?_))
   | exact ih0 _ _ _ _ _ _
   | exact mir_divide.mono _ _ _ _
   | exact LeO.none _
   | refine LeO.ite ?_ ?_
   | refine LeO.bind ?_ (fun _ => ?_)
theorem mir_Do.mono : ∀ a0 a1 a2 k, LeO (mir_Do.f k a0 a1 a2) (mir_Do.f (k + 1) a0 a1 a2) := by
 intro a0 a1 a2 k
 have ih0 := mir_Do.mono_l k
 unfold mir_Do.f
 repeat' first
   | (with_reducible exact ih0 _ _ _ _ _ _)
   | (with_reducible exact mir_divide.mono _ _ _ _)
   | (with_reducible exact LeO.refl _)
   | (with_reducible exact LeO.none _)
   | (with_reducible refine LeO.ite ?_ ?_)
   | (with_reducible refine LeO.bind ?_ (fun _ => ?_))
   | exact ih0 _ _ _ _ _ _
   | exact mir_divide.mono _ _ _ _
   | exact LeO.none _
   | refine LeO.ite ?_ ?_
   | refine LeO.bind ?_ (fun _ => ?_)
set_option maxHeartbeats 8000000 in
set_option maxRecDepth 100000 in
theorem mir_Do.calls (k : Nat) (a0 : ByteArray) (a1 : Int) (a2 : Int) (r1 : Int) (r2 : Bool) (w : World) (h : mir_Do.f k a0 a1 a2 = some (r1, r2)) :
  Calls Try.prog 59 #[.string a0, .int .i64 a1, .int .i64 a2] w fun e w' => e = .returned (.tuple #[.int .i64 r1, .bool r2]) ∧ Drawn0 w w' := by
 have H : (if a0.toList = ([97, 100, 100] : List UInt8) then (some (wrap64 (wrap32 (wrap64 (wrap32 ((wrap32 (a1)) + (wrap32 (a2)))))), true)) else (if a0.toList = ([115, 117, 98] : List UInt8) then (some (wrap64 (wrap32 (wrap64 (wrap32 ((wrap32 (a1)) - (wrap32 (a2)))))), true)) else (if a0.toList = ([109, 117, 108] : List UInt8) then (some (wrap64 (wrap32 (wrap64 (wrap32 ((wrap32 (a1)) * (wrap32 (a2)))))), true)) else (if a0.toList = ([109, 117, 108, 104] : List UInt8) then (some (wrap64 (wrap32 ((wrap64 ((wrap64 (wrap32 (a1))) * (wrap64 (wrap32 (a2))))) / 4294967296)), true)) else (if a0.toList = ([109, 117, 108, 104, 117] : List UInt8) then (some (wrap64 (wrap32 (wrap64 ((IntKind.u64.wrap (((wrap32 (a1)) % 4294967296) * ((wrap32 (a2)) % 4294967296))) / 4294967296))), true)) else (if a0.toList = ([100, 105, 118] : List UInt8) then (mir_Do.j0 k a0 (wrap32 (a1)) (wrap32 (a2)) (Go.bits .and .u64 (IntKind.u64.wrap (wrap32 (a2))) 31) a0 (a0.toList == ([100, 105, 118] : List UInt8))) else (if a0.toList = ([100, 105, 118, 117] : List UInt8) then (mir_Do.j0 k a0 (wrap32 (a1)) (wrap32 (a2)) (Go.bits .and .u64 (IntKind.u64.wrap (wrap32 (a2))) 31) a0 (a0.toList == ([100, 105, 118, 117] : List UInt8))) else (if a0.toList = ([114, 101, 109] : List UInt8) then (mir_Do.j0 k a0 (wrap32 (a1)) (wrap32 (a2)) (Go.bits .and .u64 (IntKind.u64.wrap (wrap32 (a2))) 31) a0 (a0.toList == ([114, 101, 109] : List UInt8))) else (mir_Do.j0 k a0 (wrap32 (a1)) (wrap32 (a2)) (Go.bits .and .u64 (IntKind.u64.wrap (wrap32 (a2))) 31) a0 (a0.toList == ([114, 101, 109, 117] : List UInt8))))))))))) = some (r1, r2) := h
 clear h
 by_cases c4 : a0.toList = ([97, 100, 100] : List UInt8)
 ·rw [if_pos c4] at H
  have c4b0 : (a0.toList == ([97, 100, 100] : List UInt8)) = true := beq_iff_eq.mpr c4
  have c4b1 : (a0.toList != ([97, 100, 100] : List UInt8)) = false := bne_eq_false_iff_eq.mpr c4
  clear c4
  simp only [Option.some.injEq, Prod.mk.injEq] at H
  obtain ⟨rfl, rfl⟩ := H
  go_enter Try.func59, Try.ntmps59
  go_wp2
  go_ret2
  exact ⟨by first | rfl | (simp; done) | (simp [*]; done), by repeat (first | exact Drawn0.refl _ | apply Drawn0.step)⟩
 ·rw [if_neg c4] at H
  have c4b0 : (a0.toList == ([97, 100, 100] : List UInt8)) = false := beq_eq_false_iff_ne.mpr c4
  have c4b1 : (a0.toList != ([97, 100, 100] : List UInt8)) = true := bne_iff_ne.mpr c4
  by_cases c5 : a0.toList = ([115, 117, 98] : List UInt8)
  ·rw [if_pos c5] at H
   have c5b0 : (a0.toList == ([115, 117, 98] : List UInt8)) = true := beq_iff_eq.mpr c5
   have c5b1 : (a0.toList != ([115, 117, 98] : List UInt8)) = false := bne_eq_false_iff_eq.mpr c5
   clear c5
   simp only [Option.some.injEq, Prod.mk.injEq] at H
   obtain ⟨rfl, rfl⟩ := H
   go_enter Try.func59, Try.ntmps59
   go_wp2
   go_ret2
   exact ⟨by first | rfl | (simp; done) | (simp [*]; done), by repeat (first | exact Drawn0.refl _ | apply Drawn0.step)⟩
  ·rw [if_neg c5] at H
   have c5b0 : (a0.toList == ([115, 117, 98] : List UInt8)) = false := beq_eq_false_iff_ne.mpr c5
   have c5b1 : (a0.toList != ([115, 117, 98] : List UInt8)) = true := bne_iff_ne.mpr c5
   by_cases c6 : a0.toList = ([109, 117, 108] : List UInt8)
   ·rw [if_pos c6] at H
    have c6b0 : (a0.toList == ([109, 117, 108] : List UInt8)) = true := beq_iff_eq.mpr c6
    have c6b1 : (a0.toList != ([109, 117, 108] : List UInt8)) = false := bne_eq_false_iff_eq.mpr c6
    clear c6
    simp only [Option.some.injEq, Prod.mk.injEq] at H
    obtain ⟨rfl, rfl⟩ := H
    go_enter Try.func59, Try.ntmps59
    go_wp2
    go_ret2
    exact ⟨by first | rfl | (simp; done) | (simp [*]; done), by repeat (first | exact Drawn0.refl _ | apply Drawn0.step)⟩
   ·rw [if_neg c6] at H
    have c6b0 : (a0.toList == ([109, 117, 108] : List UInt8)) = false := beq_eq_false_iff_ne.mpr c6
    have c6b1 : (a0.toList != ([109, 117, 108] : List UInt8)) = true := bne_iff_ne.mpr c6
    by_cases c7 : a0.toList = ([109, 117, 108, 104] : List UInt8)
    ·rw [if_pos c7] at H
     have c7b0 : (a0.toList == ([109, 117, 108, 104] : List UInt8)) = true := beq_iff_eq.mpr c7
     have c7b1 : (a0.toList != ([109, 117, 108, 104] : List UInt8)) = false := bne_eq_false_iff_eq.mpr c7
     clear c7
     simp only [Option.some.injEq, Prod.mk.injEq] at H
     obtain ⟨rfl, rfl⟩ := H
     go_enter Try.func59, Try.ntmps59
     go_wp2
     go_ret2
     exact ⟨by first | rfl | (simp; done) | (simp [*]; done), by repeat (first | exact Drawn0.refl _ | apply Drawn0.step)⟩
    ·rw [if_neg c7] at H
     have c7b0 : (a0.toList == ([109, 117, 108, 104] : List UInt8)) = false := beq_eq_false_iff_ne.mpr c7
     have c7b1 : (a0.toList != ([109, 117, 108, 104] : List UInt8)) = true := bne_iff_ne.mpr c7
     by_cases c8 : a0.toList = ([109, 117, 108, 104, 117] : List UInt8)
     ·rw [if_pos c8] at H
      have c8b0 : (a0.toList == ([109, 117, 108, 104, 117] : List UInt8)) = true := beq_iff_eq.mpr c8
      have c8b1 : (a0.toList != ([109, 117, 108, 104, 117] : List UInt8)) = false := bne_eq_false_iff_eq.mpr c8
      clear c8
      simp only [Option.some.injEq, Prod.mk.injEq] at H
      obtain ⟨rfl, rfl⟩ := H
      go_enter Try.func59, Try.ntmps59
      go_wp2
      go_ret2
      exact ⟨by first | rfl | (simp; done) | (simp [*]; done), by repeat (first | exact Drawn0.refl _ | apply Drawn0.step)⟩
     ·rw [if_neg c8] at H
      have c8b0 : (a0.toList == ([109, 117, 108, 104, 117] : List UInt8)) = false := beq_eq_false_iff_ne.mpr c8
      have c8b1 : (a0.toList != ([109, 117, 108, 104, 117] : List UInt8)) = true := bne_iff_ne.mpr c8
      have HC9 := Aside0.mk H
      clear H
      go_enter Try.func59, Try.ntmps59
      go_upto_if 57 with (fail)
      go_cut [57] (fun v57 wc => ∃ (kq : Nat) (x57_8 : Bool), v57 = .bool x57_8 ∧ Aside0 (mir_Do.j0 kq a0 (wrap32 (a1)) (wrap32 (a2)) (Go.bits .and .u64 (IntKind.u64.wrap (wrap32 (a2))) 31) a0 x57_8 = some (r1, r2)) ∧ Aside0 (kq ≤ k) ∧ Drawn0 w wc)
      case first =>
       have H := HC9.out
       clear HC9
       by_cases c10 : a0.toList = ([100, 105, 118] : List UInt8)
       ·rw [if_pos c10] at H
        have c10b0 : (a0.toList == ([100, 105, 118] : List UInt8)) = true := beq_iff_eq.mpr c10
        have c10b1 : (a0.toList != ([100, 105, 118] : List UInt8)) = false := bne_eq_false_iff_eq.mpr c10
        clear c10
        (first | rw [c10b0] | (simp only [i64_w, i32_w]; rw [c10b0]) | skip)
        have H' := Aside0.mk H
        clear H
        go_wp2
        go_meet
        case rel => exact ⟨_, ((a0.toList == ([100, 105, 118] : List UInt8))), (by first | rfl | (simp; done) | (simp [*]; done)), H', ⟨by first | omega | exact Nat.le_refl _⟩, by repeat (first | exact Drawn0.refl _ | apply Drawn0.step)⟩
       ·rw [if_neg c10] at H
        have c10b0 : (a0.toList == ([100, 105, 118] : List UInt8)) = false := beq_eq_false_iff_ne.mpr c10
        have c10b1 : (a0.toList != ([100, 105, 118] : List UInt8)) = true := bne_iff_ne.mpr c10
        (first | rw [c10b0] | (simp only [i64_w, i32_w]; rw [c10b0]) | skip)
        by_cases c11 : a0.toList = ([100, 105, 118, 117] : List UInt8)
        ·rw [if_pos c11] at H
         have c11b0 : (a0.toList == ([100, 105, 118, 117] : List UInt8)) = true := beq_iff_eq.mpr c11
         have c11b1 : (a0.toList != ([100, 105, 118, 117] : List UInt8)) = false := bne_eq_false_iff_eq.mpr c11
         clear c11
         have H' := Aside0.mk H
         clear H
         go_wp2
         go_meet
         case rel => exact ⟨_, ((a0.toList == ([100, 105, 118, 117] : List UInt8))), (by first | rfl | (simp; done) | (simp [*]; done)), H', ⟨by first | omega | exact Nat.le_refl _⟩, by repeat (first | exact Drawn0.refl _ | apply Drawn0.step)⟩
        ·rw [if_neg c11] at H
         have c11b0 : (a0.toList == ([100, 105, 118, 117] : List UInt8)) = false := beq_eq_false_iff_ne.mpr c11
         have c11b1 : (a0.toList != ([100, 105, 118, 117] : List UInt8)) = true := bne_iff_ne.mpr c11
         by_cases c12 : a0.toList = ([114, 101, 109] : List UInt8)
         ·rw [if_pos c12] at H
          have c12b0 : (a0.toList == ([114, 101, 109] : List UInt8)) = true := beq_iff_eq.mpr c12
          have c12b1 : (a0.toList != ([114, 101, 109] : List UInt8)) = false := bne_eq_false_iff_eq.mpr c12
          clear c12
          have H' := Aside0.mk H
          clear H
          go_wp2
          go_meet
          case rel => exact ⟨_, ((a0.toList == ([114, 101, 109] : List UInt8))), (by first | rfl | (simp; done) | (simp [*]; done)), H', ⟨by first | omega | exact Nat.le_refl _⟩, by repeat (first | exact Drawn0.refl _ | apply Drawn0.step)⟩
         ·rw [if_neg c12] at H
          have c12b0 : (a0.toList == ([114, 101, 109] : List UInt8)) = false := beq_eq_false_iff_ne.mpr c12
          have c12b1 : (a0.toList != ([114, 101, 109] : List UInt8)) = true := bne_iff_ne.mpr c12
          have H' := Aside0.mk H
          clear H
          go_wp2
          go_meet
          case rel => exact ⟨_, ((a0.toList == ([114, 101, 109, 117] : List UInt8))), (by first | rfl | (simp; done) | (simp [*]; done)), H', ⟨by first | omega | exact Nat.le_refl _⟩, by repeat (first | exact Drawn0.refl _ | apply Drawn0.step)⟩
      case rest =>
       clear HC9
       try clear c1
       try clear p2
       try clear p3
       try clear c4
       try clear c4b0
       try clear c4b1
       try clear c5
       try clear c5b0
       try clear c5b1
       try clear c6
       try clear c6b0
       try clear c6b1
       try clear p6
       try clear c7
       try clear c7b0
       try clear c7b1
       try clear c8
       try clear c8b0
       try clear c8b1
       try clear c10
       try clear c10b0
       try clear c10b1
       try clear c11
       try clear c11b0
       try clear c11b1
       try clear c12
       try clear c12b0
       try clear c12b1
       obtain ⟨kq, x57_8, rfl, HA, HJ8, ⟨mc8, rfl⟩⟩ := hcut
       cases kq with
       | zero => exact absurd HA.out (by simp [mir_Do.j0])
       | succ kj8 =>
        have H := HA.out
        clear HA
        simp only [mir_Do.j0] at H
        by_cases c13 : x57_8 = true
        ·subst c13
         have H1 : ((mir_divide.f kj8 a0 (wrap64 ((wrap32 (a1)))) (wrap64 ((wrap32 (a2))))).bind fun t105 => (some (wrap64 (wrap32 (t105)), true))) = some (r1, r2) := by rw [if_pos rfl] at H; exact H
         clear H
         have H := H1
         clear H1
         replace H := Option.bind_eq_some_iff.mp H
         obtain ⟨t105, A140, H⟩ := H
         replace H : (some (wrap64 (wrap32 (t105)), true)) = some (r1, r2) := H
         have A14 := Aside0.mk A140
         clear A140
         simp only [Option.some.injEq, Prod.mk.injEq] at H
         obtain ⟨rfl, rfl⟩ := H
         go_wp2_with (first | ((with_reducible refine gate_callee (f := 85) rfl ?_); refine goesL_ (some 67) rfl rfl Try.func85 (by kernel_rfl) rfl #[.string a0, .int .i64 (wrap64 ((wrap32 (a1)))), .int .i64 (wrap64 ((wrap32 (a2))))] rfl (by (try simp only [List.map_toArray, List.map_cons, List.map_nil]); first | done | rfl | (simp only [List.length_drop, List.length_take]; rfl)) ?_; (with_reducible refine (mir_divide.calls kj8 a0 (wrap64 ((wrap32 (a1)))) (wrap64 ((wrap32 (a2)))) t105 _ A14.out).mono ?_); rintro e w' ⟨rfl, ⟨nd, rfl⟩⟩; refine ⟨_, rfl, ?_⟩))
         go_ret2
         exact ⟨by first | rfl | (simp; done) | (simp [*]; done), by repeat (first | exact Drawn0.refl _ | apply Drawn0.step)⟩
        ·replace c13 := Bool.eq_false_iff.mpr c13
         subst c13
         have H1 : (if a0.toList = ([97, 110, 100] : List UInt8) then (some (wrap64 (wrap32 (wrap64 (Go.bits .and .i32 (wrap32 (a1)) (wrap32 (a2))))), true)) else (if a0.toList = ([111, 114] : List UInt8) then (some (wrap64 (wrap32 (wrap64 (Go.bits .or .i32 (wrap32 (a1)) (wrap32 (a2))))), true)) else (if a0.toList = ([120, 111, 114] : List UInt8) then (some (wrap64 (wrap32 (wrap64 (Go.bits .xor .i32 (wrap32 (a1)) (wrap32 (a2))))), true)) else (if a0.toList = ([115, 108, 108] : List UInt8) then (if 0 ≤ (Go.bits .and .u64 (IntKind.u64.wrap (wrap32 (a2))) 31) then (some (wrap64 (wrap32 (wrap64 (shl .i32 (wrap32 (a1)) (Go.bits .and .u64 (IntKind.u64.wrap (wrap32 (a2))) 31)))), true)) else (none)) else (if a0.toList = ([115, 114, 108] : List UInt8) then (if 0 ≤ (Go.bits .and .u64 (IntKind.u64.wrap (wrap32 (a2))) 31) then (some (wrap64 (wrap32 (wrap64 (shr .u32 (((wrap32 (a1))) % 4294967296) (Go.bits .and .u64 (IntKind.u64.wrap (wrap32 (a2))) 31)))), true)) else (none)) else (if a0.toList = ([115, 114, 97] : List UInt8) then (if 0 ≤ (Go.bits .and .u64 (IntKind.u64.wrap (wrap32 (a2))) 31) then (some (wrap64 (wrap32 (wrap64 (shr .i32 (wrap32 (a1)) (Go.bits .and .u64 (IntKind.u64.wrap (wrap32 (a2))) 31)))), true)) else (none)) else (if a0.toList = ([115, 108, 116] : List UInt8) then ((mir_flag.f (decide ((wrap32 (a1)) < (wrap32 (a2))))).bind fun t106 => (some (wrap64 (wrap32 (t106)), true))) else (if a0.toList = ([115, 108, 116, 117] : List UInt8) then ((mir_flag.f (decide ((((wrap32 (a1))) % 4294967296) < (((wrap32 (a2))) % 4294967296)))).bind fun t107 => (some (wrap64 (wrap32 (t107)), true))) else (some (0, false)))))))))) = some (r1, r2) := by rw [if_neg (show ¬ (false = true) by decide)] at H; exact H
         clear H
         have H := H1
         clear H1
         by_cases c15 : a0.toList = ([97, 110, 100] : List UInt8)
         ·rw [if_pos c15] at H
          have c15b0 : (a0.toList == ([97, 110, 100] : List UInt8)) = true := beq_iff_eq.mpr c15
          have c15b1 : (a0.toList != ([97, 110, 100] : List UInt8)) = false := bne_eq_false_iff_eq.mpr c15
          clear c15
          simp only [Option.some.injEq, Prod.mk.injEq] at H
          obtain ⟨rfl, rfl⟩ := H
          go_wp2
          go_ret2
          exact ⟨by first | rfl | (simp; done) | (simp [*]; done), by repeat (first | exact Drawn0.refl _ | apply Drawn0.step)⟩
         ·rw [if_neg c15] at H
          have c15b0 : (a0.toList == ([97, 110, 100] : List UInt8)) = false := beq_eq_false_iff_ne.mpr c15
          have c15b1 : (a0.toList != ([97, 110, 100] : List UInt8)) = true := bne_iff_ne.mpr c15
          by_cases c16 : a0.toList = ([111, 114] : List UInt8)
          ·rw [if_pos c16] at H
           have c16b0 : (a0.toList == ([111, 114] : List UInt8)) = true := beq_iff_eq.mpr c16
           have c16b1 : (a0.toList != ([111, 114] : List UInt8)) = false := bne_eq_false_iff_eq.mpr c16
           clear c16
           simp only [Option.some.injEq, Prod.mk.injEq] at H
           obtain ⟨rfl, rfl⟩ := H
           go_wp2
           go_ret2
           exact ⟨by first | rfl | (simp; done) | (simp [*]; done), by repeat (first | exact Drawn0.refl _ | apply Drawn0.step)⟩
          ·rw [if_neg c16] at H
           have c16b0 : (a0.toList == ([111, 114] : List UInt8)) = false := beq_eq_false_iff_ne.mpr c16
           have c16b1 : (a0.toList != ([111, 114] : List UInt8)) = true := bne_iff_ne.mpr c16
           by_cases c17 : a0.toList = ([120, 111, 114] : List UInt8)
           ·rw [if_pos c17] at H
            have c17b0 : (a0.toList == ([120, 111, 114] : List UInt8)) = true := beq_iff_eq.mpr c17
            have c17b1 : (a0.toList != ([120, 111, 114] : List UInt8)) = false := bne_eq_false_iff_eq.mpr c17
            clear c17
            simp only [Option.some.injEq, Prod.mk.injEq] at H
            obtain ⟨rfl, rfl⟩ := H
            go_wp2
            go_ret2
            exact ⟨by first | rfl | (simp; done) | (simp [*]; done), by repeat (first | exact Drawn0.refl _ | apply Drawn0.step)⟩
           ·rw [if_neg c17] at H
            have c17b0 : (a0.toList == ([120, 111, 114] : List UInt8)) = false := beq_eq_false_iff_ne.mpr c17
            have c17b1 : (a0.toList != ([120, 111, 114] : List UInt8)) = true := bne_iff_ne.mpr c17
            by_cases c18 : a0.toList = ([115, 108, 108] : List UInt8)
            ·rw [if_pos c18] at H
             have c18b0 : (a0.toList == ([115, 108, 108] : List UInt8)) = true := beq_iff_eq.mpr c18
             have c18b1 : (a0.toList != ([115, 108, 108] : List UInt8)) = false := bne_eq_false_iff_eq.mpr c18
             clear c18
             obtain ⟨ji19, hji19⟩ : ∃ j_ : Int, (Go.bits .and .u64 (IntKind.u64.wrap (wrap32 (a2))) 31) = j_ := ⟨_, rfl⟩
             replace H : (if 0 ≤ (ji19) then (some (wrap64 (wrap32 (wrap64 (shl .i32 (wrap32 (a1)) (ji19)))), true)) else (none)) = some (r1, r2) := by first | (rw [hji19] at H; exact H) | (simp only [hji19] at H ⊢; exact H)
             by_cases c20 : 0 ≤ (ji19)
             ·rw [if_pos c20] at H
              have c20b0 := eq_true c20
              have c20b1 : decide (0 ≤ (ji19)) = true := decide_eq_true c20
              clear c20
              obtain ⟨ji21, hji21⟩ : ∃ j_ : Int, (shl .i32 (wrap32 (a1)) (ji19)) = j_ := ⟨_, rfl⟩
              replace H : (some (wrap64 (wrap32 (wrap64 (ji21))), true)) = some (r1, r2) := by first | (rw [hji21] at H; exact H) | (simp only [hji21] at H ⊢; exact H)
              have hji21_ : (IntKind.i32.wrap ((wrap32 (a1)) * 2 ^ min (ji19).toNat 32)) = ji21 := hji21
              have hji21z : (ji19) ≤ 32 → (IntKind.i32.wrap ((wrap32 (a1)) * 2 ^ (ji19).toNat)) = ji21 := shl_small hji21
              have hji21y : (wrap32 ((wrap32 (a1)) * 2 ^ min (ji19).toNat 32)) = ji21 := (i32_w _).symm.trans hji21_
              have hji21x : (ji19) ≤ 32 → (wrap32 ((wrap32 (a1)) * 2 ^ (ji19).toNat)) = ji21 := fun h_ => (i32_w _).symm.trans (hji21z h_)
              simp only [Option.some.injEq, Prod.mk.injEq] at H
              obtain ⟨rfl, rfl⟩ := H
              go_wp2
              go_ret2
              exact ⟨by first | rfl | (simp; done) | (simp only [← hji19, ← hji21] <;> (first | rfl | simp)) | (simp [*]; done), by repeat (first | exact Drawn0.refl _ | apply Drawn0.step)⟩
             ·rw [if_neg c20] at H
              exact absurd H (by simp)
            ·rw [if_neg c18] at H
             have c18b0 : (a0.toList == ([115, 108, 108] : List UInt8)) = false := beq_eq_false_iff_ne.mpr c18
             have c18b1 : (a0.toList != ([115, 108, 108] : List UInt8)) = true := bne_iff_ne.mpr c18
             by_cases c22 : a0.toList = ([115, 114, 108] : List UInt8)
             ·rw [if_pos c22] at H
              have c22b0 : (a0.toList == ([115, 114, 108] : List UInt8)) = true := beq_iff_eq.mpr c22
              have c22b1 : (a0.toList != ([115, 114, 108] : List UInt8)) = false := bne_eq_false_iff_eq.mpr c22
              clear c22
              obtain ⟨ji23, hji23⟩ : ∃ j_ : Int, (Go.bits .and .u64 (IntKind.u64.wrap (wrap32 (a2))) 31) = j_ := ⟨_, rfl⟩
              replace H : (if 0 ≤ (ji23) then (some (wrap64 (wrap32 (wrap64 (shr .u32 (((wrap32 (a1))) % 4294967296) (ji23)))), true)) else (none)) = some (r1, r2) := by first | (rw [hji23] at H; exact H) | (simp only [hji23] at H ⊢; exact H)
              by_cases c24 : 0 ≤ (ji23)
              ·rw [if_pos c24] at H
               have c24b0 := eq_true c24
               have c24b1 : decide (0 ≤ (ji23)) = true := decide_eq_true c24
               clear c24
               obtain ⟨ji25, hji25⟩ : ∃ j_ : Int, (shr .u32 (((wrap32 (a1))) % 4294967296) (ji23)) = j_ := ⟨_, rfl⟩
               replace H : (some (wrap64 (wrap32 (wrap64 (ji25))), true)) = some (r1, r2) := by first | (rw [hji25] at H; exact H) | (simp only [hji25] at H ⊢; exact H)
               have hji25_ : ((((wrap32 (a1))) % 4294967296) / 2 ^ min (ji23).toNat 32) = ji25 := hji25
               have hji25z : (ji23) ≤ 32 → ((((wrap32 (a1))) % 4294967296) / 2 ^ (ji23).toNat) = ji25 := shr_small hji25
               simp only [Option.some.injEq, Prod.mk.injEq] at H
               obtain ⟨rfl, rfl⟩ := H
               go_wp2
               go_ret2
               exact ⟨by first | rfl | (simp; done) | (simp only [← hji23, ← hji25] <;> (first | rfl | simp)) | (simp [*]; done), by repeat (first | exact Drawn0.refl _ | apply Drawn0.step)⟩
              ·rw [if_neg c24] at H
               exact absurd H (by simp)
             ·rw [if_neg c22] at H
              have c22b0 : (a0.toList == ([115, 114, 108] : List UInt8)) = false := beq_eq_false_iff_ne.mpr c22
              have c22b1 : (a0.toList != ([115, 114, 108] : List UInt8)) = true := bne_iff_ne.mpr c22
              by_cases c26 : a0.toList = ([115, 114, 97] : List UInt8)
              ·rw [if_pos c26] at H
               have c26b0 : (a0.toList == ([115, 114, 97] : List UInt8)) = true := beq_iff_eq.mpr c26
               have c26b1 : (a0.toList != ([115, 114, 97] : List UInt8)) = false := bne_eq_false_iff_eq.mpr c26
               clear c26
               obtain ⟨ji27, hji27⟩ : ∃ j_ : Int, (Go.bits .and .u64 (IntKind.u64.wrap (wrap32 (a2))) 31) = j_ := ⟨_, rfl⟩
               replace H : (if 0 ≤ (ji27) then (some (wrap64 (wrap32 (wrap64 (shr .i32 (wrap32 (a1)) (ji27)))), true)) else (none)) = some (r1, r2) := by first | (rw [hji27] at H; exact H) | (simp only [hji27] at H ⊢; exact H)
               by_cases c28 : 0 ≤ (ji27)
               ·rw [if_pos c28] at H
                have c28b0 := eq_true c28
                have c28b1 : decide (0 ≤ (ji27)) = true := decide_eq_true c28
                clear c28
                obtain ⟨ji29, hji29⟩ : ∃ j_ : Int, (shr .i32 (wrap32 (a1)) (ji27)) = j_ := ⟨_, rfl⟩
                replace H : (some (wrap64 (wrap32 (wrap64 (ji29))), true)) = some (r1, r2) := by first | (rw [hji29] at H; exact H) | (simp only [hji29] at H ⊢; exact H)
                have hji29_ : ((wrap32 (a1)) / 2 ^ min (ji27).toNat 32) = ji29 := hji29
                have hji29z : (ji27) ≤ 32 → ((wrap32 (a1)) / 2 ^ (ji27).toNat) = ji29 := shr_small hji29
                simp only [Option.some.injEq, Prod.mk.injEq] at H
                obtain ⟨rfl, rfl⟩ := H
                go_wp2
                go_ret2
                exact ⟨by first | rfl | (simp; done) | (simp only [← hji27, ← hji29] <;> (first | rfl | simp)) | (simp [*]; done), by repeat (first | exact Drawn0.refl _ | apply Drawn0.step)⟩
               ·rw [if_neg c28] at H
                exact absurd H (by simp)
              ·rw [if_neg c26] at H
               have c26b0 : (a0.toList == ([115, 114, 97] : List UInt8)) = false := beq_eq_false_iff_ne.mpr c26
               have c26b1 : (a0.toList != ([115, 114, 97] : List UInt8)) = true := bne_iff_ne.mpr c26
               by_cases c30 : a0.toList = ([115, 108, 116] : List UInt8)
               ·rw [if_pos c30] at H
                have c30b0 : (a0.toList == ([115, 108, 116] : List UInt8)) = true := beq_iff_eq.mpr c30
                have c30b1 : (a0.toList != ([115, 108, 116] : List UInt8)) = false := bne_eq_false_iff_eq.mpr c30
                clear c30
                replace H := Option.bind_eq_some_iff.mp H
                obtain ⟨t106, A310, H⟩ := H
                replace H : (some (wrap64 (wrap32 (t106)), true)) = some (r1, r2) := H
                have A31 := Aside0.mk A310
                clear A310
                simp only [Option.some.injEq, Prod.mk.injEq] at H
                obtain ⟨rfl, rfl⟩ := H
                go_wp2_with (first | ((with_reducible refine gate_callee (f := 86) rfl ?_); refine goesL_ (some 110) rfl rfl Try.func86 (by kernel_rfl) rfl #[.bool (decide ((wrap32 (a1)) < (wrap32 (a2))))] rfl (by (try simp only [List.map_toArray, List.map_cons, List.map_nil]); first | done | rfl | (simp only [List.length_drop, List.length_take]; rfl)) ?_; (with_reducible refine (mir_flag.calls (decide ((wrap32 (a1)) < (wrap32 (a2)))) t106 _ A31.out).mono ?_); rintro e w' ⟨rfl, ⟨nd, rfl⟩⟩; refine ⟨_, rfl, ?_⟩))
                go_ret2
                exact ⟨by first | rfl | (simp; done) | (simp [*]; done), by repeat (first | exact Drawn0.refl _ | apply Drawn0.step)⟩
               ·rw [if_neg c30] at H
                have c30b0 : (a0.toList == ([115, 108, 116] : List UInt8)) = false := beq_eq_false_iff_ne.mpr c30
                have c30b1 : (a0.toList != ([115, 108, 116] : List UInt8)) = true := bne_iff_ne.mpr c30
                by_cases c32 : a0.toList = ([115, 108, 116, 117] : List UInt8)
                ·rw [if_pos c32] at H
                 have c32b0 : (a0.toList == ([115, 108, 116, 117] : List UInt8)) = true := beq_iff_eq.mpr c32
                 have c32b1 : (a0.toList != ([115, 108, 116, 117] : List UInt8)) = false := bne_eq_false_iff_eq.mpr c32
                 clear c32
                 replace H := Option.bind_eq_some_iff.mp H
                 obtain ⟨t107, A330, H⟩ := H
                 replace H : (some (wrap64 (wrap32 (t107)), true)) = some (r1, r2) := H
                 have A33 := Aside0.mk A330
                 clear A330
                 simp only [Option.some.injEq, Prod.mk.injEq] at H
                 obtain ⟨rfl, rfl⟩ := H
                 go_wp2_with (first | ((with_reducible refine gate_callee (f := 86) rfl ?_); refine goesL_ (some 118) rfl rfl Try.func86 (by kernel_rfl) rfl #[.bool (decide ((((wrap32 (a1))) % 4294967296) < (((wrap32 (a2))) % 4294967296)))] rfl (by (try simp only [List.map_toArray, List.map_cons, List.map_nil]); first | done | rfl | (simp only [List.length_drop, List.length_take]; rfl)) ?_; (with_reducible refine (mir_flag.calls (decide ((((wrap32 (a1))) % 4294967296) < (((wrap32 (a2))) % 4294967296))) t107 _ A33.out).mono ?_); rintro e w' ⟨rfl, ⟨nd, rfl⟩⟩; refine ⟨_, rfl, ?_⟩))
                 go_ret2
                 exact ⟨by first | rfl | (simp; done) | (simp [*]; done), by repeat (first | exact Drawn0.refl _ | apply Drawn0.step)⟩
                ·rw [if_neg c32] at H
                 have c32b0 : (a0.toList == ([115, 108, 116, 117] : List UInt8)) = false := beq_eq_false_iff_ne.mpr c32
                 have c32b1 : (a0.toList != ([115, 108, 116, 117] : List UInt8)) = true := bne_iff_ne.mpr c32
                 simp only [Option.some.injEq, Prod.mk.injEq] at H
                 obtain ⟨rfl, rfl⟩ := H
                 go_wp2
                 go_ret2
                 exact ⟨by first | rfl | (simp; done) | (simp [*]; done), by repeat (first | exact Drawn0.refl _ | apply Drawn0.step)⟩
end Go.Proofs.Ytpphpcmbpbppoaa.PMirFuel
end
section
namespace Go.Proofs.Ytpphpcmbpbppoaa.Calm
open Go Go.RowKit
set_option linter.unusedVariables false
section
variable {P : Program} {ops : Array Oper} {C : World → Prop} {B : List PanicEntry → World → Prop}
def preds (ops : Array Oper) (i : Nat) : List Nat := match ops[i]? with | some o => (o.after.toList.filter (Region.binds .any ·)).map (·.on) | none => []
def clos (ops : Array Oper) : Nat → List Nat → List Nat
 | 0, X => X
 | n + 1, X => clos ops n (X ++ X.flatMap (preds ops)).eraseDups
def Closed (ops : Array Oper) (ls : Array Bool) : Prop := ∀ j, ls.getD j false = true → ∀ e ∈ preds ops j, ls.getD e false = true
theorem clos_listed {ls : Array Bool} (hc : Closed ops ls) : ∀ (n : Nat) (X : List Nat), (∀ e ∈ X, ls.getD e false = true) → ∀ e ∈ clos ops n X, ls.getD e false = true
 | 0, _, h => h
 | n + 1, X, h => clos_listed hc n _ (fun e he => by
  rw [List.mem_eraseDups, List.mem_append] at he
  rcases he with he | he
  ·exact h e he
  ·obtain ⟨x, hx, hxe⟩ := List.mem_flatMap.1 he
   exact hc x (h x hx) e hxe)
def lastB (ops : Array Oper) (d : Nat) : Bool := decide (d + 1 = ops.size) && (List.range d).all ((clos ops d (preds ops d)).contains ·)
theorem getD_ft {ls : Array Bool} {i : Nat} (h : ls.getD i false = true) : ls.getD i true = true := by
 rcases Nat.lt_or_ge i ls.size with h' | h'
 ·simp [h'] at h ⊢; exact h
 ·simp [Array.getElem?_eq_none h'] at h
theorem ready_preds {ls : Array Bool} {i : Nat} (h : i ∈ Region.ready .any ops ls) : ∀ e ∈ preds ops i, ls.getD e false = true := by
 obtain ⟨_, o, ho, hall⟩ := mem_ready.1 h
 intro e he
 unfold preds at he
 rw [ho] at he
 obtain ⟨x, hx, rfl⟩ := List.mem_map.1 he
 obtain ⟨hx1, hx2⟩ := List.mem_filter.1 hx
 exact hall x (by simpa using hx1) hx2
theorem closed_set {ls : Array Bool} {i : Nat} (hc : Closed ops ls) (h : i ∈ Region.ready .any ops ls) : Closed ops (ls.setIfInBounds i true) := by
 intro j hj e he
 refine getD_set_true ?_
 by_cases hji : j = i
 ·subst hji; exact ready_preds h e he
 ·refine hc j ?_ e he
  rwa [getD_set_ne false (Ne.symm hji)] at hj
theorem all_listed {ls : Array Bool} {d : Nat} (hB : lastB ops d = true) (hc : Closed ops ls) (h : d ∈ Region.ready .any ops ls) : ∀ k, k < d → ls.getD k false = true := by
 intro k hk
 simp only [lastB, Bool.and_eq_true, List.all_eq_true, List.mem_range] at hB
 exact clos_listed hc d _ (ready_preds h) k (by simpa using hB.2 k hk)
def Fin (P : Program) (ops : Array Oper) (C : World → Prop) (df : List Deferred) (Q : Exit → Act → World → Prop) (d : Nat) (a : Act) : Prop :=
 ∃ o, ops[d]? = some o ∧ Region.wanted o (yielded ops a.tmps) = true ∧ ∀ w, C w → a.defers = df → o.wp P a w (fun a' w' => Q .normal a' w') Q
def anyL (P : Program) (ops : Array Oper) (C : World → Prop) (df : List Deferred) (Q : Exit → Act → World → Prop) (d : Nat) : Nat → Array Bool → Act → Prop
 | 0, _, _ => False
 | n + 1, ls, a => Region.ready .any ops ls ≠ [] ∧ ∀ i ∈ Region.ready .any ops ls,
   (i = d ∧ Fin P ops C df Q d a) ∨ (i ≠ d ∧ ∃ o, ops[i]? = some o ∧ ∃ v, Gives P ops C (fun _ _ => False) o v a ∧ anyL P ops C df Q d n (ls.setIfInBounds i true) (a.put o.dst v))
theorem anyL_sound {Q : Exit → Act → World → Prop} {df : List Deferred} {d : Nat} (hB : lastB ops d = true) :
  ∀ (n : Nat) (ls : Array Bool) (a : Act) (w : World), Closed ops ls → a.defers = df → C w → anyL P ops C df Q d n ls a → wpAny P .any ops Q n ls a w
 | 0, _, _, _, _, _, _, h => h.elim
 | n + 1, ls, a, w, hc, hdf, hw, h => by
  refine ⟨fun h0 => absurd h0 h.1, fun i hi => ?_⟩
  unfold wpOp
  rcases h.2 i hi with ⟨rfl, o, ho, hwant, hf⟩ | ⟨_, o, ho, v, hg, hn⟩
  ·simp only [ho, hwant, if_true]
   refine .inl ?_
   have hall := all_listed hB hc hi
   have hsz : i + 1 = ops.size := by simp only [lastB, Bool.and_eq_true, decide_eq_true_eq] at hB; exact hB.1
   have hr : Region.ready .any ops (ls.setIfInBounds i true) = [] := by
    apply List.eq_nil_iff_forall_not_mem.2
    intro j hj
    obtain ⟨hun, oj, hoj, _⟩ := mem_ready.1 hj
    have hlt : j < ops.size := (Array.getElem?_eq_some_iff.1 hoj).1
    by_cases hji : j = i
    ·subst hji
     have hiun := (mem_ready.1 hi).1
     rcases Nat.lt_or_ge j ls.size with h' | h'
     ·simp [h'] at hun
     ·simp [Array.getElem?_eq_none h'] at hiun
    ·have h1 := getD_ft (hall j (by omega))
     rw [getD_set_ne true (Ne.symm hji)] at hun
     rw [h1] at hun
     cases hun
   refine Oper.wp_mono (fun a' w' hq => ?_) (hf w hw hdf)
   cases n with
   | zero => exact ⟨hr, hq⟩
   | succ n => exact ⟨fun _ => hq, fun k hk => by rw [hr] at hk; cases hk⟩
  ·simp only [ho]
   have hc' := closed_set hc hi
   rcases hg with ⟨hwant, hv⟩ | ⟨hwant, rfl⟩
   ·simp only [hwant, if_true]
    refine .inl ?_
    have hvw := hv w hw
    unfold calmAt at hvw
    unfold Oper.wp
    generalize (execOp a.eval o).run P w = r at *
    cases r with
    | halt x w' => exact hvw.elim
    | ok nx w' =>
     cases nx with
     | value u =>
      obtain ⟨e1, e2⟩ := hvw
      simp only [Oper.upon]
      rw [e1, e2]
      exact anyL_sound hB n _ _ _ hc' ((put_defers _ _ _).trans hdf) hw hn
     | skip =>
      obtain ⟨e1, e2⟩ := hvw
      simp only [Oper.upon]
      rw [e1, e2]
      exact anyL_sound hB n _ _ _ hc' ((put_defers _ _ _).trans hdf) hw hn
     | enter f args =>
      obtain ⟨e1, hcl⟩ := hvw
      simp only [Oper.upon]
      rw [e1]
      refine hcl.mono fun e w'' hh => ?_
      rcases hh with ⟨he, hw''⟩ | ⟨ch, he, hb⟩
      ·subst he
       exact anyL_sound hB n _ _ _ hc' ((put_defers _ _ _).trans hdf) hw'' hn
      ·exact hb.elim
     | _ => exact hvw.elim
   ·simp only [hwant, Bool.false_eq_true, if_false]
    exact anyL_sound hB n _ _ _ hc' ((put_defers _ _ _).trans hdf) hw hn
theorem anyL_first {Q : Exit → Act → World → Prop} {df : List Deferred} {d : Nat} (hB : lastB ops d = true) {i : Nat} {oi : Oper} {v : Value} (hi : ops[i]? = some oi) (hD : i ≠ d) (hsel : ∀ (j : Nat) (o : Oper) cs b, ops[j]? = some o → o.op ≠ .select cs b) :
  ∀ (n : Nat) (ls : Array Bool) (a : Act), Closed ops ls →
   (∀ j oj, ops[j]? = some oj → j ≠ i → ls.getD j true = false → (∀ e ∈ oj.after, Region.binds .any e = true → e.on ≠ i) → oi.apart ops oj = true) →
   i ∈ Region.ready .any ops ls → Gives P ops C (fun _ _ => False) oi v a → anyL P ops C df Q d n (ls.setIfInBounds i true) (a.put oi.dst v) → anyL P ops C df Q d (n + 1) ls a := by
 intro n
 induction n with
 | zero => intro ls a _ _ _ _ H; exact H.elim
 | succ n ih =>
  intro ls a hc hfree hr hy H
  refine ⟨fun h => (by rw [h] at hr; cases hr), fun j hj => ?_⟩
  by_cases hji : j = i
  ·subst hji; exact .inr ⟨hD, oi, hi, v, hy, H⟩
  obtain ⟨hjun, oj, hoj, hall⟩ := mem_ready.1 hj
  by_cases hjd : j = d
  ·subst hjd
   have hlt : i < ops.size := (Array.getElem?_eq_some_iff.1 hi).1
   have hsz : j + 1 = ops.size := by simp only [lastB, Bool.and_eq_true, decide_eq_true_eq] at hB; exact hB.1
   have h1 := getD_ft (all_listed hB hc hj i (by omega))
   have h2 := (mem_ready.1 hr).1
   rw [h1] at h2
   cases h2
  have hnot : ∀ e ∈ oj.after, Region.binds .any e = true → e.on ≠ i := by
   intro e he hb heq
   have h1 := hall e he hb
   have h0 := (mem_ready.1 hr).1
   rw [heq] at h1
   rw [getD_ft h1] at h0
   cases h0
  obtain ⟨a1, a2, a3⟩ := Oper.apart_spec (hfree j oj hoj hji hjun hnot)
  have si := fun cs b => hsel i oi cs b hi
  have sj := fun cs b => hsel j oj cs b hoj
  rcases H.2 j (ready_mono hj hji) with ⟨hd, _⟩ | ⟨hd, o, ho, u, hu, hn⟩
  ·exact absurd hd hjd
  ·obtain rfl : o = oj := Option.some.inj (ho.symm.trans hoj)
   refine .inr ⟨hd, o, ho, u, (Gives.put sj a1).1 hu, ih (ls.setIfInBounds j true) (a.put o.dst u) (closed_set hc hj) ?_ (ready_mono hr (Ne.symm hji)) ((Gives.put si a3).2 hy) ?_⟩
   ·intro k ok hk hki hun hno
    refine hfree k ok hk hki ?_ hno
    by_cases hjk : j = k
    ·subst hjk; exact hjun
    ·rwa [getD_set_ne true hjk] at hun
   ·rw [Array.setIfInBounds_comm _ _ hji, ← Act.put_comm a v u a2]
    exact hn
theorem anyL_lex {Q : Exit → Act → World → Prop} {df : List Deferred} {d : Nat} (hB : lastB ops d = true) (hs : Region.noSelect ops = true) : ∀ (ks : List Nat) (n : Nat) (ls : Array Bool) (a : Act), Closed ops ls → ks.length < n →
  lexK ops (some d) ks ls = true → walk P ops C (fun _ _ => False) (Fin P ops C df Q d) ks a → anyL P ops C df Q d n ls a
 | [], n, ls, a, hc, hn, hL, h => by
  unfold lexK at hL
  have hr : Region.ready .any ops ls = [d] := by simpa using hL
  cases n with
  | zero => simp at hn
  | succ n =>
   refine ⟨by rw [hr]; simp, fun i hi => ?_⟩
   rw [hr] at hi
   obtain rfl : i = d := by simpa using hi
   exact .inl ⟨rfl, h⟩
 | k :: ks, n, ls, a, hc, hn, hL, h => by
  simp only [lexK, Bool.and_eq_true, bne_iff_ne] at hL
  obtain ⟨⟨⟨hr, hf⟩, hd⟩, hL'⟩ := hL
  obtain ⟨o, ho, v, hg, hw⟩ := h
  cases n with
  | zero => simp at hn
  | succ n =>
   have hr' : k ∈ Region.ready .any ops ls := by simpa using hr
   exact anyL_first hB ho (fun e => hd (by rw [e])) (Region.noSelect_spec hs) n ls a hc (Region.free_spec ho hf) hr' hg
    (anyL_lex hB hs ks n _ _ (closed_set hc hr') (by simpa using hn) hL' hw)
theorem region_last {id : Nat} {Q : Exit → Act → World → Prop} {a : Act} {w : World} {l : List Oper} (C : World → Prop) (d : Nat) (hm : P.follows .mixedOrders = true) (hs : Region.noSelect l.toArray = true)
  (hB : (lexK l.toArray (some d) (List.range d) (Array.replicate l.length false) && lastB l.toArray d) = true) (hC : C w.drew)
  (h : walk P l.toArray C (fun _ _ => False) (Fin P l.toArray C a.defers Q d) (List.range d) a) : (Code.region id l.toArray true).wp P Q a w := by
 refine wp_region_any hm ?_
 simp only [Bool.and_eq_true] at hB
 have hsz : d + 1 = l.length := by have := hB.2; simp only [lastB, Bool.and_eq_true, decide_eq_true_eq] at this; simpa using this.1
 refine anyL_sound hB.2 _ _ _ _ ?_ rfl hC ?_
 ·intro j hj
  rcases Nat.lt_or_ge j l.length with h' | h'
  ·simp [h'] at hj
  ·simp [h'] at hj
 exact anyL_lex hB.2 hs (List.range d) l.toArray.size _ a (by intro j hj; rcases Nat.lt_or_ge j l.length with h' | h' <;> simp [h'] at hj) (by simp; omega) (by simpa using hB.1) h
theorem walk_fin {Q : Exit → Act → World → Prop} {df : List Deferred} {a : Act} {d : Nat} {o : Oper} (ho : ops[d]? = some o) (hw : Region.wanted o (yielded ops a.tmps) = true)
  (h : ∀ w, C w → a.defers = df → o.wp P a w (fun a' w' => Q .normal a' w') Q) : walk P ops C (fun _ _ => False) (Fin P ops C df Q d) [] a := ⟨o, ho, hw, h⟩
end
end Go.Proofs.Ytpphpcmbpbppoaa.Calm
end
section
namespace Go.Proofs.Ytpphpcmbpbppoaa.Mach
open Go.RowKit Go.Proofs.YtpphpcmbpbppoaaW.PrintWords Go.Proofs.YtpphpcmbpbppoaaW.PrintLast Go.Proofs.YtpphpcmbpbppoaaW.PrintMore
open Go.Proofs.Ytpphpcmbpbppoaa.Calm
open Go.Proofs.Ytpphpcmbpbppoaa.PMirFuel (S30 S57 S34 S37 S40 S43 S45 S48 k30 k57 k34 k37 k40 k43 k45 k48 rd_T30 rd_T57 rd_T34 rd_T37 rd_T40 rd_T43 rd_T45 rd_T48 at_T30 at_T57 at_T34 at_T40 at_T45 at_T48)
set_option linter.unusedVariables false
set_option linter.unusedSimpArgs false
structure IA (w : World) (p : Addr) (s : S40) (A7 : Option Addr) (c7 : Nat) (A9 : Option Addr) (c9 : Nat) (A15 : Option Addr) (c15 : Nat) (A16 : Option Addr) (c16 : Nat) (A17 : Option Addr) (c17 : Nat) : Prop where
 h0 : w.cell? p = some (.int .i64 s.f0)
 h1 : w.cell? ⟨p.block, p.off + 1, none⟩ = some (.int .i64 s.f1)
 h2 : w.cell? ⟨p.block, p.off + 2, none⟩ = some (.bool s.f2.f0)
 h3 : w.cell? ⟨p.block, p.off + 3, none⟩ = some (.int .i64 s.f2.f1)
 h4 : w.cell? ⟨p.block, p.off + 4, none⟩ = some (.bool s.f3.f0)
 h5 : w.cell? ⟨p.block, p.off + 5, none⟩ = some (.int .i64 s.f3.f1)
 h6 : w.cell? ⟨p.block, p.off + 6, none⟩ = some (.int .i64 s.f4.f0)
 h7 : w.cell? ⟨p.block, p.off + 7, none⟩ = some (.slice A7 s.f4.f1.length c7)
 h8 : w.cell? ⟨p.block, p.off + 8, none⟩ = some (.int .i64 s.f5.f0)
 h9 : w.cell? ⟨p.block, p.off + 9, none⟩ = some (.slice A9 s.f5.f1.length c9)
 h10 : w.cell? ⟨p.block, p.off + 10, none⟩ = some (.int .i64 s.f6)
 h11 : w.cell? ⟨p.block, p.off + 11, none⟩ = some (.string s.f7)
 h12 : w.cell? ⟨p.block, p.off + 12, none⟩ = some (.int .i64 s.f8.f0)
 h13 : w.cell? ⟨p.block, p.off + 13, none⟩ = some (.string s.f8.f1)
 h14 : w.cell? ⟨p.block, p.off + 14, none⟩ = some (.int .i64 s.f8.f2)
 h15 : w.cell? ⟨p.block, p.off + 15, none⟩ = some (.slice A15 s.f8.f3.length c15)
 h16 : w.cell? ⟨p.block, p.off + 16, none⟩ = some (.slice A16 s.f9.length c16)
 h17 : w.cell? ⟨p.block, p.off + 17, none⟩ = some (.slice A17 s.f10.length c17)
 l7 : s.f4.f1.length ≤ c7
 g7 : k57.C w A7 s.f4.f1.length s.f4.f1
 l9 : s.f5.f1.length ≤ c9
 g9 : k57.C w A9 s.f5.f1.length s.f5.f1
 l15 : s.f8.f3.length ≤ c15
 g15 : k37.C w A15 s.f8.f3.length s.f8.f3
 l16 : s.f9.length ≤ c16
 g16 : k30.C w A16 s.f9.length s.f9
 l17 : s.f10.length ≤ c17
 g17 : (Kd.int .i64).C w A17 s.f10.length s.f10
theorem IA.below {w w' : World} {p : Addr} {s : S40} {A7 A9 A15 A16 A17 : Option Addr} {c7 c9 c15 c16 c17 : Nat} (H : IA w p s A7 c7 A9 c9 A15 c15 A16 c16 A17 c17) (hb : Below w.heap.size w w') : IA w' p s A7 c7 A9 c9 A15 c15 A16 c16 A17 c17 :=
 ⟨pwcb hb H.h0, pwcb hb H.h1, pwcb hb H.h2, pwcb hb H.h3, pwcb hb H.h4, pwcb hb H.h5, pwcb hb H.h6, pwcb hb H.h7, pwcb hb H.h8, pwcb hb H.h9, pwcb hb H.h10, pwcb hb H.h11, pwcb hb H.h12, pwcb hb H.h13, pwcb hb H.h14, pwcb hb H.h15, pwcb hb H.h16, pwcb hb H.h17, H.l7, Kd.C_below H.g7 hb, H.l9, Kd.C_below H.g9 hb, H.l15, Kd.C_below H.g15 hb, H.l16, Kd.C_below H.g16 hb, H.l17, Kd.C_below H.g17 hb⟩
theorem IA.of {w : World} {A : Option Addr} {xs : List S40} (h : Kd.C k40 w A xs.length xs) (i : Int) (h0 : 0 ≤ i) (h1 : i < xs.length) : ∃ ad A7 c7 A9 c9 A15 c15 A16 c16 A17 c17, A = some ad ∧ IA w (ad.add (i.toNat * 18)) (rd_T40 xs i) A7 c7 A9 c9 A15 c15 A16 c16 A17 c17 := by
 obtain ⟨ad, A7, c7, A9, c9, A15, c15, A16, c16, A17, c17, e, q0, q1, q2, q3, q4, q5, q6, q7, q8, q9, q10, q11, q12, q13, q14, q15, q16, q17, l7, g7, l9, g9, l15, g15, l16, g16, l17, g17⟩ := at_T40 h i h0 h1
 exact ⟨ad, A7, c7, A9, c9, A15, c15, A16, c16, A17, c17, e, q0, q1, q2, q3, q4, q5, q6, q7, q8, q9, q10, q11, q12, q13, q14, q15, q16, q17, l7, g7, l9, g9, l15, g15, l16, g16, l17, g17⟩
def isetP (st : St) (F : Fr) (s : S40) : Res :=
 match operandP st F s.f2 with
 | none => .halt 4 0 st
 | some v => setP st F s.f1 v
set_option maxRecDepth 100000 in
set_option maxHeartbeats 8000000 in
theorem instr_set {G : Glob} {S : Nat → Prop} {L : Lay} {F : Fr} {st : St} {w : World} (I : In G S L F st w) {p : Addr} {s : S40} {A7 A9 A15 A16 A17 : Option Addr} {c7 c9 c15 c16 c17 : Nat} (H : IA w p s A7 c7 A9 c9 A15 c15 A16 c16 A17 c17) (hop : s.f0 = 1) (ho : OpIn F s.f2) (d0 : 0 ≤ s.f1) (d1 : s.f1 < F.at_.length) :
  Calls Try.prog 82 #[.pointer (some ⟨G.m, 0, none⟩), .pointer (some p)] w (ResPost G S L F (isetP st F s) w) := by
 have II := Aside0.mk I
 have HH := Aside0.mk H
 have h0 := H.h0
 rw [hop] at h0
 have h1 := H.h1
 have h2 := H.h2
 have h3 := H.h3
 cases hv : operandP st F s.f2 with
 | none =>
  have hres : isetP st F s = .halt 4 0 st := by unfold isetP; rw [hv]
  have HR := Aside0.mk hres
  have HV := Aside0.mk hv
  obtain ⟨W, hW⟩ : ∃ W, w.drew = W := ⟨_, rfl⟩
  have bW : Below w.heap.size w W := hW ▸ below_drew (Below.refl _ _)
  have IW := Aside0.mk (II.out.below bW)
  have HW := Aside0.mk hW
  have BW := Aside0.mk bW
  have q1 := pwcb BW.out h1
  have q2 := pwcb BW.out h2
  have q3 := pwcb BW.out h3
  clear I H hop hv hres hW bW h1 h2 h3
  go_enter Try.func82, Try.ntmps82
  go_wp2
  refine region_doomed (fun w' => w'.cell? ⟨p.block, p.off + 1, none⟩ = some (.int .i64 s.f1) ∧ w'.cell? ⟨p.block, p.off + 2, none⟩ = some (.bool s.f2.f0) ∧ w'.cell? ⟨p.block, p.off + 3, none⟩ = some (.int .i64 s.f2.f1) ∧ Aside0 (Below W.heap.size W w'))
   (fun ch w' => ch = [{ v := .iface 95 (.agg #[.int .i64 4, .int .i64 0]), recovered := false }] ∧ Below W.heap.size W w') 10 [0, 1, 2, 3, 4, 5, 6, 7, 8, 9] (by kernel_rfl) (by kernel_rfl) (by kernel_rfl) (by rw [HW.out]; exact ⟨q1, q2, q3, ⟨Below.refl _ _⟩⟩) ?_ ?_
  ·rintro ch a w' hdf ⟨rfl, hb⟩
   exact ⟨hdf, ResPost.halt_ HR.out (Kept.of_below (below_then BW.out BW.out.size hb)) (IW.out.rep.below hb)⟩
  ·skip
   repeat (
    refine walk_ex (by rfl) (by rfl) (by rfl) ?_
    apply Exists.intro
    apply And.intro
    ·rintro w' ⟨k1, k2, k3, kb⟩
     apply calm_value
     go_simp
     with_reducible rfl
    simp only [List.setIfInBounds_toArray, List.set_cons_zero, List.set_cons_succ])
   refine walk_doom (by rfl) (by rfl) ?_
   rintro w' ⟨k1, k2, k3, kb⟩
   apply doom_call
   ·go_simp
    with_reducible exact ⟨rfl, rfl⟩
   ·refine (operand_bad (IW.out.below kb.out) s.f2 ho HV.out).mono ?_
    rintro e w2 ⟨rfl, hb⟩
    exact ⟨_, rfl, rfl, below_then kb.out kb.out.size hb⟩
 | some v =>
  have hres : isetP st F s = setP st F s.f1 v := by unfold isetP; rw [hv]
  rw [hres]
  have HV := Aside0.mk hv
  have HLE := Aside0.mk (operandP_le I hv)
  obtain ⟨W, hW⟩ : ∃ W, w.drew = W := ⟨_, rfl⟩
  have bW : Below w.heap.size w W := hW ▸ below_drew (Below.refl _ _)
  have IW := Aside0.mk (II.out.below bW)
  have HW := Aside0.mk hW
  have BW := Aside0.mk bW
  have q1 := pwcb BW.out h1
  have q2 := pwcb BW.out h2
  have q3 := pwcb BW.out h3
  clear I H hop hv hres hW bW h1 h2 h3
  go_enter Try.func82, Try.ntmps82
  go_wp2
  refine region_last (fun w' => w'.cell? ⟨p.block, p.off + 1, none⟩ = some (.int .i64 s.f1) ∧ w'.cell? ⟨p.block, p.off + 2, none⟩ = some (.bool s.f2.f0) ∧ w'.cell? ⟨p.block, p.off + 3, none⟩ = some (.int .i64 s.f2.f1) ∧ Aside0 (Below W.heap.size W w')) 11 (by kernel_rfl) (by kernel_rfl) (by kernel_rfl) (by rw [HW.out]; exact ⟨q1, q2, q3, ⟨Below.refl _ _⟩⟩) ?_
  simp only [List.range_succ, List.range_zero, List.nil_append, List.cons_append, List.singleton_append]
  repeat (
   refine walk_ex (by rfl) (by rfl) (by rfl) ?_
   apply Exists.intro
   apply And.intro
   ·rintro w' ⟨k1, k2, k3, kb⟩
    apply calm_value
    go_simp
    with_reducible rfl
   simp only [List.setIfInBounds_toArray, List.set_cons_zero, List.set_cons_succ])
  refine walk_ex (by rfl) (by rfl) (by rfl) ?_
  apply Exists.intro
  apply And.intro
  ·rintro w' ⟨k1, k2, k3, kb⟩
   apply calm_call
   ·go_simp
    with_reducible exact ⟨rfl, rfl⟩
   ·refine (operand_ok (IW.out.below kb.out) s.f2 ho HV.out).mono ?_
    rintro e w2 ⟨rfl, hb⟩
    exact .inl ⟨rfl, ⟨pwcb hb k1, pwcb hb k2, pwcb hb k3, ⟨below_then kb.out kb.out.size hb⟩⟩⟩
  simp only [List.setIfInBounds_toArray, List.set_cons_zero, List.set_cons_succ]
  refine walk_fin (by rfl) (by rfl) ?_
  rintro w' ⟨k1, k2, k3, kb⟩ hdf
  have KB := kb
  clear k1 k2 k3 kb
  go_wp2_with (go_at_call 97; refine (mset (IW.out.below KB.out) s.f1 v d0 d1 HLE.out).mono ?_; intro e w2 hp; have HP := Aside0.mk (ResPost.trans (Kept.of_below (below_then BW.out BW.out.size KB.out)) hp); clear hp)
  all_goals first | exact bodyPost_end (results_none rfl _ _ _) rfl (ResPost.norm HP.out) | exact ⟨rfl, HP.out⟩ | exact (ResPost.not_out HP.out).elim
end Go.Proofs.Ytpphpcmbpbppoaa.Mach
end
