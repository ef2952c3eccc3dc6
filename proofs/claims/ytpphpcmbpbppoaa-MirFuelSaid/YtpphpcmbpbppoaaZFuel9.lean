/- Steps toward the law Fuel, merged from several texts (some of them began as the kit's print). No condition. -/
import Derived.Test.YtpphpcmbpbppoaaZFuel8
section
namespace Go.Proofs.Ytpphpcmbpbppoaa.Mach
open Go.RowKit Go.Proofs.YtpphpcmbpbppoaaW.PrintWords Go.Proofs.YtpphpcmbpbppoaaW.PrintLast Go.Proofs.YtpphpcmbpbppoaaW.PrintMore
open Go.Proofs.Ytpphpcmbpbppoaa.Calm
open Go.Proofs.Ytpphpcmbpbppoaa.PMirFuel (S30 S57 S34 S37 S40 S43 S45 S48 k30 k57 k34 k37 k40 k43 k45 k48 rd_T30 rd_T57 rd_T34 rd_T37 rd_T40 rd_T43 rd_T45 rd_T48 at_T30 at_T57 at_T34 at_T40 at_T45 at_T48)
set_option linter.unusedVariables false
set_option linter.unusedSimpArgs false
set_option maxRecDepth 100000 in
set_option maxHeartbeats 8000000 in
theorem call_loud {G : Glob} {S : Nat → Prop} {L : Lay} {F : Fr} {st : St} {w : World} (I : In G S L F st w) {q : Addr} {f : S48} {A1 A5 : Option Addr} {c1 c5 : Nat} (M : MA G.w0 q f A1 c1 A5 c5) (hl : f.f1.length < 100000) (hN : st.stack.length + need f.f1 < 1099511627776)
  (h0 : ∀ k, k ∈ f.f1 → 0 ≤ k) {av : Value} {vs : List Int} (V : ArgsAt S w av vs) (hvn : vs.length ≤ need f.f1) (hq : f.f4 = false)
  (h1 : st.calls < 392) (h2 : st.depth < 48) (hc0 : 0 ≤ st.calls) (hd0 : 0 ≤ st.depth) {X : Runs} (B : EntersOk G q f st vs X) :
  Calls Try.prog 29 #[.pointer (some ⟨G.m, 0, none⟩), .pointer (some q), av] w (CPost G S (fun _ => False) F (callP X st F.held f vs) w) := by
 obtain ⟨aa, ca, rfl, hca, _⟩ := own_form V.own
 have AV := Aside0.mk V
 have BB := Aside0.mk B
 clear V B
 have c10 := I.rep.c10
 have c9 := I.rep.c9
 have c11 := I.c11
 have c6 := I.rep.c6
 have q1 := pwcb I.base M.h1
 have q4 := pwcb I.base M.h4
 rw [hq] at q4
 obtain ⟨As, cs, hsv, _⟩ := own_reads I.rep.stk
 rw [hsv] at c6
 have d1 : decide (st.calls ≥ 392) = false := by simp; omega
 have d2 : decide (st.depth ≥ 48) = false := by simp; omega
 have d0 : (0 : Int) ≤ f.f1.length := by omega
 have II := Aside0.mk I
 have MM := Aside0.mk M
 have HH0 := Aside0.mk h0
 have hmk := print_make_of (P := Try.prog) 126 4 (.bool false) 1 Try.underlying126 info4 rfl (by omega) f.f1.length (by omega)
 have HF : Aside0 (F.xb < w.heap.size ∧ (∀ b, F.atv.ownBlock = some b → b < w.heap.size) ∧ F.hb < w.heap.size) := ⟨I.fr.head.lt, I.fr.lt_at, I.fr.held.lt⟩
 have HS := Aside0.mk I.base.size
 have HLT := Aside0.mk I.lt
 clear I M h0
 go_enter Try.func29, Try.ntmps29
 go_wp2
 go_region_held_law (fun w' => w'.cell? ⟨G.m, 6, none⟩ = some (.slice As st.stack.length cs) ∧ w'.cell? ⟨q.block, q.off + 1, none⟩ = some (.slice A1 f.f1.length c1)) (go_keep) (fail)
 have MK := Aside0.mk (Making.start II.out q f.f1.length)
 generalize ((w.alloc (Obj.cells (madeCells #[Value.bool false] f.f1.length) 4)).alloc (Obj.cells #[.pointer (some q), .slice none 0 0, .int .i64 st.stack.length, .slice (some ⟨w.heap.size, 0, none⟩) f.f1.length f.f1.length] 135)).drew = W1 at MK ⊢
 have q1' := pwcb MK.out.base MM.out.h1
 go_wp2
 go_loopw [10, 55] (fun _ v wr => ∃ i : Int, v = .int .i64 i ∧ 0 ≤ i ∧ i ≤ f.f1.length ∧ Aside0 (∃ atv, Making G S F ⟨w.heap.size + 1, q, atv, w.heap.size, frameAt st.stack.length (f.f1.take i.toNat), st.stack.length, List.replicate f.f1.length false⟩ { st with stack := st.stack ++ List.replicate (need (f.f1.take i.toNat)) 0 } w wr)) (fun _ v _ => f.f1.length - (intOf v).toNat)
 case atStart => exact ⟨0, rfl, by omega, by omega, ⟨_, MK.out⟩⟩
 case round =>
  obtain ⟨i, rfl, hi0, hi1, atv, MK0⟩ := hrel
  have MKr := Aside0.mk MK0
  clear MK0
  by_cases hlt : i < f.f1.length
  ·obtain ⟨S', L', I', hs, a1, a2, a3⟩ := MKr.out.inn
   obtain ⟨As', cs', hsv', _⟩ := own_reads I'.rep.stk
   obtain ⟨N, hNe⟩ : ∃ N, st.stack.length + need (f.f1.take i.toNat) = N := ⟨_, rfl⟩
   have hN1 : N < 1099511627776 := by have := need_take f.f1 i.toNat; omega
   have c6r : wr.cell? ⟨G.m, 6, none⟩ = some (.slice As' N cs') := by
    have := I'.rep.c6
    rw [hsv'] at this
    simpa [hNe] using this
   have cx : wr.cell? ⟨w.heap.size + 1, 1, none⟩ = some atv := by rw [MKr.out.fr.head.cell]; rfl
   obtain ⟨ad, e1, hn⟩ := int_at (Kd.C_below MM.out.g1 I'.base) i hi0 hlt
   have II' := Aside0.mk I'
   clear I' hsv'
   subst e1
   have MA := Aside0.mk (MKr.out.below (below_drew (below_alloc (Below.refl _ wr) (Obj.cells #[.int .i64 (1048576 + 4 * (N : Int))] 3))))
   have C6A := Aside0.mk (pwcb (below_drew (below_alloc (Below.refl _ wr) (Obj.cells #[.int .i64 (1048576 + 4 * (N : Int))] 3))) c6r)
   have hwA : IntKind.i64.wrap (4 * (N : Int)) = 4 * (N : Int) := by rw [IntKind.wrap_i64]; omega
   have hwB : IntKind.i64.wrap (1048576 + 4 * (N : Int)) = 1048576 + 4 * (N : Int) := by rw [IntKind.wrap_i64]; omega
   have hgm : G.m ≠ w.heap.size + 1 := fun e => a1 (e ▸ II'.out.rep.ownM)
   have hgm' : w.heap.size + 1 ≠ G.m := Ne.symm hgm
   obtain ⟨i3, hi3, hz3, hs3, hb3⟩ := info3x
   go_wp2
   refine region_heads 12 14 (fun w' => w'.cell? ⟨w.heap.size + 1, 1, none⟩ = some atv ∧ w'.cell? ⟨G.m, 6, none⟩ = some (.slice As' N cs')) (by kernel_rfl) (by kernel_rfl) (by kernel_rfl) ⟨cx, c6r⟩ (by intro c a a' w1 hd h; simp +zetaDelta only [Exit.then, Exit.inBlock, bodyPost] at h ⊢; simpa [hd] using h) ?_
   simp only [List.length_cons, List.length_nil, Nat.reduceAdd, List.range_succ, List.range_zero, List.nil_append, List.cons_append, List.singleton_append]
   repeat (
    refine heads_ex (by rfl) (by rfl) (by rfl) ?_
    apply Exists.intro
    apply And.intro
    ·rintro w' ⟨k1, k2⟩
     apply VR.mk
     go_simp
     with_reducible rfl
    simp only [List.setIfInBounds_toArray, List.set_cons_zero, List.set_cons_succ])
   refine heads_nil ?_
   refine chain_value (v := .slice (some ⟨wr.heap.size, 0, none⟩) 1 1) (w' := (wr.alloc (Obj.cells #[.int .i64 (1048576 + 4 * (N : Int))] 3)).drew) (by rfl) (by rfl) ?_ ⟨?_, C6A.out⟩ ?_
   ·go_simp
   ·rw [MA.out.fr.head.cell]; rfl
   simp only [List.setIfInBounds_toArray, List.set_cons_zero, List.set_cons_succ]
   refine chain_ex (by rfl) ?_
   refine wp_append_lies _ (.tmp 63) (.tmp 71) 23 (by rfl) 0 3 i3 (.int .i64 0) 1 8 Try.underlying23 hi3 hz3 hs3 hb3 rfl (by omega) atv (frameAt st.stack.length (f.f1.take i.toNat)).length (nums .i64 (frameAt st.stack.length (f.f1.take i.toNat))) (by rfl) MA.out.fr.row ⟨wr.heap.size, 0, none⟩ 1 1 [.int .i64 (1048576 + 4 * (N : Int))] (by rfl) (by rfl) (World.news_of_block (heap_alloc_new wr _)) (by intro u hu; simp at hu; subst hu; rfl) (by omega) (by rw [frameAt_length]; simp [maxLen]; omega) (by rw [frameAt_length]; simp; omega) (Nat.zero_le _) (wr.heap.size + 1) (by simp) ?_
   intro g cap w3 ho3 hg hor hlt3
   obtain ⟨kx1, kx2, kx3⟩ := MA.out.after C6A.out hg
   refine ⟨⟨kx1, kx3⟩, chain_done ?_⟩
   have hl4 : (frameAt st.stack.length (f.f1.take i.toNat) ++ [1048576 + 4 * (N : Int)]).length = (frameAt st.stack.length (f.f1.take i.toNat)).length + 1 := by simp
   have ho4 : w3.ownsRow 0 3 1 (.slice (some ⟨g, 0, none⟩) ((frameAt st.stack.length (f.f1.take i.toNat)).length + 1) cap) (frameAt st.stack.length (f.f1.take i.toNat) ++ [1048576 + 4 * (N : Int)]).length (nums .i64 (frameAt st.stack.length (f.f1.take i.toNat) ++ [1048576 + 4 * (N : Int)])) := by
    rw [hl4]
    simpa [nums] using ho3
   have hat4 : (Value.slice (some ⟨g, 0, none⟩) ((frameAt st.stack.length (f.f1.take i.toNat)).length + 1) cap).ownBlock = atv.ownBlock ∨ ∃ b, (Value.slice (some ⟨g, 0, none⟩) ((frameAt st.stack.length (f.f1.take i.toNat)).length + 1) cap).ownBlock = some b ∧ ((wr.alloc (Obj.cells #[.int .i64 (1048576 + 4 * (N : Int))] 3)).drew).heap.size ≤ b := by
    rcases hor with h | h
    ·exact .inl h.symm
    ·exact .inr ⟨g, rfl, by simp [h]⟩
   have hok4 : ∀ v, v ∈ frameAt st.stack.length (f.f1.take i.toNat) ++ [1048576 + 4 * (N : Int)] → v ≤ 9223372036854775807 := by
    intro v hv
    rcases List.mem_append.1 hv with h | h
    ·have := frameAt_le _ _ v h; omega
    ·obtain rfl : v = 1048576 + 4 * (N : Int) := by simpa using h
     omega
   have MB := Aside0.mk (MA.out.placed HF.out HS.out hg ho4 hat4 hok4)
   obtain ⟨S2, L2, I2, hs2, b1, b2, b3⟩ := MB.out.inn
   have hsv2 : L2.sv = .slice As' N cs' := by
    have h := I2.rep.c6
    have h2 := kx3
    rw [World.cell?_setCell_far _ _ _ _ (Ne.symm hgm)] at h
    exact Option.some.inj (h.symm.trans h2)
   have hso := I2.rep.stk
   rw [hsv2] at hso
   have IB := Aside0.mk I2
   have HSO := Aside0.mk hso
   have hlk : (st.stack ++ List.replicate (need (f.f1.take i.toNat)) (0 : Int)).length = N := by simp [hNe]
   have hk0 : 0 ≤ rd f.f1 i := by
    have h3 : rd f.f1 i ∈ f.f1 := by
     have : i.toNat < f.f1.length := by omega
     simp only [rd, List.getD_eq_getElem?_getD, List.getElem?_eq_getElem this, Option.getD_some]
     exact List.getElem_mem _
    exact HH0.out _ h3
   have hnd : need (f.f1.take (i.toNat + 1)) = need (f.f1.take i.toNat) + (rd f.f1 i).toNat := by
    rw [take_next _ _ (by omega), need_append, show ((i.toNat : Nat) : Int) = i by omega]
    simp [need]
   have hnl := need_take f.f1 (i.toNat + 1)
   clear I2 hso ho3 ho4 hat4 hok4
   go_wp2_with (at_builtin; refine num_zeros (by rfl) (.tmp 79) (.tmp 80) (by rfl) (.slice As' N cs') (st.stack ++ List.replicate (need (f.f1.take i.toNat)) 0) (rd f.f1 i) (by rfl) (by rfl) HSO.out hk0 (by rw [hlk]; omega) ?_; intro v4 w5 ho5 hg5 hat5; have hg6 := (show World.grownBy _ w5 L2.sv.ownBlock from hsv2 ▸ hg5); obtain ⟨k6, f6⟩ := IB.out.m6 hg6; rw [hsv2] at k6; obtain ⟨A4, c4, rfl, _⟩ := own_reads ho5)
   have hok5 : ∀ v, v ∈ st.stack ++ List.replicate (need (f.f1.take i.toNat)) (0 : Int) ++ List.replicate (rd f.f1 i).toNat 0 → v ≤ 9223372036854775807 := by
    intro v hv
    rcases List.mem_append.1 hv with h | h
    ·exact IB.out.rep.okS v h
    ·have := (List.mem_replicate.1 h).2; omega
   have MC := MB.out.stacked IB.out hs2 b1 b2 b3 hg6 ho5 (by rw [hsv2]; exact hat5) hok5
   have nx : (i + 1).toNat = i.toNat + 1 := by omega
   have e1 : frameAt st.stack.length (f.f1.take (i + 1).toNat) = frameAt st.stack.length (f.f1.take i.toNat) ++ [1048576 + 4 * (N : Int)] := by
    rw [nx, take_next _ _ (by omega), frameAt_append, hNe]
   have e2 : st.stack ++ List.replicate (need (f.f1.take (i + 1).toNat)) (0 : Int) = st.stack ++ List.replicate (need (f.f1.take i.toNat)) (0 : Int) ++ List.replicate (rd f.f1 i).toNat 0 := by
    rw [nx, hnd, ← List.replicate_append_replicate, List.append_assoc]
   have e3 : (st.stack ++ List.replicate (need (f.f1.take i.toNat)) (0 : Int) ++ List.replicate (rd f.f1 i).toNat (0 : Int)).length = st.stack.length + (need (f.f1.take i.toNat) + (rd f.f1 i).toNat) := by simp [Nat.add_assoc]
   rw [e3] at MC
   have MD := Aside0.mk MC
   clear MC
   go_roundw
   case measure => simp [intOf]; omega
   case rel =>
    refine ⟨i + 1, by go_num, by omega, by omega, ⟨.slice (some ⟨g, 0, none⟩) ((frameAt st.stack.length (f.f1.take i.toNat)).length + 1) cap, ?_⟩⟩
    rw [e1, e2]
    exact MD.out
  ·have hd : decide (i < (f.f1.length : Int)) = false := decide_eq_false hlt
   have htk : f.f1.take i.toNat = f.f1 := List.take_of_length_le (by omega)
   rw [htk] at MKr
   obtain ⟨S', L', I', hs, a1, a2, a3⟩ := MKr.out.inn
   have cx2 : wr.cell? ⟨w.heap.size + 1, 2, none⟩ = some (.int .i64 st.stack.length) := by rw [MKr.out.fr.head.cell]; rfl
   have hlk : (st.stack ++ List.replicate (need f.f1) (0 : Int)).length = st.stack.length + need f.f1 := by simp
   obtain ⟨As, cs, hsv', hle, hcm, hrow⟩ := own_form I'.rep.stk
   rw [hlk] at hsv' hle hrow
   have s1 : (st.stack.length : Int) ≤ (st.stack.length : Int) + (need f.f1 : Int) := by omega
   have s2 : (0 : Int) ≤ st.stack.length := by omega
   have c6r : wr.cell? ⟨G.m, 6, none⟩ = some (.slice As (st.stack.length + need f.f1) cs) := by
    have := I'.rep.c6
    rw [hsv'] at this
    exact this
   have AV' := Aside0.mk (AV.out.kept MKr.out.kept)
   have II' := Aside0.mk I'
   have HROW := Aside0.mk hrow
   have HSV' := Aside0.mk hsv'
   clear I' hrow hsv'
   go_wp2
   refine region_heads 10 10 (fun w' => w'.cell? ⟨w.heap.size + 1, 2, none⟩ = some (.int .i64 st.stack.length) ∧ w'.cell? ⟨G.m, 6, none⟩ = some (.slice As (st.stack.length + need f.f1) cs)) (by kernel_rfl) (by kernel_rfl) (by kernel_rfl) ⟨cx2, c6r⟩ (by intro c a a' w1 hd h; simp +zetaDelta only [Exit.then, Exit.inBlock, bodyPost] at h ⊢; simpa [hd] using h) ?_
   simp only [List.length_cons, List.length_nil, Nat.reduceAdd, List.range_succ, List.range_zero, List.nil_append, List.cons_append, List.singleton_append]
   repeat (
    refine heads_ex (by rfl) (by rfl) (by rfl) ?_
    apply Exists.intro
    apply And.intro
    ·rintro w' ⟨k1, k2⟩
     apply VR.mk
     go_simp
     with_reducible rfl
    simp only [List.setIfInBounds_toArray, List.set_cons_zero, List.set_cons_succ])
   refine heads_nil (chain_done ?_)
   have MKD := Aside0.mk (MKr.out.below (below_drew (Below.refl _ wr)))
   have CP := Aside0.mk (MKD.out.copied (AV'.out.kept (Kept.of_below (below_drew (Below.refl _ wr)))) hvn (II'.out.drewN 1) hs a1 a2 a3 HSV'.out (if cs = st.stack.length then As else Option.map (fun x => x.add st.stack.length) As) (by intro g h hn; subst h; rw [if_neg hn]; exact addr_at g _))
   have hcl : (nums .i64 vs).length = Nat.min vs.length (need f.f1) := by simp [nums, Nat.min_def]; omega
   generalize (if cs = st.stack.length then As else Option.map (fun x => x.add st.stack.length) As) = dp at CP ⊢
   have hqm : q.block ≠ G.m := fun e => by
    have h3 := World.block_lt_of_cell? _ _ MM.out.h1
    have h4 := II.out.ge _ II.out.rep.ownM
    simp at h3
    omega
   clear cx2 c6r
   refine wpList_copy_two (by rfl) (.tmp 93) (.tmp 94) 23 23 (by rfl) 3 Try.underlying23 info3s dp aa (need f.f1) (cs - st.stack.length) vs.length ca (by rfl) (by rfl) (nums .i64 vs) hcl (fun w' => Making G S F _ _ w w') CP.out.1 CP.out.2.1 CP.out.2.2 ?_
   go_wp2_with (intro w5 MZ0; have MZ := Aside0.mk MZ0; clear MZ0; obtain ⟨S5, L5, I5, hs5, b1, b2, b3⟩ := MZ.out.inn; have k10 := I5.rep.c10; have k9 := I5.rep.c9; have k11 := I5.c11; have z10 := I5.rep.fz 10; have z9 := I5.rep.fz 9; have z11 := I5.rep.fz 11; have k4 := pwcb I5.base MM.out.h4; rw [hq] at k4; have IE := Aside0.mk I5; clear I5)
   have hgm : G.m ≠ w.heap.size + 1 := fun e => b1 (e ▸ IE.out.rep.ownM)
   have hgm' : w.heap.size + 1 ≠ G.m := Ne.symm hgm
   have FR6 := (MZ.out.fr.setCell (a := ⟨G.m, 10, none⟩) hgm' (fun b e h => b3 b e (h ▸ IE.out.rep.ownM)) (fun (e : w.heap.size = G.m) => b2 (e ▸ IE.out.rep.ownM)) (.int .i64 (st.calls + 1))).setCell (a := ⟨G.m, 9, none⟩) hgm' (fun b e h => b3 b e (h ▸ IE.out.rep.ownM)) (fun (e : w.heap.size = G.m) => b2 (e ▸ IE.out.rep.ownM)) (.int .i64 (st.depth + 1))
   have IN6 := Aside0.mk (((IE.out.set_calls (st.calls + 1)).set_depth (st.depth + 1)).swap FR6 b1 b3 b2 HS.out)
   have KP6 := Aside0.mk (((MZ.out.kept.setCell (a := ⟨G.m, 10, none⟩) II.out.rep.ownM (.int .i64 (st.calls + 1))).setCell (a := ⟨G.m, 9, none⟩) II.out.rep.ownM (.int .i64 (st.depth + 1))).setCell (a := ⟨G.m, 11, none⟩) II.out.rep.ownM (.pointer (some ⟨w.heap.size + 1, 0, none⟩)))
   have hen : enterP st f vs = { st with stack := st.stack ++ putP (List.replicate (need f.f1) 0) vs, calls := st.calls + 1, depth := st.depth + 1 } := by simp [enterP, hq]
   have BR := Aside0.mk (BB.out.run S5 L5 _ _ (by rw [hen]; exact IN6.out) rfl rfl rfl)
   clear FR6
   go_wp2_with (go_at_call 55; refine BR.out.mono ?_; intro e w7 hC; rcases CPost.left II.out KP6.out hs5 (Nat.le_refl _) (FrameIs.held IN6.out.fr).lt IN6.out.lt hC with ⟨st7, h7, out7, v7, S7, L7, hr, rfl, hL⟩ | ⟨k7, c7, st7, ch, hr, rfl, hP⟩; have LF := Aside0.mk hL; have hb := BB.out.back _ _ _ hr; rw [hen] at hb; obtain ⟨hb1, hb2, hb3⟩ := hb; have y10 := hL.inn.rep.c10; rw [hb1] at y10; have y9 := hL.inn.rep.c9; rw [hb2] at y9; have y4 := pwcb hL.inn.base MM.out.h4; rw [hq] at y4; have x10 := hL.inn.rep.fz 10; have x9 := hL.inn.rep.fz 9; have x11 := hL.inn.rep.fz 11; have yx := hL.inn.f2; have y11 := hL.inn.c11; obtain ⟨A7, C7, hs7, hle7, hcm7, hrow7⟩ := own_form hL.inn.rep.stk; have y6 := hL.inn.rep.c6; rw [hs7] at y6; clear hL hC)
   ·have I8 := Aside0.mk (((LF.out.back II.out).set_calls st.calls).set_depth st.depth)
    have K8 := Aside0.mk (((LF.out.kept.setCell (a := ⟨G.m, 11, none⟩) II.out.rep.ownM (.pointer (some ⟨F.xb, 0, none⟩))).setCell (a := ⟨G.m, 10, none⟩) II.out.rep.ownM (.int .i64 st.calls)).setCell (a := ⟨G.m, 9, none⟩) II.out.rep.ownM (.int .i64 st.depth))
    have z6 : (((w7.setCell ⟨G.m, 11, none⟩ (.pointer (some ⟨F.xb, 0, none⟩))).setCell ⟨G.m, 10, none⟩ (.int .i64 st.calls)).setCell ⟨G.m, 9, none⟩ (.int .i64 st.depth)).cell? ⟨G.m, 6, none⟩ = some (.slice A7 st7.stack.length C7) := by rw [I8.out.rep.c6, hs7]
    have zx : (((w7.setCell ⟨G.m, 11, none⟩ (.pointer (some ⟨F.xb, 0, none⟩))).setCell ⟨G.m, 10, none⟩ (.int .i64 st.calls)).setCell ⟨G.m, 9, none⟩ (.int .i64 st.depth)).cell? ⟨w.heap.size + 1, 2, none⟩ = some (.int .i64 st.stack.length) := by
     rw [World.cell?_setCell_far _ _ _ _ hgm, World.cell?_setCell_far _ _ _ _ hgm, World.cell?_setCell_far _ _ _ _ hgm]; exact yx
    have OW := Aside0.mk (show (((w7.setCell ⟨G.m, 11, none⟩ (.pointer (some ⟨F.xb, 0, none⟩))).setCell ⟨G.m, 10, none⟩ (.int .i64 st.calls)).setCell ⟨G.m, 9, none⟩ (.int .i64 st.depth)).ownsRow 0 3 1 v7 out7.length (nums .i64 out7) from Rep.row_of_block LF.out.own (fun b e => by
     have hbm : b ≠ G.m := fun h => (LF.out.far b e).1 (h ▸ LF.out.inn.rep.ownM)
     rw [Below.heap_setCell _ _ _ _ hbm, Below.heap_setCell _ _ _ _ hbm, Below.heap_setCell _ _ _ _ hbm]))
    generalize ((w7.setCell ⟨G.m, 11, none⟩ (.pointer (some ⟨F.xb, 0, none⟩))).setCell ⟨G.m, 10, none⟩ (.int .i64 st.calls)).setCell ⟨G.m, 9, none⟩ (.int .i64 st.depth) = w8 at I8 K8 z6 zx OW ⊢
    have hb3' : st.stack.length ≤ st7.stack.length := by rw [hb3]; simp
    have t1 : (st.stack.length : Int) ≤ C7 := by omega
    have t2 : (0 : Int) ≤ st.stack.length := by omega
    clear hrow7
    refine region_last (fun w' => w'.cell? ⟨G.m, 6, none⟩ = some (.slice A7 st7.stack.length C7) ∧ w'.cell? ⟨w.heap.size + 1, 2, none⟩ = some (.int .i64 st.stack.length) ∧ Aside0 (Below w8.drew.heap.size w8.drew w')) 12 (by kernel_rfl) (by kernel_rfl) (by kernel_rfl) ⟨z6, zx, ⟨Below.refl _ _⟩⟩ ?_
    simp only [List.range_succ, List.range_zero, List.nil_append, List.cons_append, List.singleton_append]
    repeat (
     refine walk_ex (by rfl) (by rfl) (by rfl) ?_
     apply Exists.intro
     apply And.intro
     ·rintro w' ⟨k1, k2, kb⟩
      apply calm_value
      go_simp
      with_reducible rfl
     simp only [List.setIfInBounds_toArray, List.set_cons_zero, List.set_cons_succ])
    refine walk_fin (by rfl) (by rfl) ?_
    rintro w' ⟨k1, k2, kb⟩ hdf
    have I9 := Aside0.mk ((I8.out.drewN 1).below kb.out)
    have K9 := Aside0.mk ((K8.out.drewN 1).below kb.out)
    have f6 := I9.out.rep.fz 6
    have KB := kb
    clear k2 kb z6 zx
    go_wp2
    go_ret
    have hcp : callP X st F.held f vs = .ok (leaveP st.stack.length f st7) F.held out7 := by
     unfold callP
     rw [if_neg (by simp [hq]; omega), hr]
    have hlv : leaveP st.stack.length f st7 = { st7 with calls := st.calls, depth := st.depth, stack := st7.stack.take st.stack.length } := by simp [leaveP, hq, hb1, hb2]
    rw [hcp, hlv]
    have hbm : ∀ b, v7.ownBlock = some b → b ≠ G.m := fun b e h => (LF.out.far b e).1 (h ▸ LF.out.inn.rep.ownM)
    exact ⟨(K9.out.setCell (a := ⟨G.m, 6, none⟩) II.out.rep.ownM _).mono (fun b h => .inl h), v7, rfl, Rep.row_of_block OW.out (fun b e => (Below.heap_setCell _ _ _ _ (hbm b e)).trans (KB.out.block b ((Rep.has_own OW.out e).elim fun _ h => h.lt))), LF.out.ok, S7, _, LF.out.hs, I9.out.cut st.stack.length hb3' hs7, fun b e => LF.out.far b e⟩
   ·have hcp : callP X st F.held f vs = .halt k7 c7 st7 := by
     unfold callP
     rw [if_neg (by simp [hq]; omega), hr]
    exact ⟨rfl, by rw [hcp]; exact hP⟩
theorem CPost.halt_ {G : Glob} {S T : Nat → Prop} {L : Lay} {F : Fr} {st : St} {w w' : World} {k c : Int} {r : ResC} {x' : Option Addr} (hr : r = .halt k c st) (K : Kept (fun b => S b ∨ T b) w w') (R : Rep S G.m L x' st w') : CPost G S T F r w (haltE k c) w' := by
 subst hr; exact ⟨K, ⟨_, rfl, .inl rfl⟩, S, L, x', fun _ h => .inl h, R⟩
set_option maxRecDepth 100000 in
set_option maxHeartbeats 2000000 in
theorem call_full {G : Glob} {S : Nat → Prop} {L : Lay} {F : Fr} {st : St} {w : World} (I : In G S L F st w) {q : Addr} {f : S48} {A1 A5 : Option Addr} {c1 c5 : Nat} (M : MA G.w0 q f A1 c1 A5 c5) (av : Value) (vs : List Int) (h1 : 392 ≤ st.calls) {X : Runs} :
  Calls Try.prog 29 #[.pointer (some ⟨G.m, 0, none⟩), .pointer (some q), av] w (CPost G S (fun _ => False) F (callP X st F.held f vs) w) := by
 have c10 := I.rep.c10
 have d1 : decide (st.calls ≥ 392) = true := by simp; omega
 have II := Aside0.mk I
 have hres : callP X st F.held f vs = .halt 2 0 st := by unfold callP; rw [if_pos (.inl h1)]
 clear I M
 go_enter Try.func29, Try.ntmps29
 go_wp2_with (go_at_call 28; refine (stop _ _ _).mono ?_; rintro e w1 ⟨rfl, rfl⟩)
 exact ⟨rfl, CPost.halt_ hres (Kept.refl _ _) II.out.rep⟩
set_option maxRecDepth 100000 in
set_option maxHeartbeats 2000000 in
theorem call_deep {G : Glob} {S : Nat → Prop} {L : Lay} {F : Fr} {st : St} {w : World} (I : In G S L F st w) {q : Addr} {f : S48} {A1 A5 : Option Addr} {c1 c5 : Nat} (M : MA G.w0 q f A1 c1 A5 c5) (av : Value) (vs : List Int) (h1 : st.calls < 392) (hq : f.f4 = false) (h2 : 48 ≤ st.depth) {X : Runs} :
  Calls Try.prog 29 #[.pointer (some ⟨G.m, 0, none⟩), .pointer (some q), av] w (CPost G S (fun _ => False) F (callP X st F.held f vs) w) := by
 have c10 := I.rep.c10
 have c9 := I.rep.c9
 have q4 := pwcb I.base M.h4
 rw [hq] at q4
 have d1 : decide (st.calls ≥ 392) = false := by simp; omega
 have d2 : decide (st.depth ≥ 48) = true := by simp; omega
 have II := Aside0.mk I
 have hres : callP X st F.held f vs = .halt 2 0 st := by unfold callP; rw [if_pos (.inr ⟨hq, h2⟩)]
 clear I M
 go_enter Try.func29, Try.ntmps29
 go_wp2_with (go_at_call 28; refine (stop _ _ _).mono ?_; rintro e w1 ⟨rfl, rfl⟩)
 exact ⟨rfl, CPost.halt_ hres (Kept.refl _ _) II.out.rep⟩
theorem mcall {G : Glob} {S : Nat → Prop} {L : Lay} {F : Fr} {st : St} {w : World} (I : In G S L F st w) {q : Addr} {f : S48} {A1 A5 : Option Addr} {c1 c5 : Nat} (M : MA G.w0 q f A1 c1 A5 c5) (hl : f.f1.length < 100000) (hN : st.stack.length + need f.f1 < 1099511627776)
  (h0 : ∀ k, k ∈ f.f1 → 0 ≤ k) {av : Value} {vs : List Int} (V : ArgsAt S w av vs) (hvn : vs.length ≤ need f.f1) (hc0 : 0 ≤ st.calls) (hd0 : 0 ≤ st.depth) {X : Runs} (B : st.calls < 392 → EntersOk G q f st vs X) :
  Calls Try.prog 29 #[.pointer (some ⟨G.m, 0, none⟩), .pointer (some q), av] w (CPost G S (fun _ => False) F (callP X st F.held f vs) w) := by
 by_cases h1 : st.calls < 392
 ·cases hq : f.f4 with
  | true => exact call_quiet I M hl hN h0 V hvn hq h1 hc0 hd0 (B h1)
  | false =>
   by_cases h2 : st.depth < 48
   ·exact call_loud I M hl hN h0 V hvn hq h1 h2 hc0 hd0 (B h1)
   ·exact call_deep I M av vs h1 hq (by omega)
 ·exact call_full I M av vs (by omega)
theorem AllPost.cases {r : Option (List Int)} {w w' : World} {e : Ending} (h : AllPost r w e w') :
  (r = none ∧ e = haltE 4 0 ∧ Below w.heap.size w w') ∨ ∃ vs v, r = some vs ∧ e = .returned v ∧ Below w.heap.size w w' ∧ w'.ownsRow w.heap.size 3 1 v vs.length (nums .i64 vs) ∧ ∀ x, x ∈ vs → x ≤ 9223372036854775807 := by
 cases r with
 | none => exact .inl ⟨rfl, h.2, h.1⟩
 | some vs => obtain ⟨hb, ⟨v, he, ho⟩, hk⟩ := h; exact .inr ⟨vs, v, rfl, he, hb, ho, hk⟩
theorem ResPost.cases {G : Glob} {S : Nat → Prop} {L : Lay} {F : Fr} {r : Res} {w w' : World} {e : Ending} (h : ResPost G S L F r w e w') :
  (∃ st', r = .ok st' ∧ e = .returned (.tuple #[]) ∧ Kept S w w' ∧ In G S L F st' w') ∨ ∃ k c st' ch, r = .halt k c st' ∧ e = .panicked ch ∧ Kept S w w' ∧ HaltCh ch k c ∧ ∃ x', Rep S G.m L x' st' w' := by
 cases r with
 | ok st => exact .inl ⟨st, rfl, h.2.1, h.1, h.2.2⟩
 | halt k c st => obtain ⟨K, ⟨ch, he, hc⟩, R⟩ := h; exact .inr ⟨k, c, st, ch, rfl, he, K, hc, R⟩
theorem CPost.cases {G : Glob} {S : Nat → Prop} {F : Fr} {r : ResC} {w w' : World} {e : Ending} (h : CPost G S (fun _ => False) F r w e w') :
  (∃ st' held out v S' L', r = .ok st' held out ∧ e = .returned v ∧ Kept S w w' ∧ w'.ownsRow 0 3 1 v out.length (nums .i64 out) ∧ (∀ x, x ∈ out → x ≤ 9223372036854775807) ∧ (∀ b, S' b → S b ∨ w.heap.size ≤ b) ∧ In G S' L' { F with held := held } st' w' ∧ ∀ b, v.ownBlock = some b → ¬ S' b) ∨
  ∃ k c st' ch, r = .halt k c st' ∧ e = .panicked ch ∧ Kept S w w' ∧ HaltCh ch k c ∧ ∃ S' L' x', (∀ b, S' b → S b ∨ w.heap.size ≤ b) ∧ Rep S' G.m L' x' st' w' := by
 have K : Kept S w w' := h.1.mono fun b x => x.elim id False.elim
 cases r with
 | ok st held out => obtain ⟨_, v, he, ho, hk, S', L', hs, I, far⟩ := h; exact .inl ⟨st, held, out, v, S', L', rfl, he, K, ho, hk, hs, I, fun b e => (far b e).1⟩
 | halt k c st => obtain ⟨_, ⟨ch, he, hc⟩, R⟩ := h; exact .inr ⟨k, c, st, ch, rfl, he, K, hc, R⟩
theorem BigPost.halt_ch {G : Glob} {S S' : Nat → Prop} {L' : Lay} {F : Fr} {r : Res2} {w w' : World} {st' : St} {k c : Int} {x' : Option Addr} {ch : List PanicEntry} (h : r = .halt k c st') (hc : HaltCh ch k c) (K : Kept (fun b => S b ∨ b = F.hb) w w') (hs : ∀ b, S' b → S b ∨ w.heap.size ≤ b) (R : Rep S' G.m L' x' st' w') :
  BigPost G S F r w (.panicked ch) w' := by subst h; exact ⟨K, ⟨_, rfl, hc⟩, S', L', x', hs, R⟩
theorem callP_held {X : Runs} {st : St} {held : List Bool} {f : S48} {vs : List Int} {st' : St} {h : List Bool} {out : List Int} (H : callP X st held f vs = .ok st' h out) : h = held := by
 unfold callP at H
 split at H
 ·cases H
 ·split at H
  ·injection H with _ h2 _; exact h2.symm
  ·cases H
theorem settleP_drop {st : St} {F : Fr} {ds vs : List Int} {i : Nat} (h1 : i < ds.length) (h2 : i < vs.length) :
  settleP st F (ds.drop i) (vs.drop i) = match setP st F (rd ds (i : Int)) (rd vs (i : Int)) with
   | .ok st' => settleP st' F (ds.drop (i + 1)) (vs.drop (i + 1))
   | .halt k c st' => .halt k c st' := by
 rw [List.drop_eq_getElem_cons h1, List.drop_eq_getElem_cons h2]
 simp only [settleP, rd, List.getD_eq_getElem?_getD, Int.toNat_natCast, List.getElem?_eq_getElem h1, List.getElem?_eq_getElem h2, Option.getD_some] <;> (cases setP st F ds[i] vs[i] <;> rfl)
theorem row_get {w : World} {base : Nat} {v : Value} {xs : List Int} (h : w.ownsRow base 3 1 v xs.length (nums .i64 xs)) (i : Int) (h0 : 0 ≤ i) (h1 : i < xs.length) : ∃ g cap, v = .slice (some ⟨g, 0, none⟩) xs.length cap ∧ w.cell? ⟨g, i.toNat, none⟩ = some (.int .i64 (rd xs i)) := by
 obtain ⟨g, cap, e, _⟩ := h.form (by omega)
 subst e
 exact ⟨g, cap, rfl, (own_at h i h0 h1).1⟩
theorem In.k1 {G : Glob} {S : Nat → Prop} {L : Lay} {F : Fr} {st : St} {w : World} (I : In G S L F st w) {ad : Addr} (eA : G.lA = some ad) : w.cell? ⟨G.m, 1, none⟩ = some (.slice (some ad) G.l.length G.lc) := by
 have := I.rep.c1
 rw [I.lA, I.ln, I.lc, eA] at this
 exact this
set_option maxRecDepth 100000 in
set_option maxHeartbeats 8000000 in
theorem instr_call {G : Glob} {S : Nat → Prop} {L : Lay} {F : Fr} {st : St} {w : World} (I : In G S L F st w) {p : Addr} {s : S40} {A7 A9 A15 A16 A17 : Option Addr} {c7 c9 c15 c16 c17 : Nat} (H : IA G.w0 p s A7 c7 A9 c9 A15 c15 A16 c16 A17 c17) (hop : s.f0 = 15)
  (HG : Kd.C k48 G.w0 G.lA G.l.length G.l) (hlc : G.l.length ≤ G.lc) (hgl : G.l.length < 4611686018427387904) (hk : 0 ≤ findP G.l s.f7) (h8 : s.f9.length ≤ 8) (h10 : s.f10.length ≤ 8) (hargs : ∀ i, i < s.f9.length → OpIn F (rd_T30 s.f9 (i : Int)))
  (hdst : ∀ i : Int, 0 ≤ i → i < s.f10.length → 0 ≤ rd s.f10 i ∧ rd s.f10 i < F.at_.length) {f : S48} (hf : rd_T48 G.l (findP G.l s.f7) = f)
  (hl : f.f1.length < 100000) (hN : st.stack.length + need f.f1 < 1099511627776) (h0 : ∀ k, k ∈ f.f1 → 0 ≤ k) (hvn : ∀ vs, allP st F s.f9 = some vs → vs.length ≤ need f.f1) (hc0 : 0 ≤ st.calls) (hd0 : 0 ≤ st.depth) {X : Runs}
  (B : ∀ q A1 c1 A5 c5 vs, MA G.w0 q f A1 c1 A5 c5 → allP st F s.f9 = some vs → st.calls < 392 → EntersOk G q f st vs X)
  (hout : ∀ vs st' h out, allP st F s.f9 = some vs → callP X st F.held f vs = .ok st' h out → out.length = s.f10.length) :
  Calls Try.prog 103 #[.pointer (some ⟨G.m, 0, none⟩), .pointer (some p)] w (BigPost G S F (icallP X G.l st F s) w) := by
 have hkb : findP G.l s.f7 < G.l.length := by rcases findP_bounds G.l s.f7 with h | h <;> omega
 obtain ⟨ad, A1, c1, A5, c5, eA, hMA⟩ := MA.of HG (findP G.l s.f7) hk hkb
 rw [hf] at hMA
 have II := Aside0.mk I
 have HH := Aside0.mk H
 have HB := Aside0.mk (fun vs => B _ _ _ _ _ vs hMA)
 have HGA := Aside0.mk HG
 have HMA := Aside0.mk hMA
 have OUT := Aside0.mk hout
 have ARGS := Aside0.mk hargs
 have DST := Aside0.mk hdst
 have HVN := Aside0.mk hvn
 have HN0 := Aside0.mk h0
 have q0 := pwcb I.base H.h0
 rw [hop] at q0
 have q11 := pwcb I.base H.h11
 have q16 := pwcb I.base H.h16
 have q17 := pwcb I.base H.h17
 have k1 : w.cell? ⟨G.m, 1, none⟩ = some (.slice (some ad) G.l.length G.lc) := by
  have := I.rep.c1
  rw [I.lA, I.ln, I.lc, eA] at this
  exact this
 have DS := Aside0.mk (Kd.C_below H.g17 I.base)
 generalize hk0 : findP G.l s.f7 = k0 at *
 have HK0 := Aside0.mk hk0
 clear I H hop B HG hMA hout hargs hdst hvn h0 hk0
 go_enter Try.func103, Try.ntmps103
 go_wp2
 refine region_mix [.h 0, .h 1, .h 2, .h 3, .h 4, .h 5, .h 6, .h 7, .h 8, .h 9, .h 10, .h 11, .h 12, .h 15, .h 16, .h 17, .h 18, .h 19, .h 23, .c 13, .h 14, .c 20, .c 21, .h 22]
  (fun w' => w'.cell? ⟨G.m, 1, none⟩ = some (.slice (some ad) G.l.length G.lc) ∧ w'.cell? ⟨p.block, p.off + 11, none⟩ = some (.string s.f7) ∧ w'.cell? ⟨p.block, p.off + 16, none⟩ = some (.slice A16 s.f9.length c16)) (by kernel_rfl) (by kernel_rfl) ⟨k1, q11, q16⟩
  (by intro c a a' w1 hd h; simp +zetaDelta only [Exit.then, Exit.inBlock, bodyPost] at h ⊢; simpa [hd] using h) ?_
 repeat (
  refine mix_h (by rfl) (by rfl) (by rfl) ?_
  apply Exists.intro
  apply And.intro
  ·rintro w' ⟨k1, k2, k3⟩
   apply VR.mk
   go_simp
   with_reducible rfl
  simp only [List.setIfInBounds_toArray, List.set_cons_zero, List.set_cons_succ])
 have I0 := Aside0.mk (II.out.drewN 1)
 refine mix_call (by rfl) (by rfl) (by rfl) (ER.go (by go_simp; with_reducible exact ⟨rfl, rfl⟩)) ?_
 refine (PMirFuel.mir_find.calls (G.l.length + 1) (some ad) G.lc G.l s.f7 k0 _ (eA ▸ Kd.C_below HGA.out I0.out.base) hlc (HK0.out ▸ find_f G.l s.f7 hgl)).mono ?_
 rintro e w1 ⟨rfl, hd⟩
 have I1 := Aside0.mk (I0.out.below hd.below)
 have hB1 : Below w.heap.size w w1 := below_then (below_drew (Below.refl _ w)) (Nat.le_refl _) hd.below
 refine .inl ⟨_, rfl, ⟨I1.out.k1 eA, pwcb I1.out.base HH.out.h11, pwcb I1.out.base HH.out.h16⟩, ?_⟩
 simp only [List.setIfInBounds_toArray, List.set_cons_zero, List.set_cons_succ]
 refine mix_h (by rfl) (by rfl) (by rfl) ?_
 apply Exists.intro
 apply And.intro
 ·rintro w' ⟨k1, k2, k3⟩
  apply VR.mk
  go_simp
  with_reducible rfl
 simp only [List.setIfInBounds_toArray, List.set_cons_zero, List.set_cons_succ]
 refine mix_call (by rfl) (by rfl) (by rfl) (ER.go (by go_simp; with_reducible exact ⟨rfl, rfl⟩)) ?_
 refine (all_any I1.out A16 c16 s.f9 (Kd.C_below HH.out.g16 I1.out.base) HH.out.l16 h8 ARGS.out _ rfl).mono ?_
 intro e w2 hA
 rcases hA.cases with ⟨hn, rfl, hb⟩ | ⟨vs, v, hv, rfl, hb, ho, hk8⟩
 ·refine .inr ⟨_, rfl, rfl, BigPost.halt_ (L := L) (by have e := (hn : allP st F s.f9 = none); unfold icallP; rw [e]) (below_then hB1 hB1.size hb) (I1.out.rep.below hb)⟩
 have HV := Aside0.mk (show allP st F s.f9 = some vs from hv)
 have I2 := Aside0.mk (I1.out.below hb)
 have hB2 := below_then hB1 hB1.size hb
 have AV : ArgsAt S w2 v vs := ⟨⟨ho.1, ho.2.imp id (fun ⟨g, cap, cur, e, h1, h2⟩ => ⟨g, cap, cur, e, Nat.zero_le _, h2⟩)⟩, fun b e hS => by
  have h1 := own_base ho b e
  have h2 := I1.out.lt b hS
  omega, hk8⟩
 refine .inl ⟨v, rfl, ⟨I2.out.k1 eA, pwcb I2.out.base HH.out.h11, pwcb I2.out.base HH.out.h16⟩, ?_⟩
 simp only [List.setIfInBounds_toArray, List.set_cons_zero, List.set_cons_succ]
 refine mix_call (by rfl) (by rfl) (by rfl) (ER.go (by go_simp; with_reducible exact ⟨rfl, rfl⟩)) ?_
 refine (mcall I2.out HMA.out hl hN HN0.out AV (HVN.out vs HV.out) hc0 hd0 (HB.out vs HV.out)).mono ?_
 intro e w3 hC
 rcases hC.cases with ⟨st3, h3, out, v3, S3, L3, hr, rfl, K3, ho3, hk3, hs3, I3, far3⟩ | ⟨k, c, st3, ch, hr, rfl, K3, hc3, S3, L3, x3, hs3, R3⟩
 rotate_left
 ·exact .inr ⟨_, rfl, rfl, BigPost.halt_ch (by unfold icallP; rw [HV.out, HK0.out, hf]; show (match callP X st F.held f vs with | .ok st' _ out => (settleP st' F s.f10 out).big F.held | .halt k c st' => .halt k c st') = _; rw [hr]) hc3 (((Kept.of_below hB2).then_ K3).mono fun b h => .inl h) (fun b h => (hs3 b h).imp id (fun x => Nat.le_trans hB2.size x)) R3⟩
 obtain rfl : h3 = F.held := callP_held hr
 obtain ⟨A3, C3, rfl, hle3, _⟩ := own_form ho3
 have hlo' := OUT.out vs _ _ _ HV.out hr
 have hm3 : out.length ≤ 8 := by omega
 have HLO := Aside0.mk hlo'
 clear hlo' h10
 have I3' := Aside0.mk (show In G S3 L3 F st3 w3 from I3)
 have HRES := Aside0.mk (show icallP X G.l st F s = (settleP st3 F s.f10 out).big F.held by unfold icallP; rw [HV.out, HK0.out, hf]; show (match callP X st F.held f vs with | .ok st' _ out => (settleP st' F s.f10 out).big F.held | .halt k c st' => .halt k c st') = _; rw [hr])
 refine .inl ⟨_, rfl, ⟨I3'.out.k1 eA, pwcb I3'.out.base HH.out.h11, pwcb I3'.out.base HH.out.h16⟩, ?_⟩
 have KW := Aside0.mk (((Kept.of_below hB2).then_ K3).mono (S' := fun b => S b ∨ b = F.hb) fun b h => .inl h)
 have HS3 := Aside0.mk (fun b (h : S3 b) => (hs3 b h).imp id (fun x => Nat.le_trans hB2.size x))
 have OW3 := Aside0.mk ho3
 have FAR := Aside0.mk far3
 have HK3 := Aside0.mk hk3
 clear hC hr K3 ho3 hk3 hs3 I3 far3 AV hB2 hb ho hk8 hv hA hB1 hd
 simp only [List.setIfInBounds_toArray, List.set_cons_zero, List.set_cons_succ]
 refine mix_h (by rfl) (by rfl) (by rfl) ?_
 apply Exists.intro
 apply And.intro
 ·rintro w' ⟨k1, k2, k3⟩
  apply VR.mk
  go_simp
  with_reducible rfl
 simp only [List.setIfInBounds_toArray, List.set_cons_zero, List.set_cons_succ]
 refine mix_nil ?_
 go_wp2
 go_loopw [6, 7, 182] (fun _ _ v wr => ∃ i : Int, v = .int .i64 i ∧ 0 ≤ i ∧ i ≤ out.length ∧ Aside0 (∃ sti, settleP st3 F s.f10 out = settleP sti F (s.f10.drop i.toNat) (out.drop i.toNat) ∧ In G S3 L3 F sti wr) ∧ Aside0 (Kept (fun b => S b ∨ b = F.hb) w wr) ∧ Aside0 (wr.ownsRow 0 3 1 (.slice A3 out.length C3) out.length (nums .i64 out))) (fun _ _ v _ => out.length - (intOf v).toNat)
 case atStart => exact ⟨0, rfl, by omega, by omega, ⟨st3, by simp, I3'.out⟩, KW, OW3⟩
 case round =>
  obtain ⟨i, rfl, hi0, hi1, ⟨sti, hset, IR0⟩, KR, OR⟩ := hrel
  have HSET := Aside0.mk hset
  have IR := Aside0.mk IR0
  clear hset IR0
  by_cases hlt : i < out.length
  ·obtain ⟨a17, e17, hn17⟩ := int_at (Kd.C_below HH.out.g17 IR.out.base) i hi0 (by rw [← HLO.out]; exact hlt)
   obtain ⟨g3, c3, e3, hn3⟩ := row_get OR.out i hi0 hlt
   obtain ⟨rfl, rfl⟩ : A3 = some ⟨g3, 0, none⟩ ∧ C3 = c3 := by injection e3 with e1 _ e2; exact ⟨e1, e2⟩
   have q17' := pwcb IR.out.base HH.out.h17
   rw [e17] at q17'
   have hd17 := DST.out i hi0 (by rw [← HLO.out]; exact hlt)
   have hdr := settleP_drop (st := sti) (F := F) (ds := s.f10) (vs := out) (i := i.toNat) (by rw [← HLO.out]; omega) (by omega)
   rw [show ((i.toNat : Nat) : Int) = i by omega] at hdr
   have HDR := Aside0.mk hdr
   have hle : rd out i ≤ 9223372036854775807 := by
    have h2 : i.toNat < out.length := by omega
    simp only [rd, List.getD_eq_getElem?_getD, List.getElem?_eq_getElem h2, Option.getD_some]
    exact HK3.out _ (List.getElem_mem _)
   have hl17 : i < s.f10.length := by rw [← HLO.out]; exact hlt
   clear hdr
   go_wp2_with (go_at_call 97; refine (mset IR.out (rd s.f10 i) (rd out i) hd17.1 hd17.2 hle).mono ?_; intro e w4 hp; rcases hp.cases with ⟨st4, hr4, rfl, K4, I4⟩ | ⟨k, c, st4, ch, hr4, rfl, K4, hc4, R4⟩)
   ·have KR' : Kept (fun b => S b ∨ b = F.hb) w w4 := KR.out.trans (K4.mono fun b h => (HS3.out b h).elim (fun x => .inl (.inl x)) (fun x => .inr ⟨x, IR.out.lt b h⟩))
    have OR' : w4.ownsRow 0 3 1 (.slice (some ⟨g3, 0, none⟩) out.length C3) out.length (nums .i64 out) := Rep.row_of_block OR.out (fun b e => K4.block b ((Rep.has_own OR.out e).elim fun _ h => h.lt) (FAR.out b e))
    have ST' : settleP st3 F s.f10 out = settleP st4 F (s.f10.drop (i + 1).toNat) (out.drop (i + 1).toNat) := by
     rw [HSET.out, HDR.out, hr4, show (i + 1).toNat = i.toNat + 1 by omega]
    clear hp K4
    go_roundw
    case measure => simp [intOf]; omega
    case rel => exact ⟨i + 1, by go_num, by omega, by omega, ⟨st4, ST', I4⟩, ⟨KR'⟩, ⟨OR'⟩⟩
   ·have KR' : Kept (fun b => S b ∨ b = F.hb) w w4 := KR.out.trans (K4.mono fun b h => (HS3.out b h).elim (fun x => .inl (.inl x)) (fun x => .inr ⟨x, IR.out.lt b h⟩))
    obtain ⟨x4, R4⟩ := R4
    exact ⟨rfl, BigPost.halt_ch (by rw [HRES.out, HSET.out, HDR.out, hr4]; rfl) hc4 KR' HS3.out R4⟩
  ·have hd : decide (i < (out.length : Int)) = false := decide_eq_false hlt
   have hfin : icallP X G.l st F s = .ok sti F.held := by
    have e : out.drop i.toNat = [] := List.drop_of_length_le (by omega)
    rw [HRES.out, HSET.out, e]
    cases s.f10.drop i.toNat <;> rfl
   rw [hfin]
   go_wp2
   exact bodyPost_end (results_none rfl _ _ _) rfl (BigPost.ok_ rfl KR.out HS3.out IR.out)
set_option maxRecDepth 100000 in
set_option maxHeartbeats 4000000 in
theorem other_9 {G : Glob} {S : Nat → Prop} {F : Fr} {w : World} {p : Addr} {r : Res2} (h0 : w.cell? p = some (.int .i64 9)) (h : Calls Try.prog 103 #[.pointer (some ⟨G.m, 0, none⟩), .pointer (some p)] w (BigPost G S F r w)) :
  Calls Try.prog 82 #[.pointer (some ⟨G.m, 0, none⟩), .pointer (some p)] w (BigPost G S F r w) := by
 have HH := Aside0.mk h
 clear h
 go_enter Try.func82, Try.ntmps82
 go_wp2_with (go_at_call 103; refine HH.out.mono ?_; intro e w2 hp; have HP := Aside0.mk hp; clear hp)
 all_goals first | exact bodyPost_end (results_none rfl _ _ _) rfl (BigPost.norm HP.out) | exact ⟨rfl, HP.out⟩ | exact (BigPost.not_out HP.out).elim
set_option maxRecDepth 100000 in
set_option maxHeartbeats 4000000 in
theorem other_10 {G : Glob} {S : Nat → Prop} {F : Fr} {w : World} {p : Addr} {r : Res2} (h0 : w.cell? p = some (.int .i64 10)) (h : Calls Try.prog 103 #[.pointer (some ⟨G.m, 0, none⟩), .pointer (some p)] w (BigPost G S F r w)) :
  Calls Try.prog 82 #[.pointer (some ⟨G.m, 0, none⟩), .pointer (some p)] w (BigPost G S F r w) := by
 have HH := Aside0.mk h
 clear h
 go_enter Try.func82, Try.ntmps82
 go_wp2_with (go_at_call 103; refine HH.out.mono ?_; intro e w2 hp; have HP := Aside0.mk hp; clear hp)
 all_goals first | exact bodyPost_end (results_none rfl _ _ _) rfl (BigPost.norm HP.out) | exact ⟨rfl, HP.out⟩ | exact (BigPost.not_out HP.out).elim
set_option maxRecDepth 100000 in
set_option maxHeartbeats 4000000 in
theorem other_11 {G : Glob} {S : Nat → Prop} {F : Fr} {w : World} {p : Addr} {r : Res2} (h0 : w.cell? p = some (.int .i64 11)) (h : Calls Try.prog 103 #[.pointer (some ⟨G.m, 0, none⟩), .pointer (some p)] w (BigPost G S F r w)) :
  Calls Try.prog 82 #[.pointer (some ⟨G.m, 0, none⟩), .pointer (some p)] w (BigPost G S F r w) := by
 have HH := Aside0.mk h
 clear h
 go_enter Try.func82, Try.ntmps82
 go_wp2_with (go_at_call 103; refine HH.out.mono ?_; intro e w2 hp; have HP := Aside0.mk hp; clear hp)
 all_goals first | exact bodyPost_end (results_none rfl _ _ _) rfl (BigPost.norm HP.out) | exact ⟨rfl, HP.out⟩ | exact (BigPost.not_out HP.out).elim
set_option maxRecDepth 100000 in
set_option maxHeartbeats 4000000 in
theorem other_12 {G : Glob} {S : Nat → Prop} {F : Fr} {w : World} {p : Addr} {r : Res2} (h0 : w.cell? p = some (.int .i64 12)) (h : Calls Try.prog 103 #[.pointer (some ⟨G.m, 0, none⟩), .pointer (some p)] w (BigPost G S F r w)) :
  Calls Try.prog 82 #[.pointer (some ⟨G.m, 0, none⟩), .pointer (some p)] w (BigPost G S F r w) := by
 have HH := Aside0.mk h
 clear h
 go_enter Try.func82, Try.ntmps82
 go_wp2_with (go_at_call 103; refine HH.out.mono ?_; intro e w2 hp; have HP := Aside0.mk hp; clear hp)
 all_goals first | exact bodyPost_end (results_none rfl _ _ _) rfl (BigPost.norm HP.out) | exact ⟨rfl, HP.out⟩ | exact (BigPost.not_out HP.out).elim
set_option maxRecDepth 100000 in
set_option maxHeartbeats 4000000 in
theorem other_13 {G : Glob} {S : Nat → Prop} {F : Fr} {w : World} {p : Addr} {r : Res2} (h0 : w.cell? p = some (.int .i64 13)) (h : Calls Try.prog 103 #[.pointer (some ⟨G.m, 0, none⟩), .pointer (some p)] w (BigPost G S F r w)) :
  Calls Try.prog 82 #[.pointer (some ⟨G.m, 0, none⟩), .pointer (some p)] w (BigPost G S F r w) := by
 have HH := Aside0.mk h
 clear h
 go_enter Try.func82, Try.ntmps82
 go_wp2_with (go_at_call 103; refine HH.out.mono ?_; intro e w2 hp; have HP := Aside0.mk hp; clear hp)
 all_goals first | exact bodyPost_end (results_none rfl _ _ _) rfl (BigPost.norm HP.out) | exact ⟨rfl, HP.out⟩ | exact (BigPost.not_out HP.out).elim
set_option maxRecDepth 100000 in
set_option maxHeartbeats 4000000 in
theorem other_14 {G : Glob} {S : Nat → Prop} {F : Fr} {w : World} {p : Addr} {r : Res2} (h0 : w.cell? p = some (.int .i64 14)) (h : Calls Try.prog 103 #[.pointer (some ⟨G.m, 0, none⟩), .pointer (some p)] w (BigPost G S F r w)) :
  Calls Try.prog 82 #[.pointer (some ⟨G.m, 0, none⟩), .pointer (some p)] w (BigPost G S F r w) := by
 have HH := Aside0.mk h
 clear h
 go_enter Try.func82, Try.ntmps82
 go_wp2_with (go_at_call 103; refine HH.out.mono ?_; intro e w2 hp; have HP := Aside0.mk hp; clear hp)
 all_goals first | exact bodyPost_end (results_none rfl _ _ _) rfl (BigPost.norm HP.out) | exact ⟨rfl, HP.out⟩ | exact (BigPost.not_out HP.out).elim
set_option maxRecDepth 100000 in
set_option maxHeartbeats 4000000 in
theorem other_15 {G : Glob} {S : Nat → Prop} {F : Fr} {w : World} {p : Addr} {r : Res2} (h0 : w.cell? p = some (.int .i64 15)) (h : Calls Try.prog 103 #[.pointer (some ⟨G.m, 0, none⟩), .pointer (some p)] w (BigPost G S F r w)) :
  Calls Try.prog 82 #[.pointer (some ⟨G.m, 0, none⟩), .pointer (some p)] w (BigPost G S F r w) := by
 have HH := Aside0.mk h
 clear h
 go_enter Try.func82, Try.ntmps82
 go_wp2_with (go_at_call 103; refine HH.out.mono ?_; intro e w2 hp; have HP := Aside0.mk hp; clear hp)
 all_goals first | exact bodyPost_end (results_none rfl _ _ _) rfl (BigPost.norm HP.out) | exact ⟨rfl, HP.out⟩ | exact (BigPost.not_out HP.out).elim
def OpF (n : Nat) (o : S30) : Prop := o.f0 = false → 0 ≤ o.f1 ∧ o.f1 < n
def LoF (n : Nat) (d : Int) : Prop := 0 ≤ d ∧ d < n
def PlF (n : Nat) (p : S34) : Prop := 0 ≤ p.f0 ∧ p.f0 < n ∧ ∀ i, i < p.f1.length → (rd_T57 p.f1 (i : Int)).f0 = 2 → 0 ≤ (rd_T57 p.f1 (i : Int)).f1 ∧ (rd_T57 p.f1 (i : Int)).f1 < n
inductive FormI (l : List S48) (n : Nat) (s : S40) : Prop where
 | set (h : s.f0 = 1) (d : LoF n s.f1) (a : OpF n s.f2)
 | bin (h : s.f0 = 2) (d : LoF n s.f1) (a : OpF n s.f2) (b : OpF n s.f3) (t : ∀ a b, ∃ r, PMirFuel.mir_Do.f 3 s.f7 a b = some r)
 | load (h : s.f0 = 3) (d : LoF n s.f1) (p : PlF n s.f4)
 | store (h : s.f0 = 4) (p : PlF n s.f4) (a : OpF n s.f2)
 | copy (h : s.f0 = 5) (p : PlF n s.f4) (q : PlF n s.f5) (n0 : 0 ≤ s.f6) (n1 : s.f6 ≤ 128)
 | addr (h : s.f0 = 6) (d : LoF n s.f1) (p : PlF n s.f4)
 | alloc (h : s.f0 = 7) (d : LoF n s.f1) (n0 : 0 ≤ s.f6) (n1 : s.f6 ≤ 128)
 | free (h : s.f0 = 8) (a : OpF n s.f2)
 | drop (h : s.f0 = 9) (p : PlF n s.f4) (t : tyOk s.f8)
 | give (h : s.f0 = 10) (d : LoF n s.f1)
 | take (h : s.f0 = 11) (d : LoF n s.f1)
 | clear (h : s.f0 = 12) (d : LoF n s.f1) (t : tyOk s.f8)
 | print (h : s.f0 = 13) (a : OpF n s.f2)
 | read (h : s.f0 = 14) (d : LoF n s.f1)
 | call (h : s.f0 = 15) (k : 0 ≤ findP l s.f7) (h8 : s.f9.length ≤ 8) (h10 : s.f10.length ≤ 8) (args : ∀ i, i < s.f9.length → OpF n (rd_T30 s.f9 (i : Int))) (dsts : ∀ i : Int, 0 ≤ i → i < s.f10.length → LoF n (rd s.f10 i))
   (hn : s.f9.length ≤ need (rd_T48 l (findP l s.f7)).f1) (ha : (s.f10.length : Int) = (rd_T48 l (findP l s.f7)).f3)
inductive FormT (f : S48) (t : S43) : Prop where
 | goto (h : t.f0 = 1) (g1 : 0 ≤ t.f2 ∧ t.f2 < f.f5.length)
 | cond (h : t.f0 = 2) (a : OpF f.f1.length t.f1) (g1 : 0 ≤ t.f2 ∧ t.f2 < f.f5.length) (g2 : 0 ≤ t.f3 ∧ t.f3 < f.f5.length)
 | ret (h : t.f0 = 3) (args : ∀ i, i < t.f4.length → OpF f.f1.length (rd_T30 t.f4 (i : Int))) (h8 : t.f4.length ≤ 8) (ha : (t.f4.length : Int) = f.f3)
 | panic (h : t.f0 = 4)
structure FormF (l : List S48) (f : S48) : Prop where
 hb : 0 < f.f5.length
 hl : f.f1.length < 100000
 hw : need f.f1 ≤ 1000000000
 h0 : ∀ k, k ∈ f.f1 → 0 ≤ k
 len : ∀ b, (rd_T45 f.f5 b).f0.length < 4611686018427387904
 ins : ∀ b : Int, 0 ≤ b → b < f.f5.length → ∀ i : Nat, i < (rd_T45 f.f5 b).f0.length → FormI l f.f1.length (rd_T40 (rd_T45 f.f5 b).f0 (i : Int))
 term : ∀ b : Int, 0 ≤ b → b < f.f5.length → FormT f (rd_T45 f.f5 b).f1
def Forms (l : List S48) : Prop := ∀ k : Int, 0 ≤ k → k < l.length → FormF l (rd_T48 l k)
structure Fits (st : St) : Prop where
 s0 : 0 ≤ st.steps
 fu : st.fuel ≤ 1000000000000
 pr : (st.print.length : Int) ≤ st.steps
 c0 : 0 ≤ st.calls
 c1 : st.calls ≤ 392
 d0 : 0 ≤ st.depth
 sk : (st.stack.length : Int) ≤ st.calls * 1000000000
structure Keeps (st st' : St) : Prop where
 fuel : st'.fuel = st.fuel
 steps : st.steps ≤ st'.steps
 calls : st'.calls = st.calls
 depth : st'.depth = st.depth
 stack : st'.stack.length = st.stack.length
 print : (st'.print.length : Int) - st.print.length ≤ st'.steps - st.steps
structure Keeps1 (st st' : St) : Prop where
 fuel : st'.fuel = st.fuel
 steps : st.steps ≤ st'.steps
 calls : st'.calls = st.calls
 depth : st'.depth = st.depth
 stack : st'.stack.length = st.stack.length
 print : (st'.print.length : Int) - st.print.length ≤ st'.steps - st.steps + 1
theorem Keeps.refl (st : St) : Keeps st st := ⟨rfl, Int.le_refl _, rfl, rfl, rfl, by omega⟩
theorem Keeps.one {st st' : St} (h : Keeps st st') : Keeps1 st st' := ⟨h.fuel, h.steps, h.calls, h.depth, h.stack, by have := h.print; omega⟩
theorem Keeps.trans {st st1 st2 : St} (h : Keeps st st1) (k : Keeps st1 st2) : Keeps st st2 :=
 ⟨k.fuel.trans h.fuel, Int.le_trans h.steps k.steps, k.calls.trans h.calls, k.depth.trans h.depth, k.stack.trans h.stack, by have := h.print; have := k.print; omega⟩
theorem Keeps1.tick {st st' : St} (h : Keeps1 (tick st) st') : Keeps st st' := by
 obtain ⟨h1, h2, h3, h4, h5, h6⟩ := h
 simp only [Go.Proofs.Ytpphpcmbpbppoaa.Mach.tick] at h1 h2 h3 h4 h5 h6
 exact ⟨h1, by omega, h3, h4, h5, by omega⟩
theorem Fits.keeps {st st' : St} (F : Fits st) (h : Keeps st st') : Fits st' :=
 ⟨by have := F.s0; have := h.steps; omega, h.fuel ▸ F.fu, by have := F.pr; have := h.print; omega, h.calls ▸ F.c0, h.calls ▸ F.c1, h.depth ▸ F.d0, by rw [h.calls, h.stack]; exact F.sk⟩
theorem wrL_keeps (st : St) (l : Loc) (v : Int) : Keeps st (wrL st l v) := by
 cases l <;> exact ⟨rfl, Int.le_refl _, rfl, rfl, by simp [wrL], by simp [wrL]⟩
def Res.keep (st : St) : Res → Prop
 | .ok st' => Keeps st st'
 | .halt _ _ _ => True
def Res2.keep (st : St) (held : List Bool) : Res2 → Prop
 | .ok st' held' => Keeps1 st st' ∧ held'.length = held.length
 | .halt _ _ _ => True
theorem Res.keep_big {st : St} {r : Res} {held : List Bool} (h : r.keep st) : (r.big held).keep st held := by
 cases r with
 | ok st' => exact ⟨Keeps.one h, rfl⟩
 | halt k c st' => trivial
theorem setP_keep (st : St) (F : Fr) (d v : Int) : (setP st F d v).keep st := by
 unfold setP
 split
 ·exact wrL_keeps _ _ _
 ·trivial
theorem Res.keep_of {st st1 : St} {r : Res} (h : Keeps st st1) (k : r.keep st1) : r.keep st := by
 cases r with
 | ok st' => exact h.trans k
 | halt => trivial
theorem writeP_keep (a : Int) (vs : List Int) : ∀ (st : St) (i : Nat), (writeP st a vs i).keep st := by
 induction vs with
 | nil => intro st i; exact Keeps.refl _
 | cons v r ih =>
  intro st i
  rw [writeP_cons]
  split
  ·exact Res.keep_of (wrL_keeps _ _ _) (ih _ _)
  ·trivial
theorem settleP_keep (F : Fr) (vs : List Int) : ∀ (ds : List Int) (st : St), (settleP st F ds vs).keep st := by
 induction vs with
 | nil => intro ds st; cases ds <;> exact Keeps.refl _
 | cons v r ih =>
  intro ds st
  cases ds with
  | nil => trivial
  | cons d ds =>
   have h1 := setP_keep st F d v
   unfold settleP
   split
   ·rename_i st' e
    rw [e] at h1
    exact Res.keep_of h1 (ih _ _)
   ·trivial
theorem keep_ite {st : St} {held : List Bool} {c : Prop} [Decidable c] {a b : Res2} (h1 : a.keep st held) (h2 : b.keep st held) : (if c then a else b).keep st held := by
 by_cases h : c
 ·rw [if_pos h]; exact h1
 ·rw [if_neg h]; exact h2
theorem freeP_keep (st : St) (a : Int) : (freeP st a).keep st := by
 unfold freeP; repeat' split
 all_goals first | trivial | exact ⟨rfl, Int.le_refl _, rfl, rfl, rfl, by simp⟩
theorem dloopP_keep {f : St → Int → Res} (hf : ∀ st a, (f st a).keep st) (a sz : Int) : ∀ (m : Nat) (i : Int) (st : St), (dloopP f a sz m i st).keep st
 | 0, _, st => Keeps.refl st
 | m + 1, i, st => by
  have h := hf st (wrap64 (a + wrap64 (wrap64 (4 * sz) * i)))
  unfold dloopP
  split
  ·rename_i st' e
   rw [e] at h
   exact Res.keep_of h (dloopP_keep hf a sz m _ _)
  ·trivial
theorem dropP_keep : ∀ (t : S37) (st : St) (a : Int), (dropP t st a).keep st
 | ⟨k, s, n, []⟩, st, a => by
  unfold dropP
  repeat' split
  all_goals first | trivial | exact Keeps.refl _
 | ⟨k, s, n, e :: r⟩, st, a => by
  unfold dropP
  split
  ·exact Keeps.refl _
  ·split
   ·split
    ·trivial
    ·rename_i l _
     have h := dropP_keep e st (rdL st l)
     simp only
     split
     ·rename_i st' e1
      rw [e1] at h
      exact Res.keep_of h (freeP_keep _ _)
     ·trivial
   ·split
    ·exact dloopP_keep (fun st a => dropP_keep e st a) _ _ _ _ _
    ·exact Keeps.refl _
theorem instr0P_keep (st : St) (F : Fr) (s : S40) : (instr0P st F s).keep st F.held := by
 unfold instr0P
 repeat' apply keep_ite
 ·refine Res.keep_big ?_
  unfold isetP; split
  ·trivial
  ·exact setP_keep _ _ _ _
 ·refine Res.keep_big ?_
  unfold ibinP; repeat' split
  all_goals first | trivial | exact setP_keep _ _ _ _
 ·refine Res.keep_big ?_
  unfold iloadP; repeat' split
  all_goals first | trivial | exact setP_keep _ _ _ _
 ·refine Res.keep_big ?_
  unfold istoreP; repeat' split
  all_goals first | trivial | exact wrL_keeps _ _ _
 ·refine Res.keep_big ?_
  unfold icopyP copyP; repeat' split
  all_goals first | trivial | exact writeP_keep _ _ _ _
 ·refine Res.keep_big ?_
  unfold iaddrP; split
  ·trivial
  ·exact setP_keep _ _ _ _
 ·refine Res.keep_big ?_
  unfold allocP; split
  ·trivial
  ·refine Res.keep_of ?_ (setP_keep _ _ _ _)
   exact ⟨rfl, Int.le_refl _, rfl, rfl, rfl, by simp⟩
 ·refine Res.keep_big ?_
  unfold ifreeP freeP; repeat' split
  all_goals first | trivial | exact ⟨rfl, Int.le_refl _, rfl, rfl, rfl, by simp⟩
 ·exact ⟨(Keeps.refl _).one, by simp⟩
 ·exact ⟨(Keeps.refl _).one, by simp⟩
 ·unfold iprintP; split
  ·trivial
  ·exact ⟨⟨rfl, Int.le_refl _, rfl, rfl, rfl, by simp; omega⟩, rfl⟩
 ·unfold ireadP; split
  ·exact Res.keep_big (setP_keep _ _ _ _)
  ·refine Res.keep_big (Res.keep_of ?_ (setP_keep _ _ _ _))
   exact ⟨rfl, Int.le_refl _, rfl, rfl, rfl, by simp⟩
 ·refine Res.keep_big ?_
  unfold idropP; split
  ·trivial
  ·exact dropP_keep _ _ _
 ·have h := dropP_keep s.f8 st (rd F.at_ s.f1)
  revert h
  cases dropP s.f8 st (rd F.at_ s.f1) with
  | ok st' => intro h; exact ⟨Keeps.one h, by simp⟩
  | halt k c st' => intro h; trivial
 ·exact ⟨(Keeps.refl _).one, rfl⟩
 ·trivial
theorem allP_length {st : St} {F : Fr} : ∀ {xs : List S30} {vs : List Int}, allP st F xs = some vs → vs.length = xs.length
 | [], vs, h => by injection h with h; rw [← h]; rfl
 | x :: r, vs, h => by
  simp only [allP, Option.bind_eq_some_iff, Option.map_eq_some_iff] at h
  obtain ⟨v, _, ws, hw, rfl⟩ := h
  simp [allP_length hw]
theorem callP_keep {X : Runs} {st : St} {held : List Bool} {f : S48} {vs : List Int} (hX : ∀ st' h out, X (enterP st f vs) (frameAt st.stack.length f.f1) (List.replicate f.f1.length false) f = .ok st' h out → Keeps (enterP st f vs) st')
  {st' : St} {h : List Bool} {out : List Int} (H : callP X st held f vs = .ok st' h out) : Keeps st st' ∧ h = held := by
 unfold callP at H
 split at H
 ·cases H
 ·split at H
  ·rename_i st1 h1 out1 e
   injection H with e1 e2 e3
   subst e1 e2 e3
   obtain ⟨k1, k2, k3, k4, k5, k6⟩ := hX _ _ _ e
   simp only [enterP] at k1 k2 k3 k4 k5 k6
   refine ⟨⟨k1, k2, ?_, ?_, ?_, k6⟩, rfl⟩
   ·simp only [leaveP]; omega
   ·simp only [leaveP, k4]; split <;> omega
   ·simp only [leaveP, List.length_take, k5, List.length_append]; omega
  ·cases H
theorem icallP_keep {X : Runs} {l : List S48} {st : St} {F : Fr} {s : S40} (hX : ∀ st0 at_ held f st' h out, X st0 at_ held f = .ok st' h out → Keeps st0 st') : (icallP X l st F s).keep st F.held := by
 unfold icallP
 split
 ·trivial
 ·split
  ·rename_i st' _ out e
   have := (callP_keep (fun st' h out e => hX _ _ _ _ _ _ _ e) e).1
   exact Res.keep_big (Res.keep_of this (settleP_keep _ _ _ _))
  ·trivial
theorem instrP_keep {X : Runs} {l : List S48} {st : St} {F : Fr} {s : S40} (hX : ∀ st0 at_ held f st' h out, X st0 at_ held f = .ok st' h out → Keeps st0 st') : (instrP X l st F s).keep st F.held := by
 unfold instrP
 exact keep_ite (icallP_keep hX) (instr0P_keep _ _ _)
theorem tick_keeps (st : St) : Keeps st (tick st) := ⟨rfl, by simp [tick]; omega, rfl, rfl, rfl, by simp [tick]; omega⟩
theorem exec_keep (l : List S48) : ∀ (n : Nat) (st : St) (at_ : List Int) (held : List Bool) (f : S48) (b : Int) (i : Nat) (st' : St) (h : List Bool) (out : List Int), exec l n st at_ held f b i = .ok st' h out → Keeps st st' ∧ h.length = held.length
 | 0, _, _, _, _, _, _, _, _, _, H => by cases H
 | n + 1, st, at_, held, f, b, i, st', h, out, H => by
  unfold exec at H
  split at H
  ·cases H
  ·split at H
   ·split at H
    ·rename_i st1 held1 e
     have k := instrP_keep (X := fun st at_ held f => exec l n st at_ held f 0 0) (l := l) (st := tick st) (F := pf at_ held) (s := rd_T40 (rd_T45 f.f5 b).f0 (i : Int)) (fun st0 a h f st' h' o e => (exec_keep l n _ _ _ _ _ _ _ _ _ e).1)
     rw [e] at k
     obtain ⟨k1, k2⟩ := exec_keep l n _ _ _ _ _ _ _ _ _ H
     exact ⟨(Keeps1.tick k.1).trans k1, k2.trans k.2⟩
    ·cases H
   ·split at H
    ·obtain ⟨k1, k2⟩ := exec_keep l n _ _ _ _ _ _ _ _ _ H
     exact ⟨(tick_keeps st).trans k1, k2⟩
    ·injection H with e1 e2 e3
     subst e1 e2
     exact ⟨tick_keeps st, rfl⟩
    ·cases H
theorem exec_out (l : List S48) : ∀ (n : Nat) (st : St) (at_ : List Int) (held : List Bool) (f : S48) (b : Int) (i : Nat) (st' : St) (h : List Bool) (out : List Int), FormF l f → 0 ≤ b → b < f.f5.length → exec l n st at_ held f b i = .ok st' h out → (out.length : Int) = f.f3
 | 0, _, _, _, _, _, _, _, _, _, _, _, _, H => by cases H
 | n + 1, st, at_, held, f, b, i, st', h, out, FF, b0, b1, H => by
  unfold exec at H
  split at H
  ·cases H
  ·split at H
   ·split at H
    ·exact exec_out l n _ _ _ _ _ _ _ _ _ FF b0 b1 H
    ·cases H
   ·have T := FF.term b b0 b1
    split at H
    ·rename_i b' e
     have hb : 0 ≤ b' ∧ b' < f.f5.length := by
      unfold termP at e
      cases T with
      | goto h g1 =>
       rw [if_neg (by omega), if_neg (by omega), if_neg (by omega)] at e
       injection e with e; subst e; exact g1
      | cond h a g1 g2 =>
       rw [if_neg (by omega), if_neg (by omega), if_pos h] at e
       split at e
       ·cases e
       ·injection e with e
        subst e
        split
        ·exact g2
        ·exact g1
      | ret h _ _ _ =>
       rw [if_pos h] at e
       split at e <;> cases e
      | panic h =>
       rw [if_neg (by omega), if_pos h] at e
       cases e
     exact exec_out l n _ _ _ _ _ _ _ _ _ FF hb.1 hb.2 H
    ·rename_i vs e
     injection H with e1 e2 e3
     subst e3
     unfold termP at e
     cases T with
     | goto h g1 =>
      rw [if_neg (by omega), if_neg (by omega), if_neg (by omega)] at e
      cases e
     | cond h a g1 g2 =>
      rw [if_neg (by omega), if_neg (by omega), if_pos h] at e
      split at e <;> cases e
     | ret h _ _ ha =>
      rw [if_pos h] at e
      split at e
      ·cases e
      ·rename_i ws ew
       injection e with e
       subst e
       rw [allP_length ew]; exact ha
     | panic h =>
      rw [if_neg (by omega), if_pos h] at e
      cases e
    ·cases H
structure GOK (G : Glob) : Prop where
 hg : Kd.C k48 G.w0 G.lA G.l.length G.l
 lc : G.l.length ≤ G.lc
 ll : G.l.length < 4611686018427387904
 forms : Forms G.l
def BodyOK (G : Glob) (n : Nat) : Prop := ∀ (S : Nat → Prop) (L : Lay) (F : Fr) (st : St) (w : World) (q : Addr) (f : S48) (A1 A5 : Option Addr) (c1 c5 : Nat),
 In G S L F st w → MA G.w0 q f A1 c1 A5 c5 → FormF G.l f → F.at_.length = f.f1.length → F.held.length = f.f1.length → Fits st → st.fuel - st.steps ≤ n →
 Calls Try.prog 55 #[.pointer (some ⟨G.m, 0, none⟩), .pointer (some q)] w (CPost G S (fun b => b = F.hb) F (exec G.l n st F.at_ F.held f 0 0) w)
abbrev XR (l : List S48) (n : Nat) : Runs := fun st at_ held f => exec l n st at_ held f 0 0
theorem putP_length (k : Nat) (vs : List Int) (h : vs.length ≤ k) : (putP (List.replicate k 0) vs).length = k := by
 simp [putP]; omega
theorem enter_fits {st : St} {f : S48} {vs : List Int} {l : List S48} (H : Fits st) (hc : st.calls < 392) (FF : FormF l f) (hv : vs.length ≤ need f.f1) : Fits (enterP st f vs) := by
 refine ⟨H.s0, H.fu, H.pr, by have := H.c0; simp only [enterP]; omega, by simp only [enterP]; omega, by have := H.d0; simp only [enterP]; split <;> omega, ?_⟩
 have h1 := H.sk
 have h2 := FF.hw
 have h3 : (enterP st f vs).stack.length = st.stack.length + need f.f1 := by simp only [enterP, List.length_append, putP_length _ _ hv]
 show ((enterP st f vs).stack.length : Int) ≤ (st.calls + 1) * 1000000000
 rw [h3]
 push_cast
 omega
theorem enters {G : Glob} {n : Nat} (BO : BodyOK G n) {q : Addr} {f : S48} {A1 A5 : Option Addr} {c1 c5 : Nat} (M : MA G.w0 q f A1 c1 A5 c5) (FF : FormF G.l f) {st : St} {vs : List Int} (H : Fits st) (hc : st.calls < 392) (hv : vs.length ≤ need f.f1) (hn : st.fuel - st.steps ≤ n) :
  EntersOk G q f st vs (XR G.l n) := by
 refine ⟨fun S' L' F2 w' I h1 h2 h3 => ?_, fun st' h out e => ?_⟩
 ·have := BO S' L' F2 (enterP st f vs) w' q f A1 A5 c1 c5 I M FF (by rw [h1, frameAt_length]) (by rw [h2]; simp) (enter_fits H hc FF hv) hn
  rw [h1, h2] at this
  exact this
 ·have k := (exec_keep _ _ _ _ _ _ _ _ _ _ _ e).1
  exact ⟨k.calls, k.depth, k.stack⟩
set_option maxHeartbeats 1000000 in
theorem instr_all {G : Glob} (GG : GOK G) {n : Nat} (BO : BodyOK G n) {S : Nat → Prop} {L : Lay} {F : Fr} {st : St} {w : World} (I : In G S L F st w) {p : Addr} {s : S40} {A7 A9 A15 A16 A17 : Option Addr} {c7 c9 c15 c16 c17 : Nat} (H0 : IA G.w0 p s A7 c7 A9 c9 A15 c15 A16 c16 A17 c17)
  (FI : FormI G.l F.at_.length s) (hh : F.held.length = F.at_.length) (FT : Fits st) (hs : st.steps ≤ st.fuel) (hn : st.fuel - st.steps ≤ n) :
  Calls Try.prog 82 #[.pointer (some ⟨G.m, 0, none⟩), .pointer (some p)] w (BigPost G S F (instrP (XR G.l n) G.l st F s) w) := by
 have H : IA w p s A7 c7 A9 c9 A15 c15 A16 c16 A17 c17 := H0.below I.base
 have hS : ¬ S p.block := fun h => by
  have h1 := World.block_lt_of_cell? _ _ H0.h0
  have h2 := I.ge _ h
  omega
 cases FI with
 | set h d a =>
  rw [show instrP (XR G.l n) G.l st F s = (isetP st F s).big F.held by simp [instrP, instr0P, h]]
  exact (instr_set I H h a d.1 d.2).mono fun _ _ => BigPost.of_res
 | bin h d a b t =>
  rw [show instrP (XR G.l n) G.l st F s = (ibinP st F s).big F.held by simp [instrP, instr0P, h]]
  exact (instr_bin I H h a b d.1 d.2 t).mono fun _ _ => BigPost.of_res
 | load h d p =>
  rw [show instrP (XR G.l n) G.l st F s = (iloadP st F s).big F.held by simp [instrP, instr0P, h]]
  exact (instr_load I H h p d.1 d.2).mono fun _ _ => BigPost.of_res
 | store h p a =>
  rw [show instrP (XR G.l n) G.l st F s = (istoreP st F s).big F.held by simp [instrP, instr0P, h]]
  exact (instr_store I H h p a).mono fun _ _ => BigPost.of_res
 | copy h p q n0 n1 =>
  rw [show instrP (XR G.l n) G.l st F s = (icopyP st F s).big F.held by simp [instrP, instr0P, h]]
  exact (instr_copy I H h p q n0 n1).mono fun _ _ => BigPost.of_res
 | addr h d p =>
  rw [show instrP (XR G.l n) G.l st F s = (iaddrP st F s).big F.held by simp [instrP, instr0P, h]]
  exact (instr_addr I H h p d.1 d.2).mono fun _ _ => BigPost.of_res
 | alloc h d n0 n1 =>
  rw [show instrP (XR G.l n) G.l st F s = (allocP st F s.f6 s.f1).big F.held by simp [instrP, instr0P, h]]
  exact (instr_alloc I H h hS n0 n1 d.1 d.2).mono fun _ _ => BigPost.of_res
 | free h a =>
  rw [show instrP (XR G.l n) G.l st F s = (ifreeP st F s).big F.held by simp [instrP, instr0P, h]]
  exact (instr_free I H h a).mono fun _ _ => BigPost.of_res
 | drop h p t =>
  rw [show instrP (XR G.l n) G.l st F s = (idropP st F s).big F.held by simp [instrP, instr0P, h]]
  have h0 := H.h0
  rw [h] at h0
  exact other_9 h0 (instr_drop I H h p H0.g15 t)
 | clear h d t =>
  rw [show instrP (XR G.l n) G.l st F s = iclearP st F s by simp [instrP, instr0P, h]]
  have h0 := H.h0
  rw [h] at h0
  exact other_12 h0 (instr_clear I H h H0 d.1 (by rw [hh]; exact d.2) d.2 t)
 | give h d =>
  rw [show instrP (XR G.l n) G.l st F s = igiveP st F s true by simp [instrP, instr0P, h]]
  have h0 := H.h0
  rw [h] at h0
  exact other_10 h0 (instr_give I H h d.1 (by rw [hh]; exact d.2))
 | take h d =>
  rw [show instrP (XR G.l n) G.l st F s = igiveP st F s false by simp [instrP, instr0P, h]]
  have h0 := H.h0
  rw [h] at h0
  exact other_11 h0 (instr_take I H h d.1 (by rw [hh]; exact d.2))
 | print h a =>
  rw [show instrP (XR G.l n) G.l st F s = iprintP st F s by simp [instrP, instr0P, h]]
  have h0 := H.h0
  rw [h] at h0
  exact other_13 h0 (instr_print I H h a (by have := FT.pr; have := FT.fu; omega))
 | read h d =>
  rw [show instrP (XR G.l n) G.l st F s = ireadP st F s by simp [instrP, instr0P, h]]
  have h0 := H.h0
  rw [h] at h0
  exact other_14 h0 (instr_read I H h hS d.1 d.2)
 | call h k h8 h10 args dsts hv ha =>
  rw [show instrP (XR G.l n) G.l st F s = icallP (XR G.l n) G.l st F s by simp [instrP, h]]
  have h0 := H.h0
  rw [h] at h0
  have hkb : findP G.l s.f7 < G.l.length := by rcases findP_bounds G.l s.f7 with h | h <;> omega
  have FF := GG.forms _ k hkb
  have hvs : ∀ vs, allP st F s.f9 = some vs → vs.length ≤ need (rd_T48 G.l (findP G.l s.f7)).f1 := fun vs e => by rw [allP_length e]; exact hv
  refine other_15 h0 (instr_call I H0 h GG.hg GG.lc GG.ll k h8 h10 args dsts rfl FF.hl ?_ FF.h0 hvs FT.c0 FT.d0 (fun q A1 c1 A5 c5 vs M e hc => enters BO M FF FT hc (hvs vs e) hn) ?_)
  ·have h1 := FT.sk
   have h2 := FF.hw
   have h3 := FT.c1
   have h4 := FT.c0
   omega
  ·intro vs st' h out e hc
   unfold callP at hc
   split at hc
   ·cases hc
   ·split at hc
    ·rename_i st1 h1 out1 e1
     injection hc with _ _ e2
     subst e2
     have := exec_out _ _ _ _ _ _ _ _ _ _ _ FF (by omega) (by have := FF.hb; omega) e1
     omega
    ·cases hc
end Go.Proofs.Ytpphpcmbpbppoaa.Mach
end
section
namespace Go.Proofs.Ytpphpcmbpbppoaa.Mach
open Go.RowKit Go.Proofs.YtpphpcmbpbppoaaW.PrintWords Go.Proofs.YtpphpcmbpbppoaaW.PrintLast Go.Proofs.YtpphpcmbpbppoaaW.PrintMore
open Go.Proofs.Ytpphpcmbpbppoaa.Calm
open Go.Proofs.Ytpphpcmbpbppoaa.PMirFuel (S30 S57 S34 S37 S40 S43 S45 S48 k30 k57 k34 k37 k40 k43 k45 k48 rd_T30 rd_T57 rd_T34 rd_T37 rd_T40 rd_T43 rd_T45 rd_T48 at_T30 at_T57 at_T34 at_T40 at_T45 at_T48)
set_option linter.unusedVariables false
set_option linter.unusedSimpArgs false
structure BA (w : World) (p : Addr) (B : S45) (A0 : Option Addr) (c0 : Nat) (A6 : Option Addr) (c6 : Nat) : Prop where
 h0 : w.cell? p = some (.slice A0 B.f0.length c0)
 h1 : w.cell? ⟨p.block, p.off + 1, none⟩ = some (.int .i64 B.f1.f0)
 h2 : w.cell? ⟨p.block, p.off + 2, none⟩ = some (.bool B.f1.f1.f0)
 h3 : w.cell? ⟨p.block, p.off + 3, none⟩ = some (.int .i64 B.f1.f1.f1)
 h4 : w.cell? ⟨p.block, p.off + 4, none⟩ = some (.int .i64 B.f1.f2)
 h5 : w.cell? ⟨p.block, p.off + 5, none⟩ = some (.int .i64 B.f1.f3)
 h6 : w.cell? ⟨p.block, p.off + 6, none⟩ = some (.slice A6 B.f1.f4.length c6)
 l0 : B.f0.length ≤ c0
 g0 : k40.C w A0 B.f0.length B.f0
 l6 : B.f1.f4.length ≤ c6
 g6 : k30.C w A6 B.f1.f4.length B.f1.f4
theorem BA.of {w : World} {A : Option Addr} {xs : List S45} (h : Kd.C k45 w A xs.length xs) (i : Int) (h0 : 0 ≤ i) (h1 : i < xs.length) : ∃ ad A0 c0 A6 c6, A = some ad ∧ BA w (ad.add (i.toNat * 7)) (rd_T45 xs i) A0 c0 A6 c6 := by
 obtain ⟨ad, A0, c0, A6, c6, e, q0, q1, q2, q3, q4, q5, q6, l0, g0, l6, g6⟩ := at_T45 h i h0 h1
 exact ⟨ad, A0, c0, A6, c6, e, q0, q1, q2, q3, q4, q5, q6, l0, g0, l6, g6⟩
theorem BA.below {w w' : World} {p : Addr} {B : S45} {A0 A6 : Option Addr} {c0 c6 : Nat} (H : BA w p B A0 c0 A6 c6) (hb : Below w.heap.size w w') : BA w' p B A0 c0 A6 c6 :=
 ⟨pwcb hb H.h0, pwcb hb H.h1, pwcb hb H.h2, pwcb hb H.h3, pwcb hb H.h4, pwcb hb H.h5, pwcb hb H.h6, H.l0, Kd.C_below H.g0 hb, H.l6, Kd.C_below H.g6 hb⟩
theorem In.of_rep {G : Glob} {S : Nat → Prop} {L : Lay} {F : Fr} {st st' : St} {w w' : World} (I : In G S L F st w) (K : Kept S w w') (R : Rep S G.m L (some ⟨F.xb, 0, none⟩) st' w') (hi : st'.input = st.input) : In G S L F st' w' :=
 ⟨R, I.lA, I.lc, I.ln, I.base.trans (K.below_of I.ge I.base.size), I.ge, by rw [hi]; exact I.inp, by rw [hi]; exact I.inc, I.fr.kept K I.o1 I.o2 I.o3, I.o1, I.o2, I.o3, I.g3, fun b h => Nat.lt_of_lt_of_le (I.lt b h) K.size⟩
theorem step_in {G : Glob} {S : Nat → Prop} {L : Lay} {F : Fr} {st : St} {w : World} (I : In G S L F st w) (FT : Fits st) (h : st.steps < st.fuel) :
  Calls Try.prog 81 #[.pointer (some ⟨G.m, 0, none⟩)] w fun e w' => e = .returned (.tuple #[]) ∧ Kept S w w' ∧ In G S L F (tick st) w' :=
 (step_ok I.rep FT.s0 h (by have := FT.fu; omega)).mono fun e w' ⟨he, K, R⟩ => ⟨he, K, I.of_rep K R rfl⟩
theorem BigPost.cases {G : Glob} {S : Nat → Prop} {F : Fr} {r : Res2} {w w' : World} {e : Ending} (h : BigPost G S F r w e w') :
  (∃ st' held S' L', r = .ok st' held ∧ e = .returned (.tuple #[]) ∧ Kept (fun b => S b ∨ b = F.hb) w w' ∧ (∀ b, S' b → S b ∨ w.heap.size ≤ b) ∧ In G S' L' { F with held := held } st' w') ∨
  ∃ k c st' ch, r = .halt k c st' ∧ e = .panicked ch ∧ Kept (fun b => S b ∨ b = F.hb) w w' ∧ HaltCh ch k c ∧ ∃ S' L' x', (∀ b, S' b → S b ∨ w.heap.size ≤ b) ∧ Rep S' G.m L' x' st' w' := by
 cases r with
 | ok st held => obtain ⟨K, he, S', L', hs, I⟩ := h; exact .inl ⟨st, held, S', L', rfl, he, K, hs, I⟩
 | halt k c st => obtain ⟨K, ⟨ch, he, hc⟩, R⟩ := h; exact .inr ⟨k, c, st, ch, rfl, he, K, hc, R⟩
structure Going (G : Glob) (S : Nat → Prop) (F : Fr) (f : S48) (w : World) (n : Nat) (R : ResC) (b : Int) (i : Nat) (S' : Nat → Prop) (L' : Lay) (st' : St) (held' : List Bool) (k : Nat) (wr : World) : Prop where
 inn : In G S' L' { F with held := held' } st' wr
 hs : ∀ b, S' b → S b ∨ w.heap.size ≤ b
 kept : Kept (fun b => S b ∨ b = F.hb) w wr
 run : exec G.l k st' F.at_ held' f b i = R
 fits : Fits st'
 hl : held'.length = F.at_.length
 left : st'.fuel - st'.steps ≤ k
 kn : k ≤ n
namespace Going
variable {G : Glob} {S S' : Nat → Prop} {F : Fr} {f : S48} {w wr : World} {n k : Nat} {R : ResC} {b : Int} {i : Nat} {L' : Lay} {st' : St} {held' : List Bool}
theorem below (H : Going G S F f w n R b i S' L' st' held' k wr) {w2 : World} (hb : Below wr.heap.size wr w2) : Going G S F f w n R b i S' L' st' held' k w2 :=
 ⟨H.inn.below hb, H.hs, H.kept.below hb, H.run, H.fits, H.hl, H.left, H.kn⟩
theorem grow (H : Going G S F f w n R b i S' L' st' held' k wr) {w2 : World} (K : Kept (fun b => S' b ∨ b = F.hb) wr w2) : Kept (fun b => S b ∨ b = F.hb) w w2 :=
 H.kept.trans (K.mono fun b h => h.elim (fun x => (H.hs b x).elim (fun y => .inl (.inl y)) (fun y => .inr ⟨y, H.inn.lt b x⟩)) (fun x => .inl (.inr x)))
theorem out (H : Going G S F f w n R b i S' L' st' held' k wr) (h : ¬ st'.steps < st'.fuel) : R = .halt 0 0 st' := by
 rw [← H.run]
 cases k with
 | zero => rfl
 | succ k => simp only [exec]; rw [if_pos (by omega)]
theorem more (H : Going G S F f w n R b i S' L' st' held' k wr) (h : st'.steps < st'.fuel) : ∃ k', k = k' + 1 ∧ (tick st').fuel - (tick st').steps ≤ k' ∧ Fits (tick st') := by
 have h1 := H.left
 cases k with
 | zero => omega
 | succ k => exact ⟨k, rfl, by simp only [tick]; omega, H.fits.keeps (tick_keeps st')⟩
theorem run_instr (H : Going G S F f w n R b i S' L' st' held' (k + 1) wr) (h : st'.steps < st'.fuel) (hi : i < (rd_T45 f.f5 b).f0.length) {s : S40} (hs : rd_T40 (rd_T45 f.f5 b).f0 (i : Int) = s) :
  (match instrP (XR G.l k) G.l (tick st') { F with held := held' } s with | .ok st2 h2 => exec G.l k st2 F.at_ h2 f b (i + 1) | .halt k c st2 => .halt k c st2) = R := by
 have h1 := H.run
 simp only [exec] at h1
 rw [if_neg (by omega), if_pos hi, hs] at h1
 rw [← instrP_pf]
 exact h1
theorem next (H : Going G S F f w n R b i S' L' st' held' (k + 1) wr) {w2 w3 : World} {s : S40} {st3 : St} {held3 : List Bool} {S3 : Nat → Prop} {L3 : Lay} (K2 : Kept S' wr w2) (hr : instrP (XR G.l k) G.l (tick st') { F with held := held' } s = .ok st3 held3)
  (hrun : (match instrP (XR G.l k) G.l (tick st') { F with held := held' } s with | .ok st2 h2 => exec G.l k st2 F.at_ h2 f b (i + 1) | .halt k c st2 => .halt k c st2) = R) (K3 : Kept (fun b => S' b ∨ b = F.hb) w2 w3) (hs3 : ∀ b, S3 b → S' b ∨ w2.heap.size ≤ b) (I3 : In G S3 L3 { F with held := held3 } st3 w3) :
  Going G S F f w n R b (i + 1) S3 L3 st3 held3 k w3 ∧ st3.fuel = st'.fuel ∧ st'.steps + 1 ≤ st3.steps := by
 have kp := instrP_keep (X := XR G.l k) (l := G.l) (st := tick st') (F := { F with held := held' }) (s := s) (fun st0 a h f st' h' o e => (exec_keep G.l k _ _ _ _ _ _ _ _ _ e).1)
 rw [hr] at kp hrun
 have ks := Keeps1.tick kp.1
 have h1 : (tick st').steps ≤ st3.steps := kp.1.steps
 have h2 : st3.fuel = st'.fuel := ks.fuel
 have h3 : (tick st').steps = st'.steps + 1 := rfl
 have h4 := H.left
 refine ⟨⟨I3, fun b h => (hs3 b h).elim (H.hs b) (fun x => .inr (Nat.le_trans (Nat.le_trans H.kept.size K2.size) x)), H.grow ((K2.mono fun b h => .inl h).then_ K3), hrun, H.fits.keeps ks, kp.2.trans H.hl, by omega, by have := H.kn; omega⟩, h2, by omega⟩
theorem jump (H : Going G S F f w n R b i S' L' st' held' (k + 1) wr) (h : st'.steps < st'.fuel) {w2 : World} (K2 : Kept S' wr w2) (I2 : In G S' L' { F with held := held' } (tick st') w2) {b2 : Int} (hrun : exec G.l k (tick st') F.at_ held' f b2 0 = R) :
  Going G S F f w n R b2 0 S' L' (tick st') held' k w2 :=
 ⟨I2, H.hs, H.grow (K2.mono fun b h => .inl h), hrun, H.fits.keeps (tick_keeps st'), H.hl, by have := H.left; simp only [tick]; omega, by have := H.kn; omega⟩
theorem run_term (H : Going G S F f w n R b i S' L' st' held' (k + 1) wr) (h : st'.steps < st'.fuel) (hi : ¬ i < (rd_T45 f.f5 b).f0.length) :
  (match termP (tick st') { F with held := held' } (rd_T45 f.f5 b).f1 with | .go b2 => exec G.l k (tick st') F.at_ held' f b2 0 | .out vs => .ok (tick st') held' vs | .halt k c => .halt k c (tick st')) = R := by
 have h1 := H.run
 simp only [exec] at h1
 rw [if_neg (by omega), if_neg hi] at h1
 rw [← termP_pf]
 exact h1
end Going
theorem CPost.halt_any {G : Glob} {S T S' : Nat → Prop} {L' : Lay} {F : Fr} {st : St} {w w' : World} {k c : Int} {r : ResC} {x' : Option Addr} {ch : List PanicEntry} (hr : r = .halt k c st) (hc : HaltCh ch k c) (K : Kept (fun b => S b ∨ T b) w w') (hs : ∀ b, S' b → S b ∨ w.heap.size ≤ b) (R : Rep S' G.m L' x' st w') : CPost G S T F r w (.panicked ch) w' := by
 subst hr; exact ⟨K, ⟨_, rfl, hc⟩, S', L', x', hs, R⟩
def stepsAt (m : Nat) (w : World) : Int := intOf ((w.cell? ⟨m, 3, none⟩).getD undef)
theorem In.stepsAt {G : Glob} {S : Nat → Prop} {L : Lay} {F : Fr} {st : St} {w : World} (I : In G S L F st w) : stepsAt G.m w = st.steps := by
 unfold Go.Proofs.Ytpphpcmbpbppoaa.Mach.stepsAt
 rw [I.rep.c3]; rfl
set_option maxRecDepth 100000 in
set_option maxHeartbeats 8000000 in
theorem body_ok {G : Glob} (GG : GOK G) (n : Nat) (IH : ∀ k, k < n → BodyOK G k) : BodyOK G n := by
 intro S L F st w q f A1 A5 c1 c5 I M FF hat hheld FT hn
 obtain ⟨ad, B0, b0, B6, b6, eA, hBA⟩ := BA.of M.g5 0 (by omega) (by have := FF.hb; omega)
 obtain rfl := eA
 have GO : Going G S F f w n (exec G.l n st F.at_ F.held f 0 0) 0 0 S L st F.held n w :=
  ⟨I, fun b h => .inl h, Kept.refl _ _, rfl, FT, by rw [hheld, hat], hn, Nat.le_refl _⟩
 have HGO := Aside0.mk GO
 have MM := Aside0.mk M
 have HFF := Aside0.mk FF
 have HIH := Aside0.mk IH
 have q5 := pwcb I.base M.h5
 have hb0 := FF.hb
 have hat' := Aside0.mk hat
 generalize exec G.l n st F.at_ F.held f 0 0 = R at HGO ⊢
 have hfu : st.fuel ≤ 1000000000000 := FT.fu
 clear I M FF hheld FT hn GO hBA IH hat
 go_enter Try.func55, Try.ntmps55
 go_wp2
 go_loopw [5] (fun v wr => ∃ b : Int, v = .pointer (some (ad.add (b.toNat * 7))) ∧ 0 ≤ b ∧ b < f.f5.length ∧ Aside0 (∃ S' L' st' held' k, Going G S F f w n R b 0 S' L' st' held' k wr ∧ st'.fuel = st.fuel)) (fun _ wr => (st.fuel - stepsAt G.m wr).toNat)
 case atStart => exact ⟨0, rfl, by omega, by omega, ⟨S, L, st, F.held, n, HGO.out, rfl⟩⟩
 case round =>
  obtain ⟨b, rfl, hb0', hb1, H0⟩ := hrel
  obtain ⟨S0, L0, st0, held0, k0, H0, hf0⟩ := H0
  obtain ⟨ad', A0, c0, A6, c6, e, hBA⟩ := BA.of MM.out.g5 b hb0' hb1
  obtain rfl : ad = ad' := Option.some.inj e
  have BB := Aside0.mk hBA
  have q0 := pwcb H0.inn.base hBA.h0
  have hs0 := H0.inn.stepsAt
  have HST0 := Aside0.mk hs0
  have HINS := Aside0.mk (HFF.out.ins b hb0' hb1)
  have HTM := Aside0.mk (HFF.out.term b hb0' hb1)
  have HH0 := Aside0.mk (show ∃ S' L' st' held' k, Going G S F f w n R b 0 S' L' st' held' k wr ∧ st'.fuel = st.fuel ∧ st0.steps ≤ st'.steps from ⟨S0, L0, st0, held0, k0, H0, hf0, Int.le_refl _⟩)
  generalize hBq : rd_T45 f.f5 b = Bk at *
  have HBq := Aside0.mk hBq
  generalize ad.add (b.toNat * 7) = P at *
  clear hBA H0 e hs0 hBq
  go_wp2
  go_loopw [19] (fun v wr => ∃ i : Int, v = .int .i64 i ∧ 0 ≤ i ∧ i ≤ Bk.f0.length ∧ Aside0 (∃ S' L' st' held' k, Going G S F f w n R b i.toNat S' L' st' held' k wr ∧ st'.fuel = st.fuel ∧ st0.steps ≤ st'.steps)) (fun v _ => Bk.f0.length - (intOf v).toNat)
  case atStart => exact ⟨0, rfl, by omega, by omega, HH0⟩
  case round =>
   obtain ⟨i, rfl, hi0, hi1, H1⟩ := hrel
   obtain ⟨S1, L1, st1, held1, k1, H1, hf1, hle1⟩ := H1
   by_cases hlt : i < Bk.f0.length
   ·by_cases hfu1 : st1.steps < st1.fuel
    ·obtain ⟨k', rfl, hk', FT1⟩ := H1.more hfu1
     obtain ⟨ai, A7, c7, A9, c9, A15, c15, A16, c16, A17, c17, eI, hIA⟩ := IA.of BB.out.g0 i hi0 hlt
     obtain rfl := eI
     have HIA := Aside0.mk hIA
     have HFI := Aside0.mk (show FormI G.l ({ F with held := held1 } : Fr).at_.length (rd_T40 Bk.f0 i) from by
      have h := HINS.out i.toNat (by omega)
      rw [show ((i.toNat : Nat) : Int) = i by omega, ← hat'.out] at h
      exact h)
     have HRUN := Aside0.mk (H1.run_instr hfu1 (by rw [HBq.out]; omega) (s := rd_T40 Bk.f0 i) (by rw [HBq.out, show ((i.toNat : Nat) : Int) = i by omega]))
     have q0r := pwcb H1.inn.base BB.out.h0
     have HH1 := Aside0.mk H1
     have HK' := Aside0.mk hk'
     have HFT1 := Aside0.mk FT1
     have HFU1 := Aside0.mk hfu1
     have nx : (i + 1).toNat = i.toNat + 1 := by omega
     have hm1 : i < 9223372036854775807 := by have := HFF.out.len b; rw [HBq.out] at this; omega
     clear hIA H1 hk' FT1 hfu1
     go_wp2_with (first | (go_at_call 81; refine (step_in HH1.out.inn HH1.out.fits HFU1.out).mono ?_; rintro e w2 ⟨rfl, K2, I2⟩; have q2 := pwcb I2.base BB.out.h0; have IN2 := Aside0.mk I2; have KP2 := Aside0.mk K2; clear I2 K2) | (go_at_call 82; refine (instr_all GG (HIH.out k' (by have := HH1.out.kn; omega)) IN2.out HIA.out HFI.out HH1.out.hl HFT1.out (by have := HFU1.out; simp only [tick]; omega) HK'.out).mono ?_; intro e w3 hp; rcases hp.cases with ⟨st3, held3, S3, L3, hr, rfl, K3, hs3, I3⟩ | ⟨k3, c3, st3, ch, hr, rfl, K3, hc3, R3⟩))
     ·obtain ⟨g1, g2, g3⟩ := HH1.out.next KP2.out hr HRUN.out K3 hs3 I3
      have hf1' : st3.fuel = st.fuel := g2.trans hf1
      have hle1' : st0.steps ≤ st3.steps := by omega
      refine ⟨⟨i + 1, rfl, by omega, by omega, ⟨S3, L3, st3, held3, k', by rw [nx]; exact g1, hf1', hle1'⟩⟩, by simp [intOf]; omega⟩
     ·obtain ⟨S3, L3, x3, hs3, R3⟩ := R3
      have hres := HRUN.out
      rw [hr] at hres
      exact ⟨rfl, CPost.halt_any hres.symm hc3 (HH1.out.grow ((KP2.out.mono fun b h => .inl h).then_ K3)) (fun b h => (hs3 b h).elim (HH1.out.hs b) (fun x => .inr (Nat.le_trans (Nat.le_trans HH1.out.kept.size KP2.out.size) x))) R3⟩
    ·have HH1 := Aside0.mk H1
     have HFU1 := Aside0.mk (Int.not_lt.1 hfu1)
     clear hfu1 H1
     go_wp2_with (go_at_call 81; refine (step_out HH1.out.inn.rep (Int.not_lt.2 HFU1.out)).mono ?_; rintro e w2 ⟨rfl, K2, R2⟩)
     exact ⟨rfl, CPost.halt_any (HH1.out.out (Int.not_lt.2 HFU1.out)) (.inl rfl) (HH1.out.grow (K2.mono fun b h => .inl h)) HH1.out.hs R2⟩
   ·have hd : decide (i < (Bk.f0.length : Int)) = false := decide_eq_false hlt
    have hx : ¬ i.toNat < (rd_T45 f.f5 b).f0.length := by rw [HBq.out]; omega
    have q0r := pwcb H1.inn.base BB.out.h0
    by_cases hfu1 : st1.steps < st1.fuel
    ·obtain ⟨k', rfl, hk', FT1⟩ := H1.more hfu1
     have hrun := H1.run_term hfu1 hx
     rw [HBq.out] at hrun
     have HRUN := Aside0.mk hrun
     have HH1 := Aside0.mk H1
     have HFU1 := Aside0.mk hfu1
     have HF1 := Aside0.mk hf1
     have HLE1 := Aside0.mk hle1
     clear hrun H1 hk' FT1 hfu1 hx hf1 hle1
     cases HTM.out with
     | goto h g1 =>
      have ht : termP (tick st1) { F with held := held1 } Bk.f1 = .go Bk.f1.f2 := by simp [termP, h]
      have HT := Aside0.mk ht
      clear ht
      go_wp2_with (go_at_call 81; refine (step_in HH1.out.inn HH1.out.fits HFU1.out).mono ?_; rintro e w2 ⟨rfl, K2, I2⟩; have p1 := pwcb I2.base BB.out.h1; rw [h] at p1; have p2 := pwcb I2.base BB.out.h2; have p3 := pwcb I2.base BB.out.h3; have p4 := pwcb I2.base BB.out.h4; have p5 := pwcb I2.base BB.out.h5; have p6 := pwcb I2.base BB.out.h6; have r5 := fun o => pwcb (below_alloc (Below.refl _ w2) o) (pwcb I2.base MM.out.h5); have IN2 := Aside0.mk I2; have KP2 := Aside0.mk K2; clear I2 K2)
      have J := (HH1.out.jump HFU1.out KP2.out IN2.out (b2 := Bk.f1.f2) (by have h2 := HRUN.out; rw [HT.out] at h2; exact h2)).below (below_alloc (Below.refl _ w2) (Obj.cells #[.int .i64 1, .bool Bk.f1.f1.f0, .int .i64 Bk.f1.f1.f1, .int .i64 Bk.f1.f2, .int .i64 Bk.f1.f3, .slice A6 Bk.f1.f4.length c6] 43))
      have hm := J.inn.stepsAt
      have hm2 : (tick st1).steps = st1.steps + 1 := rfl
      have hm3 := HST0.out
      have hm4 := HFU1.out
      have hm5 := HF1.out
      have hm6 := HLE1.out
      exact ⟨⟨Bk.f1.f2, rfl, g1.1, g1.2, ⟨_, _, _, _, _, J, HF1.out⟩⟩, by rw [hm, hm3, hm2]; omega⟩
     | cond h a g1 g2 => 
      cases hv : operandP (tick st1) { F with held := held1 } Bk.f1.f1 with
      | none =>
       have HV := Aside0.mk hv
       have HT := Aside0.mk (show termP (tick st1) { F with held := held1 } Bk.f1 = .halt 4 0 by simp [termP, h, hv])
       have HA := Aside0.mk (show OpIn { F with held := held1 } Bk.f1.f1 from by unfold OpIn; show Bk.f1.f1.f0 = false → 0 ≤ Bk.f1.f1.f1 ∧ Bk.f1.f1.f1 < F.at_.length; rw [hat'.out]; exact a)
       clear hv a
       go_wp2_with (first | (go_at_call 81; refine (step_in HH1.out.inn HH1.out.fits HFU1.out).mono ?_; rintro e w2 ⟨rfl, K2, I2⟩; have p1 := pwcb I2.base BB.out.h1; rw [h] at p1; have p2 := pwcb I2.base BB.out.h2; have p3 := pwcb I2.base BB.out.h3; have p4 := pwcb I2.base BB.out.h4; have p5 := pwcb I2.base BB.out.h5; have p6 := pwcb I2.base BB.out.h6; have r5 := fun o => pwcb (below_alloc (Below.refl _ w2) o) (pwcb I2.base MM.out.h5); have IN2 := Aside0.mk I2; have KP2 := Aside0.mk K2; clear I2 K2) | (go_at_call 84; refine (operand_bad (IN2.out.alloc _) _ HA.out HV.out).mono ?_; rintro e w3 ⟨rfl, hb⟩))
       exact ⟨rfl, CPost.halt_any (by have h2 := HRUN.out; rw [HT.out] at h2; exact h2.symm) (.inl rfl) (HH1.out.grow ((KP2.out.mono fun b h => .inl h).below (below_then (below_alloc (Below.refl _ w2) _) (by simp) hb))) HH1.out.hs (IN2.out.rep.below (below_then (below_alloc (Below.refl _ w2) _) (by simp) hb))⟩
      | some v =>
       have HV := Aside0.mk hv
       have HA := Aside0.mk (show OpIn { F with held := held1 } Bk.f1.f1 from by unfold OpIn; show Bk.f1.f1.f0 = false → 0 ≤ Bk.f1.f1.f1 ∧ Bk.f1.f1.f1 < F.at_.length; rw [hat'.out]; exact a)
       by_cases hv0 : v = 0
       ·subst hv0
        have HT := Aside0.mk (show termP (tick st1) { F with held := held1 } Bk.f1 = .go Bk.f1.f3 by simp [termP, h, hv])
        clear hv a
        go_wp2_with (first | (go_at_call 81; refine (step_in HH1.out.inn HH1.out.fits HFU1.out).mono ?_; rintro e w2 ⟨rfl, K2, I2⟩; have p1 := pwcb I2.base BB.out.h1; rw [h] at p1; have p2 := pwcb I2.base BB.out.h2; have p3 := pwcb I2.base BB.out.h3; have p4 := pwcb I2.base BB.out.h4; have p5 := pwcb I2.base BB.out.h5; have p6 := pwcb I2.base BB.out.h6; have r5 := fun o => pwcb (below_alloc (Below.refl _ w2) o) (pwcb I2.base MM.out.h5); have IN2 := Aside0.mk I2; have KP2 := Aside0.mk K2; clear I2 K2) | (go_at_call 84; refine (operand_ok (IN2.out.alloc _) _ HA.out HV.out).mono ?_; rintro e w3 ⟨rfl, hb⟩; have t4 : w3.cell? ⟨w2.heap.size, 4, none⟩ = some (.int .i64 Bk.f1.f3) := pwcb hb (by simp [go_sem]); have t5 := pwcb hb (r5 _)))
        have J := (HH1.out.jump HFU1.out KP2.out IN2.out (b2 := Bk.f1.f3) (by have h2 := HRUN.out; rw [HT.out] at h2; exact h2)).below (below_then (below_alloc (Below.refl _ w2) _) (by simp) hb)
        have hm := J.inn.stepsAt
        have hm2 : (tick st1).steps = st1.steps + 1 := rfl
        have hm3 := HST0.out
        have hm4 := HFU1.out
        have hm5 := HF1.out
        have hm6 := HLE1.out
        exact ⟨⟨Bk.f1.f3, rfl, g2.1, g2.2, ⟨_, _, _, _, _, J, HF1.out⟩⟩, by rw [hm, hm3, hm2]; omega⟩
       ·have HT := Aside0.mk (show termP (tick st1) { F with held := held1 } Bk.f1 = .go Bk.f1.f2 by simp [termP, h, hv, hv0])
        have hvd : (v == 0) = false := by simp [hv0]
        clear hv a
        go_wp2_with (first | (go_at_call 81; refine (step_in HH1.out.inn HH1.out.fits HFU1.out).mono ?_; rintro e w2 ⟨rfl, K2, I2⟩; have p1 := pwcb I2.base BB.out.h1; rw [h] at p1; have p2 := pwcb I2.base BB.out.h2; have p3 := pwcb I2.base BB.out.h3; have p4 := pwcb I2.base BB.out.h4; have p5 := pwcb I2.base BB.out.h5; have p6 := pwcb I2.base BB.out.h6; have r5 := fun o => pwcb (below_alloc (Below.refl _ w2) o) (pwcb I2.base MM.out.h5); have IN2 := Aside0.mk I2; have KP2 := Aside0.mk K2; clear I2 K2) | (go_at_call 84; refine (operand_ok (IN2.out.alloc _) _ HA.out HV.out).mono ?_; rintro e w3 ⟨rfl, hb⟩; have t4 : w3.cell? ⟨w2.heap.size, 4, none⟩ = some (.int .i64 Bk.f1.f3) := pwcb hb (by simp [go_sem]); have t5 := pwcb hb (r5 _)))
        have J := (HH1.out.jump HFU1.out KP2.out IN2.out (b2 := Bk.f1.f2) (by have h2 := HRUN.out; rw [HT.out] at h2; exact h2)).below (below_then (below_alloc (Below.refl _ w2) _) (by simp) hb)
        have hm := J.inn.stepsAt
        have hm2 : (tick st1).steps = st1.steps + 1 := rfl
        have hm3 := HST0.out
        have hm4 := HFU1.out
        have hm5 := HF1.out
        have hm6 := HLE1.out
        exact ⟨⟨Bk.f1.f2, rfl, g1.1, g1.2, ⟨_, _, _, _, _, J, HF1.out⟩⟩, by rw [hm, hm3, hm2]; omega⟩
     | ret h args h8 ha =>
      have HA := Aside0.mk (show ∀ i, i < Bk.f1.f4.length → OpIn { F with held := held1 } (rd_T30 Bk.f1.f4 (i : Int)) from fun i hi => by
       have h1 := args i hi
       unfold OpIn
       show (rd_T30 Bk.f1.f4 (i : Int)).f0 = false → 0 ≤ (rd_T30 Bk.f1.f4 (i : Int)).f1 ∧ (rd_T30 Bk.f1.f4 (i : Int)).f1 < F.at_.length
       rw [hat'.out]; exact h1)
      clear args
      go_wp2_with (first | (go_at_call 81; refine (step_in HH1.out.inn HH1.out.fits HFU1.out).mono ?_; rintro e w2 ⟨rfl, K2, I2⟩; have p1 := pwcb I2.base BB.out.h1; rw [h] at p1; have p2 := pwcb I2.base BB.out.h2; have p3 := pwcb I2.base BB.out.h3; have p4 := pwcb I2.base BB.out.h4; have p5 := pwcb I2.base BB.out.h5; have p6 := pwcb I2.base BB.out.h6; have r5 := fun o => pwcb (below_alloc (Below.refl _ w2) o) (pwcb I2.base MM.out.h5); have IN2 := Aside0.mk I2; have KP2 := Aside0.mk K2; clear I2 K2) | (go_at_call 83; refine (all_any (IN2.out.alloc _) A6 c6 Bk.f1.f4 (Kd.C_below (Kd.C_below BB.out.g6 IN2.out.base) (below_alloc (Below.refl _ w2) _)) BB.out.l6 h8 HA.out _ rfl).mono ?_; intro e w3 hA; rcases hA.cases with ⟨hn, rfl, hb⟩ | ⟨vs, v, hv, rfl, hb, ho, hk8⟩))
      ·have HT := Aside0.mk (show termP (tick st1) { F with held := held1 } Bk.f1 = .halt 4 0 by have e : allP (tick st1) { F with held := held1 } Bk.f1.f4 = none := hn; simp [termP, h, e])
       exact ⟨rfl, CPost.halt_any (by have h2 := HRUN.out; rw [HT.out] at h2; exact h2.symm) (.inl rfl) (HH1.out.grow ((KP2.out.mono fun b h => .inl h).below (below_then (below_alloc (Below.refl _ w2) _) (by simp) hb))) HH1.out.hs (IN2.out.rep.below (below_then (below_alloc (Below.refl _ w2) _) (by simp) hb))⟩
      ·have HT := Aside0.mk (show termP (tick st1) { F with held := held1 } Bk.f1 = .out vs by have e : allP (tick st1) { F with held := held1 } Bk.f1.f4 = some vs := hv; simp [termP, h, e])
       go_ret
       have hR : R = .ok (tick st1) held1 vs := by have h2 := HRUN.out; rw [HT.out] at h2; exact h2.symm
       rw [hR]
       refine ⟨HH1.out.grow ((KP2.out.mono fun b h => .inl h).below (below_then (below_alloc (Below.refl _ w2) _) (by simp) hb)), v, rfl, ⟨ho.1, ho.2.imp id (fun ⟨g, cap, cur, e, h1, h2⟩ => ⟨g, cap, cur, e, Nat.zero_le _, h2⟩)⟩, hk8, _, _, HH1.out.hs, IN2.out.below (below_then (below_alloc (Below.refl _ w2) _) (by simp) hb), fun b e => ?_⟩
       have h1 := own_base ho b e
       have h2 := KP2.out.size
       have h3 := HH1.out.kept.size
       simp at h1
       exact ⟨fun hS => by have := IN2.out.lt b hS; omega, by omega⟩
     | panic h =>
      have HT := Aside0.mk (show termP (tick st1) { F with held := held1 } Bk.f1 = .halt 1 101 by simp [termP, h])
      go_wp2_with (first | (go_at_call 81; refine (step_in HH1.out.inn HH1.out.fits HFU1.out).mono ?_; rintro e w2 ⟨rfl, K2, I2⟩; have p1 := pwcb I2.base BB.out.h1; rw [h] at p1; have p2 := pwcb I2.base BB.out.h2; have p3 := pwcb I2.base BB.out.h3; have p4 := pwcb I2.base BB.out.h4; have p5 := pwcb I2.base BB.out.h5; have p6 := pwcb I2.base BB.out.h6; have r5 := fun o => pwcb (below_alloc (Below.refl _ w2) o) (pwcb I2.base MM.out.h5); have IN2 := Aside0.mk I2; have KP2 := Aside0.mk K2; clear I2 K2) | (go_at_call 28; refine (stop _ _ _).mono ?_; rintro e w3 ⟨rfl, rfl⟩))
      exact ⟨rfl, CPost.halt_any (by have h2 := HRUN.out; rw [HT.out] at h2; exact h2.symm) (.inl rfl) (HH1.out.grow ((KP2.out.mono fun b h => .inl h).below (below_alloc (Below.refl _ w2) _))) HH1.out.hs (IN2.out.rep.below (below_alloc (Below.refl _ w2) _))⟩
    ·have HH1 := Aside0.mk H1
     have HFU1 := Aside0.mk (Int.not_lt.1 hfu1)
     clear hfu1 H1
     go_wp2_with (go_at_call 81; refine (step_out HH1.out.inn.rep (Int.not_lt.2 HFU1.out)).mono ?_; rintro e w2 ⟨rfl, K2, R2⟩)
     exact ⟨rfl, CPost.halt_any (HH1.out.out (Int.not_lt.2 HFU1.out)) (.inl rfl) (HH1.out.grow (K2.mono fun b h => .inl h)) HH1.out.hs R2⟩
theorem body_all {G : Glob} (GG : GOK G) (n : Nat) : BodyOK G n := Nat.strongRecOn n fun n ih => body_ok GG n ih
end Go.Proofs.Ytpphpcmbpbppoaa.Mach
end
section
namespace Go.Proofs.Ytpphpcmbpbppoaa.Mach
open Go.RowKit Go.Proofs.YtpphpcmbpbppoaaW.PrintWords Go.Proofs.YtpphpcmbpbppoaaW.PrintLast Go.Proofs.YtpphpcmbpbppoaaW.PrintMore
open Go.Proofs.Ytpphpcmbpbppoaa.Calm
open Go.Proofs.Ytpphpcmbpbppoaa.PMirFuel (S30 S57 S34 S37 S40 S43 S45 S48 k30 k57 k34 k37 k40 k43 k45 k48 rd_T30 rd_T57 rd_T34 rd_T37 rd_T40 rd_T43 rd_T45 rd_T48 at_T30 at_T57 at_T34 at_T40 at_T45 at_T48)
set_option linter.unusedVariables false
set_option linter.unusedSimpArgs false
structure In0 (G : Glob) (S : Nat → Prop) (L : Lay) (st : St) (w : World) : Prop where
 rep : Rep S G.m L none st w
 lA : L.lA = G.lA
 lc : L.lc = G.lc
 ln : L.ln = G.l.length
 base : Below G.w0.heap.size G.w0 w
 ge : ∀ b, S b → G.w0.heap.size ≤ b
 inp : ReadsInt G.w0 .i64 L.iA st.input.length st.input
 inc : st.input.length ≤ L.ic
 lt : ∀ b, S b → b < w.heap.size
namespace In0
variable {G : Glob} {S T : Nat → Prop} {L : Lay} {F2 : Fr} {st : St} {w w' W w1 : World}
theorem below (I : In0 G S L st w) (hb : Below w.heap.size w w') : In0 G S L st w' :=
 ⟨I.rep.below hb, I.lA, I.lc, I.ln, I.base.trans (hb.mono I.base.size), I.ge, I.inp, I.inc, fun b h => Nat.lt_of_lt_of_le (I.lt b h) hb.size⟩
theorem drewN (I : In0 G S L st w) (n : Nat) : In0 G S L st (w.drewN n) := I.below (pw_below_drewN (Below.refl _ _) n)
theorem alloc (I : In0 G S L st w) (o : Obj) : In0 G S L st (w.alloc o) := I.below (below_alloc (Below.refl _ _) o)
theorem stored (I : In0 G S L st w) {a : Addr} (ha : S a.block) (v : Value) {L' : Lay} {st' : St} (R : Rep S G.m L' none st' (w.setCell a v)) (h1 : L'.lA = L.lA) (h2 : L'.lc = L.lc) (h3 : L'.ln = L.ln)
  (hi : ReadsInt G.w0 .i64 L'.iA st'.input.length st'.input) (hc : st'.input.length ≤ L'.ic) : In0 G S L' st' (w.setCell a v) :=
 ⟨R, h1.trans I.lA, h2.trans I.lc, h3.trans I.ln, I.base.setCell (I.ge _ ha) v, I.ge, hi, hc, fun b h => by simpa [World.setCell] using I.lt b h⟩
theorem c11 (I : In0 G S L st w) : w.cell? ⟨G.m, 11, none⟩ = some (.pointer none) := I.rep.c11
theorem set_calls (I : In0 G S L st w) (n : Int) : In0 G S L { st with calls := n } (w.setCell ⟨G.m, 10, none⟩ (.int .i64 n)) :=
 I.stored I.rep.ownM _ (I.rep.set_calls n) rfl rfl rfl I.inp I.inc
theorem set_depth (I : In0 G S L st w) (n : Int) : In0 G S L { st with depth := n } (w.setCell ⟨G.m, 9, none⟩ (.int .i64 n)) :=
 I.stored I.rep.ownM _ (I.rep.set_depth n) rfl rfl rfl I.inp I.inc
theorem cut (I : In0 G S L st w) (n : Nat) (hn : n ≤ st.stack.length) {A : Option Addr} {cap : Nat} (hv : L.sv = .slice A st.stack.length cap) :
  In0 G S { L with sv := .slice A n cap } { st with stack := st.stack.take n } (w.setCell ⟨G.m, 6, none⟩ (.slice A n cap)) := by
 obtain ⟨A', cap', e, ho⟩ := own_cut I.rep.stk n hn
 rw [hv] at e
 obtain ⟨rfl, rfl⟩ : A = A' ∧ cap = cap' := by simpa using e
 have ob : (Value.slice A n cap).ownBlock = L.sv.ownBlock := by rw [hv]; cases A <;> rfl
 refine I.stored I.rep.ownM _ (I.rep.setM 6 _ rfl rfl rfl rfl rfl rfl (I.rep.rowM ho _ _) (I.rep.rowM I.rep.prt _ _) (fun b h => I.rep.ownS b (ob ▸ h)) I.rep.ownP (ob.symm ▸ I.rep.sc) I.rep.pc (ob.symm ▸ I.rep.sp) (fun v hv => I.rep.okS v (List.mem_of_mem_take hv))) rfl rfl rfl I.inp I.inc
theorem rowed (I : In0 G S L st W) {xs : List Int} (hl : xs.length = st.stack.length) (hg : W.grownBy w1 L.sv.ownBlock) (ho : w1.ownsRow 0 3 1 L.sv xs.length (nums .i64 xs)) (hok : ∀ v, v ∈ xs → v ≤ 9223372036854775807) :
  In0 G S L { st with stack := xs } w1 ∧ Kept S W w1 := by
 have K : Kept S W w1 := (Kept.refl S W).grown hg (fun k e => .inl (I.rep.ownS k e))
 exact ⟨⟨I.rep.rowed hl hg ho hok, I.lA, I.lc, I.ln, I.base.trans (K.below_of I.ge I.base.size), I.ge, I.inp, I.inc, fun b h => Nat.lt_of_lt_of_le (I.lt b h) K.size⟩, K⟩
theorem stacked (I : In0 G S L st W) {v1 : Value} {xs : List Int} (hg : W.grownBy w1 L.sv.ownBlock) (ho : w1.ownsRow 0 3 1 v1 xs.length (nums .i64 xs))
  (hat : v1.ownBlock = L.sv.ownBlock ∨ ∃ b, v1.ownBlock = some b ∧ W.heap.size ≤ b) (hok : ∀ v, v ∈ xs → v ≤ 9223372036854775807) :
  In0 G (fun b => S b ∨ v1.ownBlock = some b) { L with sv := v1 } { st with stack := xs } (w1.setCell ⟨G.m, 6, none⟩ v1) ∧ Kept S W (w1.setCell ⟨G.m, 6, none⟩ v1) ∧ (∀ b, (S b ∨ v1.ownBlock = some b) → S b ∨ W.heap.size ≤ b) := by
 have far : ∀ b, v1.ownBlock = some b → S b ∨ W.heap.size ≤ b := fun b e => by
  rcases hat with h | ⟨b', h, hb⟩
  ·exact .inl (I.rep.ownS b (h ▸ e))
  ·rw [h] at e; cases e; exact .inr hb
 have far2 : ∀ b, (S b ∨ v1.ownBlock = some b) → S b ∨ W.heap.size ≤ b := fun b h => h.elim .inl (far b)
 have K : Kept S W (w1.setCell ⟨G.m, 6, none⟩ v1) := ((Kept.refl S W).grown hg (fun k e => .inl (I.rep.ownS k e))).setCell I.rep.ownM v1
 refine ⟨⟨I.rep.stacked hg ho hat hok, I.lA, I.lc, I.ln, I.base.trans (K.below_of I.ge I.base.size), ?_, I.inp, I.inc, ?_⟩, K, far2⟩
 ·intro b h
  rcases far2 b h with h | h
  ·exact I.ge b h
  ·exact Nat.le_trans I.base.size h
 ·intro b h
  rcases h with h | h
  ·exact Nat.lt_of_lt_of_le (I.lt b h) K.size
  ·obtain ⟨cur, hc⟩ := Rep.has_own ho h
   have := hc.lt
   simpa [World.setCell] using this
theorem m6 (I : In0 G S L st W) (hg : W.grownBy w1 L.sv.ownBlock) : w1.cell? ⟨G.m, 6, none⟩ = some L.sv ∧ w1.frozen? ⟨G.m, 6, none⟩ = false := by
 have hm1 : Has w1 G.m (mcells L st none) 93 := I.rep.head.of_block (grown_new hg _ I.rep.head.lt (fun e => by
  obtain ⟨cur, hc⟩ := Rep.has_own I.rep.stk e
  exact hc.ne I.rep.head (by decide) rfl))
 exact ⟨by rw [hm1.cell]; rfl, hm1.frozen 6⟩
theorem apart (I : In0 G S L st W) (K : Kept T W w1) (hT : ∀ b, T b → ¬ S b ∧ G.w0.heap.size ≤ b) : In0 G S L st w1 :=
 ⟨I.rep.kept K (fun b h t => (hT b t).1 h), I.lA, I.lc, I.ln, I.base.trans (K.below_of (fun b h => (hT b h).2) I.base.size), I.ge, I.inp, I.inc, fun b h => Nat.lt_of_lt_of_le (I.lt b h) K.size⟩
theorem swap (I : In0 G S L st w) (H : FrameIs w F2) (o1 : ¬ S F2.xb) (o2 : ∀ b, F2.atv.ownBlock = some b → ¬ S b) (o3 : ¬ S F2.hb) (g3 : G.w0.heap.size ≤ F2.hb) :
  In G S L F2 st (w.setCell ⟨G.m, 11, none⟩ (.pointer (some ⟨F2.xb, 0, none⟩))) :=
 ⟨I.rep.set_x _, I.lA, I.lc, I.ln, I.base.setCell (I.ge _ I.rep.ownM) _, I.ge, I.inp, I.inc,
  H.setCell (fun e => o1 (e ▸ I.rep.ownM)) (fun b hb e => o2 b hb (e ▸ I.rep.ownM)) (fun e => o3 (e ▸ I.rep.ownM)) _, o1, o2, o3, g3, fun b h => by simpa [World.setCell] using I.lt b h⟩
end In0
theorem In.leave {G : Glob} {S : Nat → Prop} {L : Lay} {F : Fr} {st : St} {w : World} (I : In G S L F st w) : In0 G S L st (w.setCell ⟨G.m, 11, none⟩ (.pointer none)) :=
 ⟨I.rep.set_x _, I.lA, I.lc, I.ln, I.base.setCell (I.ge _ I.rep.ownM) _, I.ge, I.inp, I.inc, fun b h => by simpa [World.setCell] using I.lt b h⟩
structure Making0 (G : Glob) (S : Nat → Prop) (F2 : Fr) (st : St) (w wr : World) : Prop where
 inn : ∃ S' L', In0 G S' L' st wr ∧ (∀ b, S' b → S b ∨ w.heap.size ≤ b) ∧ ¬ S' F2.xb ∧ ¬ S' F2.hb ∧ ∀ b, F2.atv.ownBlock = some b → ¬ S' b
 kept : Kept S w wr
 fr : FrameIs wr F2
 n1 : w.heap.size ≤ F2.xb
 n2 : w.heap.size ≤ F2.hb
 n3 : ∀ b, F2.atv.ownBlock = some b → w.heap.size ≤ b
namespace Making0
variable {G : Glob} {S : Nat → Prop} {F2 : Fr} {st : St} {w W w1 : World}
theorem below (M : Making0 G S F2 st w W) (hb : Below W.heap.size W w1) : Making0 G S F2 st w w1 := by
 obtain ⟨S', L', I, hs⟩ := M.inn
 exact ⟨⟨S', L', I.below hb, hs⟩, M.kept.below hb, M.fr.below hb, M.n1, M.n2, M.n3⟩
theorem base (M : Making0 G S F2 st w W) : Below G.w0.heap.size G.w0 W := by
 obtain ⟨S', L', I, _⟩ := M.inn
 exact I.base
theorem placed (M : Making0 G S F2 st w W) (hw : G.w0.heap.size ≤ w.heap.size) {v1 : Value} {xs : List Int} (hg : W.grownBy w1 F2.atv.ownBlock) (ho : w1.ownsRow 0 3 1 v1 xs.length (nums .i64 xs))
  (hat : v1.ownBlock = F2.atv.ownBlock ∨ ∃ b, v1.ownBlock = some b ∧ W.heap.size ≤ b) (hok : ∀ v, v ∈ xs → v ≤ 9223372036854775807) :
  Making0 G S { F2 with atv := v1, at_ := xs } st w (w1.setCell ⟨F2.xb, 1, none⟩ v1) := by
 obtain ⟨S', L', I, hs, a1, a2, a3⟩ := M.inn
 have K0 : Kept (fun b => F2.atv.ownBlock = some b ∨ b = F2.xb) W (w1.setCell ⟨F2.xb, 1, none⟩ v1) := ((Kept.refl _ W).grown hg (fun k e => .inl (.inl e))).setCell (.inr rfl) v1
 have T : ∀ b, (F2.atv.ownBlock = some b ∨ b = F2.xb) → w.heap.size ≤ b := fun b h => h.elim (M.n3 b) (fun e => e ▸ M.n1)
 have TS : ∀ b, (F2.atv.ownBlock = some b ∨ b = F2.xb) → ¬ S' b := fun b h => h.elim (a3 b) (fun e => e ▸ a1)
 refine ⟨⟨S', L', I.apart K0 (fun b h => ⟨TS b h, Nat.le_trans hw (T b h)⟩), hs, a1, a2, fun b e => ?_⟩, ?_, (M.fr.placed hg ho hok).1, M.n1, M.n2, fun b e => ?_⟩
 ·rcases hat with h | ⟨b', h, hb⟩
  ·exact a3 b (h ▸ e)
  ·obtain rfl : b' = b := Option.some.inj (h.symm.trans e)
   intro hS
   have := I.lt b' hS
   omega
 ·exact M.kept.trans (K0.mono fun b h => .inr ⟨T b h, h.elim (fun e => M.fr.lt_at b e) (fun e => e ▸ M.fr.head.lt)⟩)
 ·rcases hat with h | ⟨b', h, hb⟩
  ·exact M.n3 b (h ▸ e)
  ·obtain rfl : b' = b := Option.some.inj (h.symm.trans e)
   exact Nat.le_trans M.kept.size hb
theorem stacked (M : Making0 G S F2 st w W) {S' : Nat → Prop} {L' : Lay} (I : In0 G S' L' st W) (hs : ∀ b, S' b → S b ∨ w.heap.size ≤ b) (a1 : ¬ S' F2.xb) (a2 : ¬ S' F2.hb) (a3 : ∀ b, F2.atv.ownBlock = some b → ¬ S' b)
  {v1 : Value} {xs : List Int} (hg : W.grownBy w1 L'.sv.ownBlock) (ho : w1.ownsRow 0 3 1 v1 xs.length (nums .i64 xs)) (hat : v1.ownBlock = L'.sv.ownBlock ∨ ∃ b, v1.ownBlock = some b ∧ W.heap.size ≤ b) (hok : ∀ v, v ∈ xs → v ≤ 9223372036854775807) :
  Making0 G S F2 { st with stack := xs } w (w1.setCell ⟨G.m, 6, none⟩ v1) := by
 obtain ⟨I', K, far⟩ := I.stacked hg ho hat hok
 have out : ∀ b, b < W.heap.size → ¬ S' b → ¬ (S' b ∨ v1.ownBlock = some b) := fun b hb hn h => (far b h).elim hn (fun x => by omega)
 refine ⟨⟨_, _, I', fun b h => ?_, out _ M.fr.head.lt a1, out _ M.fr.held.lt a2, fun b e => out _ (M.fr.lt_at b e) (a3 b e)⟩, ?_, M.fr.kept K a1 a3 a2, M.n1, M.n2, M.n3⟩
 ·rcases far b h with h | h
  ·exact hs b h
  ·exact .inr (Nat.le_trans M.kept.size h)
 ·refine M.kept.trans (K.mono fun b h => ?_)
  rcases hs b h with h2 | h2
  ·exact .inl h2
  ·exact .inr ⟨h2, I.lt b h⟩
theorem rowed (M : Making0 G S F2 st w W) {xs : List Int} (hl : xs.length = st.stack.length) (hok : ∀ v, v ∈ xs → v ≤ 9223372036854775807)
  {S' : Nat → Prop} {L' : Lay} (I : In0 G S' L' st W) (hs : ∀ b, S' b → S b ∨ w.heap.size ≤ b) (a1 : ¬ S' F2.xb) (a2 : ¬ S' F2.hb) (a3 : ∀ b, F2.atv.ownBlock = some b → ¬ S' b)
  (hg : W.grownBy w1 L'.sv.ownBlock) (ho : w1.ownsRow 0 3 1 L'.sv xs.length (nums .i64 xs)) : Making0 G S F2 { st with stack := xs } w w1 := by
 obtain ⟨I', K⟩ := I.rowed hl hg ho hok
 refine ⟨⟨S', L', I', hs, a1, a2, a3⟩, ?_, M.fr.kept K a1 a3 a2, M.n1, M.n2, M.n3⟩
 refine M.kept.trans (K.mono fun b h => ?_)
 rcases hs b h with h2 | h2
 ·exact .inl h2
 ·exact .inr ⟨h2, I.lt b h⟩
end Making0
def CPost0 (G : Glob) (S : Nat → Prop) (r : ResC) (w : World) (e : Ending) (w' : World) : Prop :=
 Kept S w w' ∧ match r with
  | .ok st' held out => ∃ v, e = .returned v ∧ ∃ S' L', (∀ b, S' b → S b ∨ w.heap.size ≤ b) ∧ In0 G S' L' st' w'
  | .halt k c st' => (∃ ch, e = .panicked ch ∧ HaltCh ch k c) ∧ ∃ S' L' x', (∀ b, S' b → S b ∨ w.heap.size ≤ b) ∧ Rep S' G.m L' x' st' w'
theorem CPost.left0 {G : Glob} {S S5 : Nat → Prop} {L : Lay} {F2 : Fr} {st : St} {w w6 w7 : World} {r : ResC} {e : Ending} (I : In0 G S L st w) (K6 : Kept S w w6) (hs5 : ∀ b, S5 b → S b ∨ w.heap.size ≤ b) (n2 : w.heap.size ≤ F2.hb) (lt2 : F2.hb < w6.heap.size) (lt5 : ∀ b, S5 b → b < w6.heap.size)
  (C : CPost G S5 (fun b => b = F2.hb) F2 r w6 e w7) :
  (∃ st7 h7 out v S7 L7, r = .ok st7 h7 out ∧ e = .returned v ∧ Left G S F2 w w7 st7 h7 out v S7 L7) ∨ (∃ k c st7 ch, r = .halt k c st7 ∧ e = .panicked ch ∧ CPost0 G S (.halt k c st7) w e w7) := by
 have K7 : Kept S w w7 := K6.trans (C.1.mono fun b h => by
  rcases h with h | h
  ·rcases hs5 b h with h2 | h2
   ·exact .inl h2
   ·exact .inr ⟨h2, lt5 b h⟩
  ·subst h; exact .inr ⟨n2, lt2⟩)
 have hs7 : ∀ {S7 : Nat → Prop}, (∀ b, S7 b → S5 b ∨ w6.heap.size ≤ b) → ∀ b, S7 b → S b ∨ w.heap.size ≤ b := fun h b hb => by
  rcases h b hb with h2 | h2
  ·exact hs5 b h2
  ·exact .inr (Nat.le_trans K6.size h2)
 cases r with
 | ok st7 h7 out =>
  obtain ⟨_, v, rfl, ho, hk, S7, L7, h, I7, far⟩ := C
  exact .inl ⟨st7, h7, out, v, S7, L7, rfl, rfl, K7, hs7 h, I7, ho, hk, fun b hb => ⟨(far b hb).1, Nat.le_trans K6.size (far b hb).2⟩⟩
 | halt k c st7 =>
  obtain ⟨_, ⟨ch, rfl, hc⟩, S7, L7, x', h, R⟩ := C
  exact .inr ⟨k, c, st7, ch, rfl, rfl, K7, ⟨ch, rfl, hc⟩, S7, L7, x', hs7 h, R⟩
end Go.Proofs.Ytpphpcmbpbppoaa.Mach
end
