/- Steps toward the law Fuel, merged from several texts (some of them began as the kit's print). No condition. -/
import Derived.Recover
import Derived.Defers
import Derived.Tactics2
import Derived.Laws.Pointers
import Derived.Test.YtpphpcmbpbppoaaZFuel9
section
namespace Go.Proofs.Ytpphpcmbpbppoaa.Mach
open Go.RowKit Go.Proofs.YtpphpcmbpbppoaaW.PrintWords Go.Proofs.YtpphpcmbpbppoaaW.PrintLast Go.Proofs.YtpphpcmbpbppoaaW.PrintMore
open Go.Proofs.Ytpphpcmbpbppoaa.Calm
open Go.Proofs.Ytpphpcmbpbppoaa.PMirFuel (S30 S57 S34 S37 S40 S43 S45 S48 k30 k57 k34 k37 k40 k43 k45 k48 rd_T30 rd_T57 rd_T34 rd_T37 rd_T40 rd_T43 rd_T45 rd_T48 at_T30 at_T57 at_T34 at_T40 at_T45 at_T48)
set_option linter.unusedVariables false
set_option linter.unusedSimpArgs false
theorem Making0.after {G : Glob} {S : Nat → Prop} {F2 : Fr} {st : St} {w W w1 : World} (M : Making0 G S F2 st w W) {v : Value} (hc : W.cell? ⟨G.m, 6, none⟩ = some v) (hg : W.grownBy w1 F2.atv.ownBlock) :
  w1.cell? ⟨F2.xb, 1, none⟩ = some F2.atv ∧ w1.frozen? ⟨F2.xb, 1, none⟩ = false ∧ w1.cell? ⟨G.m, 6, none⟩ = some v := by
 have nt : ∀ {b : Nat} {cs : Array Value} {t : TypeId}, Has W b cs t → t ≠ 3 → F2.atv.ownBlock ≠ some b := fun hb ht e => by
  obtain ⟨cur, hc⟩ := Rep.has_own M.fr.row e
  exact hb.ne hc ht rfl
 have hx := M.fr.head.of_block (grown_new hg _ M.fr.head.lt (nt M.fr.head (by decide)))
 refine ⟨by rw [hx.cell]; rfl, hx.frozen 1, ?_⟩
 obtain ⟨S', L', I, hs, a1, a2, a3⟩ := M.inn
 rw [← hc]
 exact World.cell?_of_block (grown_new hg _ I.rep.head.lt (fun e => a3 _ e I.rep.ownM))
theorem Making0.start {G : Glob} {S : Nat → Prop} {L : Lay} {st : St} {w : World} (I : In0 G S L st w) (q : Addr) (n : Nat) :
  Making0 G S ⟨w.heap.size + 1, q, .slice none 0 0, w.heap.size, [], st.stack.length, List.replicate n false⟩ { st with stack := st.stack ++ List.replicate 0 0 } w
   (((w.alloc (Obj.cells (madeCells #[Value.bool false] n) 4)).alloc (Obj.cells #[.pointer (some q), .slice none 0 0, .int .i64 st.stack.length, .slice (some ⟨w.heap.size, 0, none⟩) n n] 135)).drew) := by
 have no : ∀ b, w.heap.size ≤ b → ¬ S b := fun b h hS => by have := I.lt b hS; omega
 refine ⟨⟨S, L, ?_, fun b h => .inl h, no _ (by simp), no _ (by simp), fun b e => by simp [Value.ownBlock] at e⟩, (((Kept.refl S w).alloc _).alloc _).drewN 1, ?_, by simp, by simp, fun b e => by simp [Value.ownBlock] at e⟩
 ·have e0 : ({ st with stack := st.stack ++ List.replicate 0 0 } : St) = st := by simp
  rw [e0]
  exact ((I.alloc (Obj.cells (madeCells #[Value.bool false] n) 4)).alloc (Obj.cells #[.pointer (some q), .slice none 0 0, .int .i64 st.stack.length, .slice (some ⟨w.heap.size, 0, none⟩) n n] 135)).drewN 1
 ·refine ⟨?_, own_nil _ _ _ _, ?_, by simp⟩
  ·have h := Has.new (w.alloc (Obj.cells (madeCells #[Value.bool false] n) 4)) #[.pointer (some q), .slice none 0 0, .int .i64 st.stack.length, .slice (some ⟨w.heap.size, 0, none⟩) n n] 135
   rw [show (w.alloc (Obj.cells (madeCells #[Value.bool false] n) 4)).heap.size = w.heap.size + 1 by simp] at h
   simp only [List.length_replicate]
   exact h.drewN 1
  ·rw [← made_held]
   exact ((Has.new w _ 4).alloc _).drewN 1
theorem Making0.copied {G : Glob} {S : Nat → Prop} {F2 : Fr} {st : St} {w W : World} {k : Nat} (M : Making0 G S F2 { st with stack := st.stack ++ List.replicate k 0 } w W) {aa : Option Addr} {ca : Nat} {vs : List Int} (V : ArgsAt S W (.slice aa vs.length ca) vs) (hvn : vs.length ≤ k)
  {S' : Nat → Prop} {L' : Lay} (I : In0 G S' L' { st with stack := st.stack ++ List.replicate k 0 } W) (hs : ∀ b, S' b → S b ∨ w.heap.size ≤ b) (a1 : ¬ S' F2.xb) (a2 : ¬ S' F2.hb) (a3 : ∀ b, F2.atv.ownBlock = some b → ¬ S' b) {As : Option Addr} {cs : Nat} (hsv : L'.sv = .slice As (st.stack.length + k) cs)
  (dp : Option Addr) (hdp : ∀ g, As = some ⟨g, 0, none⟩ → ¬ cs = st.stack.length → dp = some ⟨g, st.stack.length, none⟩) :
  (nums .i64 vs = [] → Making0 G S F2 { st with stack := st.stack ++ putP (List.replicate k 0) vs } w W) ∧
  (∀ v ∈ nums .i64 vs, v.oneCell' = true) ∧
  (nums .i64 vs ≠ [] → ∃ g off ad cur t, dp = some ⟨g, off, none⟩ ∧ aa = some ad ∧ W.heap[g]? = some (.cells cur t (0, 0)) ∧ (∀ j v, (nums .i64 vs)[j]? = some v → W.cell? (ad.add j) = some v) ∧ off + (nums .i64 vs).length ≤ cur.size ∧
   Making0 G S F2 { st with stack := st.stack ++ putP (List.replicate k 0) vs } w (W.setRow g (cur.toList.take off ++ (nums .i64 vs ++ cur.toList.drop (off + (nums .i64 vs).length))).toArray)) := by
 refine ⟨fun h => ?_, ?_, fun h => ?_⟩
 ·have : vs = [] := by simpa [nums] using h
  subst this
  rw [putP_nil]
  exact M
 ·intro v hv
  obtain ⟨x, _, rfl⟩ : ∃ x, x ∈ vs ∧ Value.int .i64 x = v := by simpa [nums] using hv
  rfl
 ·have hv0 : vs ≠ [] := fun e => h (by rw [e]; rfl)
  have hvl : 0 < vs.length := List.length_pos_iff.2 hv0
  obtain ⟨As', cs', hsv', hle, hcm, hrow⟩ := own_form I.rep.stk
  have hlk : (st.stack ++ List.replicate k (0 : Int)).length = st.stack.length + k := by simp
  obtain ⟨g, cur, rfl, hg, hsz, htk⟩ := hrow (by show 0 < (st.stack ++ List.replicate k (0 : Int)).length; omega)
  have hsv2 := hsv'
  rw [hsv] at hsv'
  have hle2 : (st.stack ++ List.replicate k (0 : Int)).length ≤ cs' := hle
  rw [hlk] at hle2
  obtain ⟨rfl, rfl⟩ : As = some ⟨g, 0, none⟩ ∧ cs = cs' := by injection hsv' with e1 _ e2; exact ⟨e1, e2⟩
  obtain ⟨ga, rfl, _, hsrc⟩ := own_src V.own rfl hv0
  have hnl : (nums .i64 vs).length = vs.length := by simp [nums]
  refine ⟨g, st.stack.length, _, cur, 3, hdp g rfl (by omega), rfl, hg, hsrc, by rw [hnl, hsz]; omega, ?_⟩
  have hput := own_put (w := W) (vs := vs) hg hle hcm hsz htk st.stack.length (by rw [show ({ st with stack := st.stack ++ List.replicate k 0 } : St).stack.length = st.stack.length + k from hlk]; omega)
  have e1 : (st.stack ++ List.replicate k (0 : Int)).take st.stack.length ++ (vs ++ (st.stack ++ List.replicate k (0 : Int)).drop (st.stack.length + vs.length)) = st.stack ++ putP (List.replicate k 0) vs := by
   rw [List.take_left, List.drop_append]
   simp [putP, List.take_of_length_le hvn]
  have e1' : ({ st with stack := st.stack ++ List.replicate k 0 } : St).stack.take st.stack.length ++ (vs ++ ({ st with stack := st.stack ++ List.replicate k 0 } : St).stack.drop (st.stack.length + vs.length)) = st.stack ++ putP (List.replicate k 0) vs := e1
  rw [e1'] at hput
  have hl2 : (st.stack ++ putP (List.replicate k 0) vs).length = (st.stack ++ List.replicate k (0 : Int)).length := by simp [putP]; omega
  refine M.rowed (xs := st.stack ++ putP (List.replicate k 0) vs) hl2 ?_ I hs a1 a2 a3 ?_ ?_
  ·intro v hv
   rcases List.mem_append.1 hv with h | h
   ·exact I.rep.okS v (List.mem_append_left _ h)
   ·rcases List.mem_append.1 h with h | h
    ·exact V.ok v (List.mem_of_mem_take h)
    ·have := (List.mem_replicate.1 (List.mem_of_mem_drop h)).2; omega
  ·rw [hsv2]; exact grown_setRow _ _ _
  ·rw [hsv2, hl2]; exact hput
set_option maxRecDepth 100000 in
set_option maxHeartbeats 8000000 in
theorem call0_quiet {G : Glob} {S : Nat → Prop} {L : Lay} {st : St} {w : World} (I : In0 G S L st w) {q : Addr} {f : S48} {A1 A5 : Option Addr} {c1 c5 : Nat} (M : MA G.w0 q f A1 c1 A5 c5) (hl : f.f1.length < 100000) (hN : st.stack.length + need f.f1 < 1099511627776)
  (h0 : ∀ k, k ∈ f.f1 → 0 ≤ k) {av : Value} {vs : List Int} (V : ArgsAt S w av vs) (hvn : vs.length ≤ need f.f1) (hq : f.f4 = true)
  (h1 : st.calls < 392) (hc0 : 0 ≤ st.calls) (hd0 : 0 ≤ st.depth) {X : Runs} (B : EntersOk G q f st vs X) :
  Calls Try.prog 29 #[.pointer (some ⟨G.m, 0, none⟩), .pointer (some q), av] w (CPost0 G S (callP X st [] f vs) w) := by
 obtain ⟨aa, ca, rfl, hca, _⟩ := own_form V.own
 have AV := Aside0.mk V
 have BB := Aside0.mk B
 clear V B
 have c10 := I.rep.c10
 have c9 := I.rep.c9
 have c11 := I.c11
 have c6 := I.rep.c6
 have q1 := pwcb I.base M.h1
 have q4 := pwcb I.base M.h4
 rw [hq] at q4
 obtain ⟨As, cs, hsv, _⟩ := own_reads I.rep.stk
 rw [hsv] at c6
 have d1 : decide (st.calls ≥ 392) = false := by simp; omega
 have d0 : (0 : Int) ≤ f.f1.length := by omega
 have II := Aside0.mk I
 have MM := Aside0.mk M
 have HH0 := Aside0.mk h0
 have hmk := print_make_of (P := Try.prog) 126 4 (.bool false) 1 Try.underlying126 info4 rfl (by omega) f.f1.length (by omega)
 have HS := Aside0.mk I.base.size
 have HLT := Aside0.mk I.lt
 clear I M h0
 go_enter Try.func29, Try.ntmps29
 go_wp2
 go_region_held_law (fun w' => w'.cell? ⟨G.m, 6, none⟩ = some (.slice As st.stack.length cs) ∧ w'.cell? ⟨q.block, q.off + 1, none⟩ = some (.slice A1 f.f1.length c1)) (go_keep) (fail)
 have MK := Aside0.mk (Making0.start II.out q f.f1.length)
 generalize ((w.alloc (Obj.cells (madeCells #[Value.bool false] f.f1.length) 4)).alloc (Obj.cells #[.pointer (some q), .slice none 0 0, .int .i64 st.stack.length, .slice (some ⟨w.heap.size, 0, none⟩) f.f1.length f.f1.length] 135)).drew = W1 at MK ⊢
 have q1' := pwcb MK.out.base MM.out.h1
 go_wp2
 go_loopw [10, 55] (fun _ v wr => ∃ i : Int, v = .int .i64 i ∧ 0 ≤ i ∧ i ≤ f.f1.length ∧ Aside0 (∃ atv, Making0 G S ⟨w.heap.size + 1, q, atv, w.heap.size, frameAt st.stack.length (f.f1.take i.toNat), st.stack.length, List.replicate f.f1.length false⟩ { st with stack := st.stack ++ List.replicate (need (f.f1.take i.toNat)) 0 } w wr)) (fun _ v _ => f.f1.length - (intOf v).toNat)
 case atStart => exact ⟨0, rfl, by omega, by omega, ⟨_, MK.out⟩⟩
 case round =>
  obtain ⟨i, rfl, hi0, hi1, atv, MK0⟩ := hrel
  have MKr := Aside0.mk MK0
  clear MK0
  by_cases hlt : i < f.f1.length
  ·obtain ⟨S', L', I', hs, a1, a2, a3⟩ := MKr.out.inn
   obtain ⟨As', cs', hsv', _⟩ := own_reads I'.rep.stk
   obtain ⟨N, hNe⟩ : ∃ N, st.stack.length + need (f.f1.take i.toNat) = N := ⟨_, rfl⟩
   have hN1 : N < 1099511627776 := by have := need_take f.f1 i.toNat; omega
   have c6r : wr.cell? ⟨G.m, 6, none⟩ = some (.slice As' N cs') := by
    have := I'.rep.c6
    rw [hsv'] at this
    simpa [hNe] using this
   have cx : wr.cell? ⟨w.heap.size + 1, 1, none⟩ = some atv := by rw [MKr.out.fr.head.cell]; rfl
   obtain ⟨ad, e1, hn⟩ := int_at (Kd.C_below MM.out.g1 I'.base) i hi0 hlt
   have II' := Aside0.mk I'
   clear I' hsv'
   subst e1
   have MA := Aside0.mk (MKr.out.below (below_drew (below_alloc (Below.refl _ wr) (Obj.cells #[.int .i64 (1048576 + 4 * (N : Int))] 3))))
   have C6A := Aside0.mk (pwcb (below_drew (below_alloc (Below.refl _ wr) (Obj.cells #[.int .i64 (1048576 + 4 * (N : Int))] 3))) c6r)
   have hwA : IntKind.i64.wrap (4 * (N : Int)) = 4 * (N : Int) := by rw [IntKind.wrap_i64]; omega
   have hwB : IntKind.i64.wrap (1048576 + 4 * (N : Int)) = 1048576 + 4 * (N : Int) := by rw [IntKind.wrap_i64]; omega
   have hgm : G.m ≠ w.heap.size + 1 := fun e => a1 (e ▸ II'.out.rep.ownM)
   have hgm' : w.heap.size + 1 ≠ G.m := Ne.symm hgm
   obtain ⟨i3, hi3, hz3, hs3, hb3⟩ := info3x
   go_wp2
   refine region_heads 12 14 (fun w' => w'.cell? ⟨w.heap.size + 1, 1, none⟩ = some atv ∧ w'.cell? ⟨G.m, 6, none⟩ = some (.slice As' N cs')) (by kernel_rfl) (by kernel_rfl) (by kernel_rfl) ⟨cx, c6r⟩ (by intro c a a' w1 hd h; simp +zetaDelta only [Exit.then, Exit.inBlock, bodyPost] at h ⊢; simpa [hd] using h) ?_
   simp only [List.length_cons, List.length_nil, Nat.reduceAdd, List.range_succ, List.range_zero, List.nil_append, List.cons_append, List.singleton_append]
   repeat (
    refine heads_ex (by rfl) (by rfl) (by rfl) ?_
    apply Exists.intro
    apply And.intro
    ·rintro w' ⟨k1, k2⟩
     apply VR.mk
     go_simp
     with_reducible rfl
    simp only [List.setIfInBounds_toArray, List.set_cons_zero, List.set_cons_succ])
   refine heads_nil ?_
   refine chain_value (v := .slice (some ⟨wr.heap.size, 0, none⟩) 1 1) (w' := (wr.alloc (Obj.cells #[.int .i64 (1048576 + 4 * (N : Int))] 3)).drew) (by rfl) (by rfl) ?_ ⟨?_, C6A.out⟩ ?_
   ·go_simp
   ·rw [MA.out.fr.head.cell]; rfl
   simp only [List.setIfInBounds_toArray, List.set_cons_zero, List.set_cons_succ]
   refine chain_ex (by rfl) ?_
   refine wp_append_lies _ (.tmp 63) (.tmp 71) 23 (by rfl) 0 3 i3 (.int .i64 0) 1 8 Try.underlying23 hi3 hz3 hs3 hb3 rfl (by omega) atv (frameAt st.stack.length (f.f1.take i.toNat)).length (nums .i64 (frameAt st.stack.length (f.f1.take i.toNat))) (by rfl) MA.out.fr.row ⟨wr.heap.size, 0, none⟩ 1 1 [.int .i64 (1048576 + 4 * (N : Int))] (by rfl) (by rfl) (World.news_of_block (heap_alloc_new wr _)) (by intro u hu; simp at hu; subst hu; rfl) (by omega) (by rw [frameAt_length]; simp [maxLen]; omega) (by rw [frameAt_length]; simp; omega) (Nat.zero_le _) (wr.heap.size + 1) (by simp) ?_
   intro g cap w3 ho3 hg hor hlt3
   obtain ⟨kx1, kx2, kx3⟩ := MA.out.after C6A.out hg
   refine ⟨⟨kx1, kx3⟩, chain_done ?_⟩
   have hl4 : (frameAt st.stack.length (f.f1.take i.toNat) ++ [1048576 + 4 * (N : Int)]).length = (frameAt st.stack.length (f.f1.take i.toNat)).length + 1 := by simp
   have ho4 : w3.ownsRow 0 3 1 (.slice (some ⟨g, 0, none⟩) ((frameAt st.stack.length (f.f1.take i.toNat)).length + 1) cap) (frameAt st.stack.length (f.f1.take i.toNat) ++ [1048576 + 4 * (N : Int)]).length (nums .i64 (frameAt st.stack.length (f.f1.take i.toNat) ++ [1048576 + 4 * (N : Int)])) := by
    rw [hl4]
    simpa [nums] using ho3
   have hat4 : (Value.slice (some ⟨g, 0, none⟩) ((frameAt st.stack.length (f.f1.take i.toNat)).length + 1) cap).ownBlock = atv.ownBlock ∨ ∃ b, (Value.slice (some ⟨g, 0, none⟩) ((frameAt st.stack.length (f.f1.take i.toNat)).length + 1) cap).ownBlock = some b ∧ ((wr.alloc (Obj.cells #[.int .i64 (1048576 + 4 * (N : Int))] 3)).drew).heap.size ≤ b := by
    rcases hor with h | h
    ·exact .inl h.symm
    ·exact .inr ⟨g, rfl, by simp [h]⟩
   have hok4 : ∀ v, v ∈ frameAt st.stack.length (f.f1.take i.toNat) ++ [1048576 + 4 * (N : Int)] → v ≤ 9223372036854775807 := by
    intro v hv
    rcases List.mem_append.1 hv with h | h
    ·have := frameAt_le _ _ v h; omega
    ·obtain rfl : v = 1048576 + 4 * (N : Int) := by simpa using h
     omega
   have MB := Aside0.mk (MA.out.placed HS.out hg ho4 hat4 hok4)
   obtain ⟨S2, L2, I2, hs2, b1, b2, b3⟩ := MB.out.inn
   have hsv2 : L2.sv = .slice As' N cs' := by
    have h := I2.rep.c6
    have h2 := kx3
    rw [World.cell?_setCell_far _ _ _ _ (Ne.symm hgm)] at h
    exact Option.some.inj (h.symm.trans h2)
   have hso := I2.rep.stk
   rw [hsv2] at hso
   have IB := Aside0.mk I2
   have HSO := Aside0.mk hso
   have hlk : (st.stack ++ List.replicate (need (f.f1.take i.toNat)) (0 : Int)).length = N := by simp [hNe]
   have hk0 : 0 ≤ rd f.f1 i := by
    have h3 : rd f.f1 i ∈ f.f1 := by
     have : i.toNat < f.f1.length := by omega
     simp only [rd, List.getD_eq_getElem?_getD, List.getElem?_eq_getElem this, Option.getD_some]
     exact List.getElem_mem _
    exact HH0.out _ h3
   have hnd : need (f.f1.take (i.toNat + 1)) = need (f.f1.take i.toNat) + (rd f.f1 i).toNat := by
    rw [take_next _ _ (by omega), need_append, show ((i.toNat : Nat) : Int) = i by omega]
    simp [need]
   have hnl := need_take f.f1 (i.toNat + 1)
   clear I2 hso ho3 ho4 hat4 hok4
   go_wp2_with (at_builtin; refine num_zeros (by rfl) (.tmp 79) (.tmp 80) (by rfl) (.slice As' N cs') (st.stack ++ List.replicate (need (f.f1.take i.toNat)) 0) (rd f.f1 i) (by rfl) (by rfl) HSO.out hk0 (by rw [hlk]; omega) ?_; intro v4 w5 ho5 hg5 hat5; have hg6 := (show World.grownBy _ w5 L2.sv.ownBlock from hsv2 ▸ hg5); obtain ⟨k6, f6⟩ := IB.out.m6 hg6; rw [hsv2] at k6; obtain ⟨A4, c4, rfl, _⟩ := own_reads ho5)
   have hok5 : ∀ v, v ∈ st.stack ++ List.replicate (need (f.f1.take i.toNat)) (0 : Int) ++ List.replicate (rd f.f1 i).toNat 0 → v ≤ 9223372036854775807 := by
    intro v hv
    rcases List.mem_append.1 hv with h | h
    ·exact IB.out.rep.okS v h
    ·have := (List.mem_replicate.1 h).2; omega
   have MC := MB.out.stacked IB.out hs2 b1 b2 b3 hg6 ho5 (by rw [hsv2]; exact hat5) hok5
   have nx : (i + 1).toNat = i.toNat + 1 := by omega
   have e1 : frameAt st.stack.length (f.f1.take (i + 1).toNat) = frameAt st.stack.length (f.f1.take i.toNat) ++ [1048576 + 4 * (N : Int)] := by
    rw [nx, take_next _ _ (by omega), frameAt_append, hNe]
   have e2 : st.stack ++ List.replicate (need (f.f1.take (i + 1).toNat)) (0 : Int) = st.stack ++ List.replicate (need (f.f1.take i.toNat)) (0 : Int) ++ List.replicate (rd f.f1 i).toNat 0 := by
    rw [nx, hnd, ← List.replicate_append_replicate, List.append_assoc]
   have e3 : (st.stack ++ List.replicate (need (f.f1.take i.toNat)) (0 : Int) ++ List.replicate (rd f.f1 i).toNat (0 : Int)).length = st.stack.length + (need (f.f1.take i.toNat) + (rd f.f1 i).toNat) := by simp [Nat.add_assoc]
   rw [e3] at MC
   have MD := Aside0.mk MC
   clear MC
   go_roundw
   case measure => simp [intOf]; omega
   case rel =>
    refine ⟨i + 1, by go_num, by omega, by omega, ⟨.slice (some ⟨g, 0, none⟩) ((frameAt st.stack.length (f.f1.take i.toNat)).length + 1) cap, ?_⟩⟩
    rw [e1, e2]
    exact MD.out
  ·have hd : decide (i < (f.f1.length : Int)) = false := decide_eq_false hlt
   have htk : f.f1.take i.toNat = f.f1 := List.take_of_length_le (by omega)
   rw [htk] at MKr
   obtain ⟨S', L', I', hs, a1, a2, a3⟩ := MKr.out.inn
   have cx2 : wr.cell? ⟨w.heap.size + 1, 2, none⟩ = some (.int .i64 st.stack.length) := by rw [MKr.out.fr.head.cell]; rfl
   have hlk : (st.stack ++ List.replicate (need f.f1) (0 : Int)).length = st.stack.length + need f.f1 := by simp
   obtain ⟨As, cs, hsv', hle, hcm, hrow⟩ := own_form I'.rep.stk
   rw [hlk] at hsv' hle hrow
   have s1 : (st.stack.length : Int) ≤ (st.stack.length : Int) + (need f.f1 : Int) := by omega
   have s2 : (0 : Int) ≤ st.stack.length := by omega
   have c6r : wr.cell? ⟨G.m, 6, none⟩ = some (.slice As (st.stack.length + need f.f1) cs) := by
    have := I'.rep.c6
    rw [hsv'] at this
    exact this
   have AV' := Aside0.mk (AV.out.kept MKr.out.kept)
   have II' := Aside0.mk I'
   have HROW := Aside0.mk hrow
   have HSV' := Aside0.mk hsv'
   clear I' hrow hsv'
   go_wp2
   refine region_heads 10 10 (fun w' => w'.cell? ⟨w.heap.size + 1, 2, none⟩ = some (.int .i64 st.stack.length) ∧ w'.cell? ⟨G.m, 6, none⟩ = some (.slice As (st.stack.length + need f.f1) cs)) (by kernel_rfl) (by kernel_rfl) (by kernel_rfl) ⟨cx2, c6r⟩ (by intro c a a' w1 hd h; simp +zetaDelta only [Exit.then, Exit.inBlock, bodyPost] at h ⊢; simpa [hd] using h) ?_
   simp only [List.length_cons, List.length_nil, Nat.reduceAdd, List.range_succ, List.range_zero, List.nil_append, List.cons_append, List.singleton_append]
   repeat (
    refine heads_ex (by rfl) (by rfl) (by rfl) ?_
    apply Exists.intro
    apply And.intro
    ·rintro w' ⟨k1, k2⟩
     apply VR.mk
     go_simp
     with_reducible rfl
    simp only [List.setIfInBounds_toArray, List.set_cons_zero, List.set_cons_succ])
   refine heads_nil (chain_done ?_)
   have MKD := Aside0.mk (MKr.out.below (below_drew (Below.refl _ wr)))
   have CP := Aside0.mk (MKD.out.copied (AV'.out.kept (Kept.of_below (below_drew (Below.refl _ wr)))) hvn (II'.out.drewN 1) hs a1 a2 a3 HSV'.out (if cs = st.stack.length then As else Option.map (fun x => x.add st.stack.length) As) (by intro g h hn; subst h; rw [if_neg hn]; exact addr_at g _))
   have hcl : (nums .i64 vs).length = Nat.min vs.length (need f.f1) := by simp [nums, Nat.min_def]; omega
   generalize (if cs = st.stack.length then As else Option.map (fun x => x.add st.stack.length) As) = dp at CP ⊢
   have hqm : q.block ≠ G.m := fun e => by
    have h3 := World.block_lt_of_cell? _ _ MM.out.h1
    have h4 := II.out.ge _ II.out.rep.ownM
    simp at h3
    omega
   clear cx2 c6r
   refine wpList_copy_two (by rfl) (.tmp 93) (.tmp 94) 23 23 (by rfl) 3 Try.underlying23 info3s dp aa (need f.f1) (cs - st.stack.length) vs.length ca (by rfl) (by rfl) (nums .i64 vs) hcl (fun w' => Making0 G S _ _ w w') CP.out.1 CP.out.2.1 CP.out.2.2 ?_
   go_wp2_with (intro w5 MZ0; have MZ := Aside0.mk MZ0; clear MZ0; obtain ⟨S5, L5, I5, hs5, b1, b2, b3⟩ := MZ.out.inn; have k10 := I5.rep.c10; have k9 := I5.rep.c9; have k11 := I5.c11; have z10 := I5.rep.fz 10; have z9 := I5.rep.fz 9; have z11 := I5.rep.fz 11; have k4 := pwcb I5.base MM.out.h4; rw [hq] at k4; have IE := Aside0.mk I5; clear I5)
   have hgm : G.m ≠ w.heap.size + 1 := fun e => b1 (e ▸ IE.out.rep.ownM)
   have hgm' : w.heap.size + 1 ≠ G.m := Ne.symm hgm
   have FR6 := (MZ.out.fr.setCell (a := ⟨G.m, 10, none⟩) hgm' (fun b e h => b3 b e (h ▸ IE.out.rep.ownM)) (fun (e : w.heap.size = G.m) => b2 (e ▸ IE.out.rep.ownM)) (.int .i64 (st.calls + 1)))
   have IN6 := Aside0.mk ((IE.out.set_calls (st.calls + 1)).swap FR6 b1 b3 b2 HS.out)
   have KP6 := Aside0.mk ((MZ.out.kept.setCell (a := ⟨G.m, 10, none⟩) II.out.rep.ownM (.int .i64 (st.calls + 1))).setCell (a := ⟨G.m, 11, none⟩) II.out.rep.ownM (.pointer (some ⟨w.heap.size + 1, 0, none⟩)))
   have hen : enterP st f vs = { st with stack := st.stack ++ putP (List.replicate (need f.f1) 0) vs, calls := st.calls + 1 } := by simp [enterP, hq]
   have BR := Aside0.mk (BB.out.run S5 L5 _ _ (by rw [hen]; exact IN6.out) rfl rfl rfl)
   clear FR6
   go_wp2_with (go_at_call 55; refine BR.out.mono ?_; intro e w7 hC; rcases CPost.left0 II.out KP6.out hs5 (Nat.le_refl _) (FrameIs.held IN6.out.fr).lt IN6.out.lt hC with ⟨st7, h7, out7, v7, S7, L7, hr, rfl, hL⟩ | ⟨k7, c7, st7, ch, hr, rfl, hP⟩; have LF := Aside0.mk hL; have hb := BB.out.back _ _ _ hr; rw [hen] at hb; obtain ⟨hb1, hb2, hb3⟩ := hb; have y10 := hL.inn.rep.c10; rw [hb1] at y10; have y9 := hL.inn.rep.c9; rw [hb2] at y9; have y4 := pwcb hL.inn.base MM.out.h4; rw [hq] at y4; have x10 := hL.inn.rep.fz 10; have x9 := hL.inn.rep.fz 9; have x11 := hL.inn.rep.fz 11; have yx := hL.inn.f2; have y11 := hL.inn.c11; obtain ⟨A7, C7, hs7, hle7, hcm7, hrow7⟩ := own_form hL.inn.rep.stk; have y6 := hL.inn.rep.c6; rw [hs7] at y6; clear hL hC)
   ·have I8 := Aside0.mk (LF.out.inn.leave.set_calls st.calls)
    have K8 := Aside0.mk ((LF.out.kept.setCell (a := ⟨G.m, 11, none⟩) II.out.rep.ownM (.pointer none)).setCell (a := ⟨G.m, 10, none⟩) II.out.rep.ownM (.int .i64 st.calls))
    have z6 : ((w7.setCell ⟨G.m, 11, none⟩ (.pointer none)).setCell ⟨G.m, 10, none⟩ (.int .i64 st.calls)).cell? ⟨G.m, 6, none⟩ = some (.slice A7 st7.stack.length C7) := by rw [I8.out.rep.c6, hs7]
    have zx : ((w7.setCell ⟨G.m, 11, none⟩ (.pointer none)).setCell ⟨G.m, 10, none⟩ (.int .i64 st.calls)).cell? ⟨w.heap.size + 1, 2, none⟩ = some (.int .i64 st.stack.length) := by
     rw [World.cell?_setCell_far _ _ _ _ hgm, World.cell?_setCell_far _ _ _ _ hgm]; exact yx
    have OW := Aside0.mk (show ((w7.setCell ⟨G.m, 11, none⟩ (.pointer none)).setCell ⟨G.m, 10, none⟩ (.int .i64 st.calls)).ownsRow 0 3 1 v7 out7.length (nums .i64 out7) from Rep.row_of_block LF.out.own (fun b e => by
     have hbm : b ≠ G.m := fun h => (LF.out.far b e).1 (h ▸ LF.out.inn.rep.ownM)
     rw [Below.heap_setCell _ _ _ _ hbm, Below.heap_setCell _ _ _ _ hbm]))
    generalize (w7.setCell ⟨G.m, 11, none⟩ (.pointer none)).setCell ⟨G.m, 10, none⟩ (.int .i64 st.calls) = w8 at I8 K8 z6 zx OW ⊢
    have hb3' : st.stack.length ≤ st7.stack.length := by rw [hb3]; simp
    have t1 : (st.stack.length : Int) ≤ C7 := by omega
    have t2 : (0 : Int) ≤ st.stack.length := by omega
    clear hrow7
    refine region_last (fun w' => w'.cell? ⟨G.m, 6, none⟩ = some (.slice A7 st7.stack.length C7) ∧ w'.cell? ⟨w.heap.size + 1, 2, none⟩ = some (.int .i64 st.stack.length) ∧ Aside0 (Below w8.drew.heap.size w8.drew w')) 12 (by kernel_rfl) (by kernel_rfl) (by kernel_rfl) ⟨z6, zx, ⟨Below.refl _ _⟩⟩ ?_
    simp only [List.range_succ, List.range_zero, List.nil_append, List.cons_append, List.singleton_append]
    repeat (
     refine walk_ex (by rfl) (by rfl) (by rfl) ?_
     apply Exists.intro
     apply And.intro
     ·rintro w' ⟨k1, k2, kb⟩
      apply calm_value
      go_simp
      with_reducible rfl
     simp only [List.setIfInBounds_toArray, List.set_cons_zero, List.set_cons_succ])
    refine walk_fin (by rfl) (by rfl) ?_
    rintro w' ⟨k1, k2, kb⟩ hdf
    have I9 := Aside0.mk ((I8.out.drewN 1).below kb.out)
    have K9 := Aside0.mk ((K8.out.drewN 1).below kb.out)
    have f6 := I9.out.rep.fz 6
    have KB := kb
    clear k2 kb z6 zx
    go_wp2
    go_ret
    have hcp : callP X st [] f vs = .ok (leaveP st.stack.length f st7) [] out7 := by
     unfold callP
     rw [if_neg (by simp [hq]; omega), hr]
    have hlv : leaveP st.stack.length f st7 = { st7 with calls := st.calls, stack := st7.stack.take st.stack.length } := by simp [leaveP, hq, hb1]
    rw [hcp, hlv]
    have hbm : ∀ b, v7.ownBlock = some b → b ≠ G.m := fun b e h => (LF.out.far b e).1 (h ▸ LF.out.inn.rep.ownM)
    exact ⟨K9.out.setCell (a := ⟨G.m, 6, none⟩) II.out.rep.ownM _, v7, rfl, S7, _, LF.out.hs, I9.out.cut st.stack.length hb3' hs7⟩
   ·have hcp : callP X st [] f vs = .halt k7 c7 st7 := by
     unfold callP
     rw [if_neg (by simp [hq]; omega), hr]
    exact ⟨rfl, by rw [hcp]; exact hP⟩
set_option maxRecDepth 100000 in
set_option maxHeartbeats 8000000 in
theorem call0_loud {G : Glob} {S : Nat → Prop} {L : Lay} {st : St} {w : World} (I : In0 G S L st w) {q : Addr} {f : S48} {A1 A5 : Option Addr} {c1 c5 : Nat} (M : MA G.w0 q f A1 c1 A5 c5) (hl : f.f1.length < 100000) (hN : st.stack.length + need f.f1 < 1099511627776)
  (h0 : ∀ k, k ∈ f.f1 → 0 ≤ k) {av : Value} {vs : List Int} (V : ArgsAt S w av vs) (hvn : vs.length ≤ need f.f1) (hq : f.f4 = false)
  (h1 : st.calls < 392) (h2 : st.depth < 48) (hc0 : 0 ≤ st.calls) (hd0 : 0 ≤ st.depth) {X : Runs} (B : EntersOk G q f st vs X) :
  Calls Try.prog 29 #[.pointer (some ⟨G.m, 0, none⟩), .pointer (some q), av] w (CPost0 G S (callP X st [] f vs) w) := by
 obtain ⟨aa, ca, rfl, hca, _⟩ := own_form V.own
 have AV := Aside0.mk V
 have BB := Aside0.mk B
 clear V B
 have c10 := I.rep.c10
 have c9 := I.rep.c9
 have c11 := I.c11
 have c6 := I.rep.c6
 have q1 := pwcb I.base M.h1
 have q4 := pwcb I.base M.h4
 rw [hq] at q4
 obtain ⟨As, cs, hsv, _⟩ := own_reads I.rep.stk
 rw [hsv] at c6
 have d1 : decide (st.calls ≥ 392) = false := by simp; omega
 have d2 : decide (st.depth ≥ 48) = false := by simp; omega
 have d0 : (0 : Int) ≤ f.f1.length := by omega
 have II := Aside0.mk I
 have MM := Aside0.mk M
 have HH0 := Aside0.mk h0
 have hmk := print_make_of (P := Try.prog) 126 4 (.bool false) 1 Try.underlying126 info4 rfl (by omega) f.f1.length (by omega)
 have HS := Aside0.mk I.base.size
 have HLT := Aside0.mk I.lt
 clear I M h0
 go_enter Try.func29, Try.ntmps29
 go_wp2
 go_region_held_law (fun w' => w'.cell? ⟨G.m, 6, none⟩ = some (.slice As st.stack.length cs) ∧ w'.cell? ⟨q.block, q.off + 1, none⟩ = some (.slice A1 f.f1.length c1)) (go_keep) (fail)
 have MK := Aside0.mk (Making0.start II.out q f.f1.length)
 generalize ((w.alloc (Obj.cells (madeCells #[Value.bool false] f.f1.length) 4)).alloc (Obj.cells #[.pointer (some q), .slice none 0 0, .int .i64 st.stack.length, .slice (some ⟨w.heap.size, 0, none⟩) f.f1.length f.f1.length] 135)).drew = W1 at MK ⊢
 have q1' := pwcb MK.out.base MM.out.h1
 go_wp2
 go_loopw [10, 55] (fun _ v wr => ∃ i : Int, v = .int .i64 i ∧ 0 ≤ i ∧ i ≤ f.f1.length ∧ Aside0 (∃ atv, Making0 G S ⟨w.heap.size + 1, q, atv, w.heap.size, frameAt st.stack.length (f.f1.take i.toNat), st.stack.length, List.replicate f.f1.length false⟩ { st with stack := st.stack ++ List.replicate (need (f.f1.take i.toNat)) 0 } w wr)) (fun _ v _ => f.f1.length - (intOf v).toNat)
 case atStart => exact ⟨0, rfl, by omega, by omega, ⟨_, MK.out⟩⟩
 case round =>
  obtain ⟨i, rfl, hi0, hi1, atv, MK0⟩ := hrel
  have MKr := Aside0.mk MK0
  clear MK0
  by_cases hlt : i < f.f1.length
  ·obtain ⟨S', L', I', hs, a1, a2, a3⟩ := MKr.out.inn
   obtain ⟨As', cs', hsv', _⟩ := own_reads I'.rep.stk
   obtain ⟨N, hNe⟩ : ∃ N, st.stack.length + need (f.f1.take i.toNat) = N := ⟨_, rfl⟩
   have hN1 : N < 1099511627776 := by have := need_take f.f1 i.toNat; omega
   have c6r : wr.cell? ⟨G.m, 6, none⟩ = some (.slice As' N cs') := by
    have := I'.rep.c6
    rw [hsv'] at this
    simpa [hNe] using this
   have cx : wr.cell? ⟨w.heap.size + 1, 1, none⟩ = some atv := by rw [MKr.out.fr.head.cell]; rfl
   obtain ⟨ad, e1, hn⟩ := int_at (Kd.C_below MM.out.g1 I'.base) i hi0 hlt
   have II' := Aside0.mk I'
   clear I' hsv'
   subst e1
   have MA := Aside0.mk (MKr.out.below (below_drew (below_alloc (Below.refl _ wr) (Obj.cells #[.int .i64 (1048576 + 4 * (N : Int))] 3))))
   have C6A := Aside0.mk (pwcb (below_drew (below_alloc (Below.refl _ wr) (Obj.cells #[.int .i64 (1048576 + 4 * (N : Int))] 3))) c6r)
   have hwA : IntKind.i64.wrap (4 * (N : Int)) = 4 * (N : Int) := by rw [IntKind.wrap_i64]; omega
   have hwB : IntKind.i64.wrap (1048576 + 4 * (N : Int)) = 1048576 + 4 * (N : Int) := by rw [IntKind.wrap_i64]; omega
   have hgm : G.m ≠ w.heap.size + 1 := fun e => a1 (e ▸ II'.out.rep.ownM)
   have hgm' : w.heap.size + 1 ≠ G.m := Ne.symm hgm
   obtain ⟨i3, hi3, hz3, hs3, hb3⟩ := info3x
   go_wp2
   refine region_heads 12 14 (fun w' => w'.cell? ⟨w.heap.size + 1, 1, none⟩ = some atv ∧ w'.cell? ⟨G.m, 6, none⟩ = some (.slice As' N cs')) (by kernel_rfl) (by kernel_rfl) (by kernel_rfl) ⟨cx, c6r⟩ (by intro c a a' w1 hd h; simp +zetaDelta only [Exit.then, Exit.inBlock, bodyPost] at h ⊢; simpa [hd] using h) ?_
   simp only [List.length_cons, List.length_nil, Nat.reduceAdd, List.range_succ, List.range_zero, List.nil_append, List.cons_append, List.singleton_append]
   repeat (
    refine heads_ex (by rfl) (by rfl) (by rfl) ?_
    apply Exists.intro
    apply And.intro
    ·rintro w' ⟨k1, k2⟩
     apply VR.mk
     go_simp
     with_reducible rfl
    simp only [List.setIfInBounds_toArray, List.set_cons_zero, List.set_cons_succ])
   refine heads_nil ?_
   refine chain_value (v := .slice (some ⟨wr.heap.size, 0, none⟩) 1 1) (w' := (wr.alloc (Obj.cells #[.int .i64 (1048576 + 4 * (N : Int))] 3)).drew) (by rfl) (by rfl) ?_ ⟨?_, C6A.out⟩ ?_
   ·go_simp
   ·rw [MA.out.fr.head.cell]; rfl
   simp only [List.setIfInBounds_toArray, List.set_cons_zero, List.set_cons_succ]
   refine chain_ex (by rfl) ?_
   refine wp_append_lies _ (.tmp 63) (.tmp 71) 23 (by rfl) 0 3 i3 (.int .i64 0) 1 8 Try.underlying23 hi3 hz3 hs3 hb3 rfl (by omega) atv (frameAt st.stack.length (f.f1.take i.toNat)).length (nums .i64 (frameAt st.stack.length (f.f1.take i.toNat))) (by rfl) MA.out.fr.row ⟨wr.heap.size, 0, none⟩ 1 1 [.int .i64 (1048576 + 4 * (N : Int))] (by rfl) (by rfl) (World.news_of_block (heap_alloc_new wr _)) (by intro u hu; simp at hu; subst hu; rfl) (by omega) (by rw [frameAt_length]; simp [maxLen]; omega) (by rw [frameAt_length]; simp; omega) (Nat.zero_le _) (wr.heap.size + 1) (by simp) ?_
   intro g cap w3 ho3 hg hor hlt3
   obtain ⟨kx1, kx2, kx3⟩ := MA.out.after C6A.out hg
   refine ⟨⟨kx1, kx3⟩, chain_done ?_⟩
   have hl4 : (frameAt st.stack.length (f.f1.take i.toNat) ++ [1048576 + 4 * (N : Int)]).length = (frameAt st.stack.length (f.f1.take i.toNat)).length + 1 := by simp
   have ho4 : w3.ownsRow 0 3 1 (.slice (some ⟨g, 0, none⟩) ((frameAt st.stack.length (f.f1.take i.toNat)).length + 1) cap) (frameAt st.stack.length (f.f1.take i.toNat) ++ [1048576 + 4 * (N : Int)]).length (nums .i64 (frameAt st.stack.length (f.f1.take i.toNat) ++ [1048576 + 4 * (N : Int)])) := by
    rw [hl4]
    simpa [nums] using ho3
   have hat4 : (Value.slice (some ⟨g, 0, none⟩) ((frameAt st.stack.length (f.f1.take i.toNat)).length + 1) cap).ownBlock = atv.ownBlock ∨ ∃ b, (Value.slice (some ⟨g, 0, none⟩) ((frameAt st.stack.length (f.f1.take i.toNat)).length + 1) cap).ownBlock = some b ∧ ((wr.alloc (Obj.cells #[.int .i64 (1048576 + 4 * (N : Int))] 3)).drew).heap.size ≤ b := by
    rcases hor with h | h
    ·exact .inl h.symm
    ·exact .inr ⟨g, rfl, by simp [h]⟩
   have hok4 : ∀ v, v ∈ frameAt st.stack.length (f.f1.take i.toNat) ++ [1048576 + 4 * (N : Int)] → v ≤ 9223372036854775807 := by
    intro v hv
    rcases List.mem_append.1 hv with h | h
    ·have := frameAt_le _ _ v h; omega
    ·obtain rfl : v = 1048576 + 4 * (N : Int) := by simpa using h
     omega
   have MB := Aside0.mk (MA.out.placed HS.out hg ho4 hat4 hok4)
   obtain ⟨S2, L2, I2, hs2, b1, b2, b3⟩ := MB.out.inn
   have hsv2 : L2.sv = .slice As' N cs' := by
    have h := I2.rep.c6
    have h2 := kx3
    rw [World.cell?_setCell_far _ _ _ _ (Ne.symm hgm)] at h
    exact Option.some.inj (h.symm.trans h2)
   have hso := I2.rep.stk
   rw [hsv2] at hso
   have IB := Aside0.mk I2
   have HSO := Aside0.mk hso
   have hlk : (st.stack ++ List.replicate (need (f.f1.take i.toNat)) (0 : Int)).length = N := by simp [hNe]
   have hk0 : 0 ≤ rd f.f1 i := by
    have h3 : rd f.f1 i ∈ f.f1 := by
     have : i.toNat < f.f1.length := by omega
     simp only [rd, List.getD_eq_getElem?_getD, List.getElem?_eq_getElem this, Option.getD_some]
     exact List.getElem_mem _
    exact HH0.out _ h3
   have hnd : need (f.f1.take (i.toNat + 1)) = need (f.f1.take i.toNat) + (rd f.f1 i).toNat := by
    rw [take_next _ _ (by omega), need_append, show ((i.toNat : Nat) : Int) = i by omega]
    simp [need]
   have hnl := need_take f.f1 (i.toNat + 1)
   clear I2 hso ho3 ho4 hat4 hok4
   go_wp2_with (at_builtin; refine num_zeros (by rfl) (.tmp 79) (.tmp 80) (by rfl) (.slice As' N cs') (st.stack ++ List.replicate (need (f.f1.take i.toNat)) 0) (rd f.f1 i) (by rfl) (by rfl) HSO.out hk0 (by rw [hlk]; omega) ?_; intro v4 w5 ho5 hg5 hat5; have hg6 := (show World.grownBy _ w5 L2.sv.ownBlock from hsv2 ▸ hg5); obtain ⟨k6, f6⟩ := IB.out.m6 hg6; rw [hsv2] at k6; obtain ⟨A4, c4, rfl, _⟩ := own_reads ho5)
   have hok5 : ∀ v, v ∈ st.stack ++ List.replicate (need (f.f1.take i.toNat)) (0 : Int) ++ List.replicate (rd f.f1 i).toNat 0 → v ≤ 9223372036854775807 := by
    intro v hv
    rcases List.mem_append.1 hv with h | h
    ·exact IB.out.rep.okS v h
    ·have := (List.mem_replicate.1 h).2; omega
   have MC := MB.out.stacked IB.out hs2 b1 b2 b3 hg6 ho5 (by rw [hsv2]; exact hat5) hok5
   have nx : (i + 1).toNat = i.toNat + 1 := by omega
   have e1 : frameAt st.stack.length (f.f1.take (i + 1).toNat) = frameAt st.stack.length (f.f1.take i.toNat) ++ [1048576 + 4 * (N : Int)] := by
    rw [nx, take_next _ _ (by omega), frameAt_append, hNe]
   have e2 : st.stack ++ List.replicate (need (f.f1.take (i + 1).toNat)) (0 : Int) = st.stack ++ List.replicate (need (f.f1.take i.toNat)) (0 : Int) ++ List.replicate (rd f.f1 i).toNat 0 := by
    rw [nx, hnd, ← List.replicate_append_replicate, List.append_assoc]
   have e3 : (st.stack ++ List.replicate (need (f.f1.take i.toNat)) (0 : Int) ++ List.replicate (rd f.f1 i).toNat (0 : Int)).length = st.stack.length + (need (f.f1.take i.toNat) + (rd f.f1 i).toNat) := by simp [Nat.add_assoc]
   rw [e3] at MC
   have MD := Aside0.mk MC
   clear MC
   go_roundw
   case measure => simp [intOf]; omega
   case rel =>
    refine ⟨i + 1, by go_num, by omega, by omega, ⟨.slice (some ⟨g, 0, none⟩) ((frameAt st.stack.length (f.f1.take i.toNat)).length + 1) cap, ?_⟩⟩
    rw [e1, e2]
    exact MD.out
  ·have hd : decide (i < (f.f1.length : Int)) = false := decide_eq_false hlt
   have htk : f.f1.take i.toNat = f.f1 := List.take_of_length_le (by omega)
   rw [htk] at MKr
   obtain ⟨S', L', I', hs, a1, a2, a3⟩ := MKr.out.inn
   have cx2 : wr.cell? ⟨w.heap.size + 1, 2, none⟩ = some (.int .i64 st.stack.length) := by rw [MKr.out.fr.head.cell]; rfl
   have hlk : (st.stack ++ List.replicate (need f.f1) (0 : Int)).length = st.stack.length + need f.f1 := by simp
   obtain ⟨As, cs, hsv', hle, hcm, hrow⟩ := own_form I'.rep.stk
   rw [hlk] at hsv' hle hrow
   have s1 : (st.stack.length : Int) ≤ (st.stack.length : Int) + (need f.f1 : Int) := by omega
   have s2 : (0 : Int) ≤ st.stack.length := by omega
   have c6r : wr.cell? ⟨G.m, 6, none⟩ = some (.slice As (st.stack.length + need f.f1) cs) := by
    have := I'.rep.c6
    rw [hsv'] at this
    exact this
   have AV' := Aside0.mk (AV.out.kept MKr.out.kept)
   have II' := Aside0.mk I'
   have HROW := Aside0.mk hrow
   have HSV' := Aside0.mk hsv'
   clear I' hrow hsv'
   go_wp2
   refine region_heads 10 10 (fun w' => w'.cell? ⟨w.heap.size + 1, 2, none⟩ = some (.int .i64 st.stack.length) ∧ w'.cell? ⟨G.m, 6, none⟩ = some (.slice As (st.stack.length + need f.f1) cs)) (by kernel_rfl) (by kernel_rfl) (by kernel_rfl) ⟨cx2, c6r⟩ (by intro c a a' w1 hd h; simp +zetaDelta only [Exit.then, Exit.inBlock, bodyPost] at h ⊢; simpa [hd] using h) ?_
   simp only [List.length_cons, List.length_nil, Nat.reduceAdd, List.range_succ, List.range_zero, List.nil_append, List.cons_append, List.singleton_append]
   repeat (
    refine heads_ex (by rfl) (by rfl) (by rfl) ?_
    apply Exists.intro
    apply And.intro
    ·rintro w' ⟨k1, k2⟩
     apply VR.mk
     go_simp
     with_reducible rfl
    simp only [List.setIfInBounds_toArray, List.set_cons_zero, List.set_cons_succ])
   refine heads_nil (chain_done ?_)
   have MKD := Aside0.mk (MKr.out.below (below_drew (Below.refl _ wr)))
   have CP := Aside0.mk (MKD.out.copied (AV'.out.kept (Kept.of_below (below_drew (Below.refl _ wr)))) hvn (II'.out.drewN 1) hs a1 a2 a3 HSV'.out (if cs = st.stack.length then As else Option.map (fun x => x.add st.stack.length) As) (by intro g h hn; subst h; rw [if_neg hn]; exact addr_at g _))
   have hcl : (nums .i64 vs).length = Nat.min vs.length (need f.f1) := by simp [nums, Nat.min_def]; omega
   generalize (if cs = st.stack.length then As else Option.map (fun x => x.add st.stack.length) As) = dp at CP ⊢
   have hqm : q.block ≠ G.m := fun e => by
    have h3 := World.block_lt_of_cell? _ _ MM.out.h1
    have h4 := II.out.ge _ II.out.rep.ownM
    simp at h3
    omega
   clear cx2 c6r
   refine wpList_copy_two (by rfl) (.tmp 93) (.tmp 94) 23 23 (by rfl) 3 Try.underlying23 info3s dp aa (need f.f1) (cs - st.stack.length) vs.length ca (by rfl) (by rfl) (nums .i64 vs) hcl (fun w' => Making0 G S _ _ w w') CP.out.1 CP.out.2.1 CP.out.2.2 ?_
   go_wp2_with (intro w5 MZ0; have MZ := Aside0.mk MZ0; clear MZ0; obtain ⟨S5, L5, I5, hs5, b1, b2, b3⟩ := MZ.out.inn; have k10 := I5.rep.c10; have k9 := I5.rep.c9; have k11 := I5.c11; have z10 := I5.rep.fz 10; have z9 := I5.rep.fz 9; have z11 := I5.rep.fz 11; have k4 := pwcb I5.base MM.out.h4; rw [hq] at k4; have IE := Aside0.mk I5; clear I5)
   have hgm : G.m ≠ w.heap.size + 1 := fun e => b1 (e ▸ IE.out.rep.ownM)
   have hgm' : w.heap.size + 1 ≠ G.m := Ne.symm hgm
   have FR6 := (MZ.out.fr.setCell (a := ⟨G.m, 10, none⟩) hgm' (fun b e h => b3 b e (h ▸ IE.out.rep.ownM)) (fun (e : w.heap.size = G.m) => b2 (e ▸ IE.out.rep.ownM)) (.int .i64 (st.calls + 1))).setCell (a := ⟨G.m, 9, none⟩) hgm' (fun b e h => b3 b e (h ▸ IE.out.rep.ownM)) (fun (e : w.heap.size = G.m) => b2 (e ▸ IE.out.rep.ownM)) (.int .i64 (st.depth + 1))
   have IN6 := Aside0.mk (((IE.out.set_calls (st.calls + 1)).set_depth (st.depth + 1)).swap FR6 b1 b3 b2 HS.out)
   have KP6 := Aside0.mk (((MZ.out.kept.setCell (a := ⟨G.m, 10, none⟩) II.out.rep.ownM (.int .i64 (st.calls + 1))).setCell (a := ⟨G.m, 9, none⟩) II.out.rep.ownM (.int .i64 (st.depth + 1))).setCell (a := ⟨G.m, 11, none⟩) II.out.rep.ownM (.pointer (some ⟨w.heap.size + 1, 0, none⟩)))
   have hen : enterP st f vs = { st with stack := st.stack ++ putP (List.replicate (need f.f1) 0) vs, calls := st.calls + 1, depth := st.depth + 1 } := by simp [enterP, hq]
   have BR := Aside0.mk (BB.out.run S5 L5 _ _ (by rw [hen]; exact IN6.out) rfl rfl rfl)
   clear FR6
   go_wp2_with (go_at_call 55; refine BR.out.mono ?_; intro e w7 hC; rcases CPost.left0 II.out KP6.out hs5 (Nat.le_refl _) (FrameIs.held IN6.out.fr).lt IN6.out.lt hC with ⟨st7, h7, out7, v7, S7, L7, hr, rfl, hL⟩ | ⟨k7, c7, st7, ch, hr, rfl, hP⟩; have LF := Aside0.mk hL; have hb := BB.out.back _ _ _ hr; rw [hen] at hb; obtain ⟨hb1, hb2, hb3⟩ := hb; have y10 := hL.inn.rep.c10; rw [hb1] at y10; have y9 := hL.inn.rep.c9; rw [hb2] at y9; have y4 := pwcb hL.inn.base MM.out.h4; rw [hq] at y4; have x10 := hL.inn.rep.fz 10; have x9 := hL.inn.rep.fz 9; have x11 := hL.inn.rep.fz 11; have yx := hL.inn.f2; have y11 := hL.inn.c11; obtain ⟨A7, C7, hs7, hle7, hcm7, hrow7⟩ := own_form hL.inn.rep.stk; have y6 := hL.inn.rep.c6; rw [hs7] at y6; clear hL hC)
   ·have I8 := Aside0.mk ((LF.out.inn.leave.set_calls st.calls).set_depth st.depth)
    have K8 := Aside0.mk (((LF.out.kept.setCell (a := ⟨G.m, 11, none⟩) II.out.rep.ownM (.pointer none)).setCell (a := ⟨G.m, 10, none⟩) II.out.rep.ownM (.int .i64 st.calls)).setCell (a := ⟨G.m, 9, none⟩) II.out.rep.ownM (.int .i64 st.depth))
    have z6 : (((w7.setCell ⟨G.m, 11, none⟩ (.pointer none)).setCell ⟨G.m, 10, none⟩ (.int .i64 st.calls)).setCell ⟨G.m, 9, none⟩ (.int .i64 st.depth)).cell? ⟨G.m, 6, none⟩ = some (.slice A7 st7.stack.length C7) := by rw [I8.out.rep.c6, hs7]
    have zx : (((w7.setCell ⟨G.m, 11, none⟩ (.pointer none)).setCell ⟨G.m, 10, none⟩ (.int .i64 st.calls)).setCell ⟨G.m, 9, none⟩ (.int .i64 st.depth)).cell? ⟨w.heap.size + 1, 2, none⟩ = some (.int .i64 st.stack.length) := by
     rw [World.cell?_setCell_far _ _ _ _ hgm, World.cell?_setCell_far _ _ _ _ hgm, World.cell?_setCell_far _ _ _ _ hgm]; exact yx
    have OW := Aside0.mk (show (((w7.setCell ⟨G.m, 11, none⟩ (.pointer none)).setCell ⟨G.m, 10, none⟩ (.int .i64 st.calls)).setCell ⟨G.m, 9, none⟩ (.int .i64 st.depth)).ownsRow 0 3 1 v7 out7.length (nums .i64 out7) from Rep.row_of_block LF.out.own (fun b e => by
     have hbm : b ≠ G.m := fun h => (LF.out.far b e).1 (h ▸ LF.out.inn.rep.ownM)
     rw [Below.heap_setCell _ _ _ _ hbm, Below.heap_setCell _ _ _ _ hbm, Below.heap_setCell _ _ _ _ hbm]))
    generalize ((w7.setCell ⟨G.m, 11, none⟩ (.pointer none)).setCell ⟨G.m, 10, none⟩ (.int .i64 st.calls)).setCell ⟨G.m, 9, none⟩ (.int .i64 st.depth) = w8 at I8 K8 z6 zx OW ⊢
    have hb3' : st.stack.length ≤ st7.stack.length := by rw [hb3]; simp
    have t1 : (st.stack.length : Int) ≤ C7 := by omega
    have t2 : (0 : Int) ≤ st.stack.length := by omega
    clear hrow7
    refine region_last (fun w' => w'.cell? ⟨G.m, 6, none⟩ = some (.slice A7 st7.stack.length C7) ∧ w'.cell? ⟨w.heap.size + 1, 2, none⟩ = some (.int .i64 st.stack.length) ∧ Aside0 (Below w8.drew.heap.size w8.drew w')) 12 (by kernel_rfl) (by kernel_rfl) (by kernel_rfl) ⟨z6, zx, ⟨Below.refl _ _⟩⟩ ?_
    simp only [List.range_succ, List.range_zero, List.nil_append, List.cons_append, List.singleton_append]
    repeat (
     refine walk_ex (by rfl) (by rfl) (by rfl) ?_
     apply Exists.intro
     apply And.intro
     ·rintro w' ⟨k1, k2, kb⟩
      apply calm_value
      go_simp
      with_reducible rfl
     simp only [List.setIfInBounds_toArray, List.set_cons_zero, List.set_cons_succ])
    refine walk_fin (by rfl) (by rfl) ?_
    rintro w' ⟨k1, k2, kb⟩ hdf
    have I9 := Aside0.mk ((I8.out.drewN 1).below kb.out)
    have K9 := Aside0.mk ((K8.out.drewN 1).below kb.out)
    have f6 := I9.out.rep.fz 6
    have KB := kb
    clear k2 kb z6 zx
    go_wp2
    go_ret
    have hcp : callP X st [] f vs = .ok (leaveP st.stack.length f st7) [] out7 := by
     unfold callP
     rw [if_neg (by simp [hq]; omega), hr]
    have hlv : leaveP st.stack.length f st7 = { st7 with calls := st.calls, depth := st.depth, stack := st7.stack.take st.stack.length } := by simp [leaveP, hq, hb1, hb2]
    rw [hcp, hlv]
    have hbm : ∀ b, v7.ownBlock = some b → b ≠ G.m := fun b e h => (LF.out.far b e).1 (h ▸ LF.out.inn.rep.ownM)
    exact ⟨K9.out.setCell (a := ⟨G.m, 6, none⟩) II.out.rep.ownM _, v7, rfl, S7, _, LF.out.hs, I9.out.cut st.stack.length hb3' hs7⟩
   ·have hcp : callP X st [] f vs = .halt k7 c7 st7 := by
     unfold callP
     rw [if_neg (by simp [hq]; omega), hr]
    exact ⟨rfl, by rw [hcp]; exact hP⟩
theorem make_bools (n : Nat) (h : n ≤ 281474976710656) : ∀ W : World, (Instr.makeSlice 126 (.int .i64 (n : Int)) (.int .i64 (n : Int))).run Try.prog W = .ok (.slice (some ⟨W.heap.size, 0, none⟩) n n) (W.alloc (.cells (madeCells #[.bool false] n) 4)) :=
 print_make_of (P := Try.prog) 126 4 (.bool false) 1 Try.underlying126 info4 rfl (by omega) n (by omega)
theorem made_bits (k : Nat) : madeCells #[Value.bool false] (clsBlocks k) = bits (fun _ _ => false) k := by
 apply Array.ext
 ·simp [size_madeCells, bits]
 ·intro i h1 h2
  simp [madeCells, bits, Nat.mod_one]
set_option maxRecDepth 100000 in
set_option maxHeartbeats 8000000 in
theorem new_heap (w : World) :
  Calls Try.prog 25 #[] w fun e w' => ∃ h u, e = .returned (.pointer (some ⟨h, 0, none⟩)) ∧ Below w.heap.size w w' ∧ HeapIs w' h u (fun _ _ => false) ∧ w.heap.size ≤ h ∧ ∀ k, k < 4 → w.heap.size ≤ u k := by
 have i0 := ix0; have i1 := ix1; have i2 := ix2; have i3 := ix3
 go_enter Try.func25, Try.ntmps25
 go_wp2_with (go_at_call 54; refine (all _).mono ?_; rintro e w1 ⟨rfl, hb⟩)
 have HW0 : Aside0 (Has w1 w.heap.size #[.bool true, .slice none 0 0, .slice none 0 0, .slice none 0 0, .slice none 0 0] 129) := ⟨(Has.new w _ 129).belowS hb⟩
 have BW0 : Aside0 (Below w.heap.size w w1) := ⟨below_then (below_alloc (Below.refl _ w) _) (by simp) hb⟩
 have sz0 : w.heap.size < w1.heap.size := by have := HW0.out.lt; omega
 clear hb
 refine wp_loop_rounds 5 ?_
 rw [rounds_succ]
 go_wp2
 obtain ⟨V0, hV0⟩ : ∃ V, w1.alloc (Obj.cells #[.int .i64 4, .int .i64 64, .int .i64 262144] 131) = V := ⟨_, rfl⟩
 rw [hV0]
 have t0 : V0.cell? ⟨w1.heap.size, 1, none⟩ = some (.int .i64 64) := by rw [← hV0]; simp [go_sem]
 have HV0 : Aside0 (Has V0 w.heap.size #[.bool true, .slice none 0 0, .slice none 0 0, .slice none 0 0, .slice none 0 0] 129) := ⟨hV0 ▸ HW0.out.alloc _⟩
 have BV0 : Aside0 (Below w.heap.size w V0) := ⟨hV0 ▸ below_alloc BW0.out _⟩
 have sv0 : w1.heap.size < V0.heap.size := by rw [← hV0]; simp
 have mk0 : ∀ W : World, (Instr.makeSlice 126 (.int .i64 64) (.int .i64 64)).run Try.prog W = .ok (.slice (some ⟨W.heap.size, 0, none⟩) 64 64) (W.alloc (.cells (madeCells #[.bool false] 64) 4)) := make_bools 64 (by omega)
 have hc0 : (V0.alloc (Obj.cells (madeCells #[.bool false] 64) 4)).cell? ⟨w.heap.size, 1, none⟩ = some (.slice none 0 0) := (HV0.out.alloc _).cell 1
 have hf0 : (V0.alloc (Obj.cells (madeCells #[.bool false] 64) 4)).frozen? ⟨w.heap.size, 1, none⟩ = false := (HV0.out.alloc _).frozen 1
 have tt0 : (V0.alloc (Obj.cells (madeCells #[.bool false] 64) 4)).cell? ⟨w1.heap.size, 1, none⟩ = some (.int .i64 64) := pwcb (below_alloc (Below.refl _ V0) _) t0
 refine region_mix [.h 0, .h 1, .h 2, .h 3, .h 5, .h 6, .c 4, .h 7, .c 8] (fun w' => w'.cell? ⟨w1.heap.size, 1, none⟩ = some (.int .i64 64)) (by kernel_rfl) (by kernel_rfl) t0 (by intro c a a' w1 hd h; simp +zetaDelta only [Exit.then, Exit.inBlock, bodyPost] at h ⊢; simp at h) ?_
 repeat (
  refine mix_h (by rfl) (by rfl) (by rfl) ?_
  apply Exists.intro
  apply And.intro
  ·intro w' k1
   apply VR.mk
   go_simp
   with_reducible rfl
  simp only [List.setIfInBounds_toArray, List.set_cons_zero, List.set_cons_succ])
 refine mix_value (v := .slice (some ⟨V0.heap.size, 0, none⟩) 64 64) (w' := (V0.alloc (Obj.cells (madeCells #[.bool false] 64) 4)).drew) (by rfl) (by rfl) (by rfl) ⟨by go_simp⟩ tt0 ?_
 simp only [List.setIfInBounds_toArray, List.set_cons_zero, List.set_cons_succ]
 refine mix_h (by rfl) (by rfl) (by rfl) ?_
 apply Exists.intro
 apply And.intro
 ·intro w' k1
  apply VR.mk
  go_simp
  with_reducible rfl
 simp only [List.setIfInBounds_toArray, List.set_cons_zero, List.set_cons_succ]
 have hne0 : w.heap.size ≠ w1.heap.size := by omega
 refine mix_store (w' := ((V0.alloc (Obj.cells (madeCells #[.bool false] 64) 4)).setCell ⟨w.heap.size, 1, none⟩ (.slice (some ⟨V0.heap.size, 0, none⟩) 64 64)).drew) (by rfl) (by rfl) (by rfl) ⟨by go_simp⟩ ((World.cell?_setCell_far _ ⟨w.heap.size, 1, none⟩ ⟨w1.heap.size, 1, none⟩ _ hne0).trans tt0) ?_
 refine mix_nil ?_
 obtain ⟨W1, hW1⟩ : ∃ W, ((V0.alloc (Obj.cells (madeCells #[.bool false] 64) 4)).setCell ⟨w.heap.size, 1, none⟩ (.slice (some ⟨V0.heap.size, 0, none⟩) 64 64)).drew = W := ⟨_, rfl⟩
 rw [hW1]
 have HW1 : Aside0 (Has W1 w.heap.size #[.bool true, .slice (some ⟨V0.heap.size, 0, none⟩) 64 64, .slice none 0 0, .slice none 0 0, .slice none 0 0] 129) := ⟨hW1 ▸ ((HV0.out.alloc _).set_ 1 _).drewN 1⟩
 have BW1 : Aside0 (Below w.heap.size w W1) := ⟨hW1 ▸ below_drew ((below_alloc BV0.out _).setCell (Nat.le_refl _) _)⟩
 have sw1 : V0.heap.size < W1.heap.size := by rw [← hW1]; simp [World.setCell]
 have Q1_0 : Aside0 (Has W1 V0.heap.size (bits (fun _ _ => false) 0) 4) := ⟨by
  rw [← hW1, ← made_bits]
  exact ((Has.new V0 _ 4).other (by show V0.heap.size ≠ w.heap.size; omega) _).drewN 1⟩
 clear hV0 hW1 hc0 hf0 tt0 t0 mk0 HV0 BV0 HW0 BW0
 go_wp2
 rw [rounds_succ]
 go_wp2
 obtain ⟨V1, hV1⟩ : ∃ V, W1.alloc (Obj.cells #[.int .i64 16, .int .i64 32, .int .i64 263168] 131) = V := ⟨_, rfl⟩
 rw [hV1]
 have t1 : V1.cell? ⟨W1.heap.size, 1, none⟩ = some (.int .i64 32) := by rw [← hV1]; simp [go_sem]
 have HV1 : Aside0 (Has V1 w.heap.size #[.bool true, .slice (some ⟨V0.heap.size, 0, none⟩) 64 64, .slice none 0 0, .slice none 0 0, .slice none 0 0] 129) := ⟨hV1 ▸ HW1.out.alloc _⟩
 have BV1 : Aside0 (Below w.heap.size w V1) := ⟨hV1 ▸ below_alloc BW1.out _⟩
 have sv1 : W1.heap.size < V1.heap.size := by rw [← hV1]; simp
 have R1_0 : Aside0 (Has V1 V0.heap.size (bits (fun _ _ => false) 0) 4) := ⟨hV1 ▸ Q1_0.out.alloc _⟩
 have mk1 : ∀ W : World, (Instr.makeSlice 126 (.int .i64 32) (.int .i64 32)).run Try.prog W = .ok (.slice (some ⟨W.heap.size, 0, none⟩) 32 32) (W.alloc (.cells (madeCells #[.bool false] 32) 4)) := make_bools 32 (by omega)
 have hc1 : (V1.alloc (Obj.cells (madeCells #[.bool false] 32) 4)).cell? ⟨w.heap.size, 2, none⟩ = some (.slice none 0 0) := (HV1.out.alloc _).cell 2
 have hf1 : (V1.alloc (Obj.cells (madeCells #[.bool false] 32) 4)).frozen? ⟨w.heap.size, 2, none⟩ = false := (HV1.out.alloc _).frozen 2
 have tt1 : (V1.alloc (Obj.cells (madeCells #[.bool false] 32) 4)).cell? ⟨W1.heap.size, 1, none⟩ = some (.int .i64 32) := pwcb (below_alloc (Below.refl _ V1) _) t1
 refine region_mix [.h 0, .h 1, .h 2, .h 3, .h 5, .h 6, .c 4, .h 7, .c 8] (fun w' => w'.cell? ⟨W1.heap.size, 1, none⟩ = some (.int .i64 32)) (by kernel_rfl) (by kernel_rfl) t1 (by intro c a a' w1 hd h; simp +zetaDelta only [Exit.then, Exit.inBlock, bodyPost] at h ⊢; simp at h) ?_
 repeat (
  refine mix_h (by rfl) (by rfl) (by rfl) ?_
  apply Exists.intro
  apply And.intro
  ·intro w' k1
   apply VR.mk
   go_simp
   with_reducible rfl
  simp only [List.setIfInBounds_toArray, List.set_cons_zero, List.set_cons_succ])
 refine mix_value (v := .slice (some ⟨V1.heap.size, 0, none⟩) 32 32) (w' := (V1.alloc (Obj.cells (madeCells #[.bool false] 32) 4)).drew) (by rfl) (by rfl) (by rfl) ⟨by go_simp⟩ tt1 ?_
 simp only [List.setIfInBounds_toArray, List.set_cons_zero, List.set_cons_succ]
 refine mix_h (by rfl) (by rfl) (by rfl) ?_
 apply Exists.intro
 apply And.intro
 ·intro w' k1
  apply VR.mk
  go_simp
  with_reducible rfl
 simp only [List.setIfInBounds_toArray, List.set_cons_zero, List.set_cons_succ]
 have hne1 : w.heap.size ≠ W1.heap.size := by omega
 refine mix_store (w' := ((V1.alloc (Obj.cells (madeCells #[.bool false] 32) 4)).setCell ⟨w.heap.size, 2, none⟩ (.slice (some ⟨V1.heap.size, 0, none⟩) 32 32)).drew) (by rfl) (by rfl) (by rfl) ⟨by go_simp⟩ ((World.cell?_setCell_far _ ⟨w.heap.size, 2, none⟩ ⟨W1.heap.size, 1, none⟩ _ hne1).trans tt1) ?_
 refine mix_nil ?_
 obtain ⟨W2, hW2⟩ : ∃ W, ((V1.alloc (Obj.cells (madeCells #[.bool false] 32) 4)).setCell ⟨w.heap.size, 2, none⟩ (.slice (some ⟨V1.heap.size, 0, none⟩) 32 32)).drew = W := ⟨_, rfl⟩
 rw [hW2]
 have HW2 : Aside0 (Has W2 w.heap.size #[.bool true, .slice (some ⟨V0.heap.size, 0, none⟩) 64 64, .slice (some ⟨V1.heap.size, 0, none⟩) 32 32, .slice none 0 0, .slice none 0 0] 129) := ⟨hW2 ▸ ((HV1.out.alloc _).set_ 2 _).drewN 1⟩
 have BW2 : Aside0 (Below w.heap.size w W2) := ⟨hW2 ▸ below_drew ((below_alloc BV1.out _).setCell (Nat.le_refl _) _)⟩
 have sw2 : V1.heap.size < W2.heap.size := by rw [← hW2]; simp [World.setCell]
 have Q2_0 : Aside0 (Has W2 V0.heap.size (bits (fun _ _ => false) 0) 4) := ⟨hW2 ▸ ((R1_0.out.alloc _).other (by show V0.heap.size ≠ w.heap.size; omega) _).drewN 1⟩
 have Q2_1 : Aside0 (Has W2 V1.heap.size (bits (fun _ _ => false) 1) 4) := ⟨by
  rw [← hW2, ← made_bits]
  exact ((Has.new V1 _ 4).other (by show V1.heap.size ≠ w.heap.size; omega) _).drewN 1⟩
 clear hV1 hW2 hc1 hf1 tt1 t1 mk1 HV1 BV1 HW1 BW1
 go_wp2
 rw [rounds_succ]
 go_wp2
 obtain ⟨V2, hV2⟩ : ∃ V, W2.alloc (Obj.cells #[.int .i64 64, .int .i64 16, .int .i64 265216] 131) = V := ⟨_, rfl⟩
 rw [hV2]
 have t2 : V2.cell? ⟨W2.heap.size, 1, none⟩ = some (.int .i64 16) := by rw [← hV2]; simp [go_sem]
 have HV2 : Aside0 (Has V2 w.heap.size #[.bool true, .slice (some ⟨V0.heap.size, 0, none⟩) 64 64, .slice (some ⟨V1.heap.size, 0, none⟩) 32 32, .slice none 0 0, .slice none 0 0] 129) := ⟨hV2 ▸ HW2.out.alloc _⟩
 have BV2 : Aside0 (Below w.heap.size w V2) := ⟨hV2 ▸ below_alloc BW2.out _⟩
 have sv2 : W2.heap.size < V2.heap.size := by rw [← hV2]; simp
 have R2_0 : Aside0 (Has V2 V0.heap.size (bits (fun _ _ => false) 0) 4) := ⟨hV2 ▸ Q2_0.out.alloc _⟩
 have R2_1 : Aside0 (Has V2 V1.heap.size (bits (fun _ _ => false) 1) 4) := ⟨hV2 ▸ Q2_1.out.alloc _⟩
 have mk2 : ∀ W : World, (Instr.makeSlice 126 (.int .i64 16) (.int .i64 16)).run Try.prog W = .ok (.slice (some ⟨W.heap.size, 0, none⟩) 16 16) (W.alloc (.cells (madeCells #[.bool false] 16) 4)) := make_bools 16 (by omega)
 have hc2 : (V2.alloc (Obj.cells (madeCells #[.bool false] 16) 4)).cell? ⟨w.heap.size, 3, none⟩ = some (.slice none 0 0) := (HV2.out.alloc _).cell 3
 have hf2 : (V2.alloc (Obj.cells (madeCells #[.bool false] 16) 4)).frozen? ⟨w.heap.size, 3, none⟩ = false := (HV2.out.alloc _).frozen 3
 have tt2 : (V2.alloc (Obj.cells (madeCells #[.bool false] 16) 4)).cell? ⟨W2.heap.size, 1, none⟩ = some (.int .i64 16) := pwcb (below_alloc (Below.refl _ V2) _) t2
 refine region_mix [.h 0, .h 1, .h 2, .h 3, .h 5, .h 6, .c 4, .h 7, .c 8] (fun w' => w'.cell? ⟨W2.heap.size, 1, none⟩ = some (.int .i64 16)) (by kernel_rfl) (by kernel_rfl) t2 (by intro c a a' w1 hd h; simp +zetaDelta only [Exit.then, Exit.inBlock, bodyPost] at h ⊢; simp at h) ?_
 repeat (
  refine mix_h (by rfl) (by rfl) (by rfl) ?_
  apply Exists.intro
  apply And.intro
  ·intro w' k1
   apply VR.mk
   go_simp
   with_reducible rfl
  simp only [List.setIfInBounds_toArray, List.set_cons_zero, List.set_cons_succ])
 refine mix_value (v := .slice (some ⟨V2.heap.size, 0, none⟩) 16 16) (w' := (V2.alloc (Obj.cells (madeCells #[.bool false] 16) 4)).drew) (by rfl) (by rfl) (by rfl) ⟨by go_simp⟩ tt2 ?_
 simp only [List.setIfInBounds_toArray, List.set_cons_zero, List.set_cons_succ]
 refine mix_h (by rfl) (by rfl) (by rfl) ?_
 apply Exists.intro
 apply And.intro
 ·intro w' k1
  apply VR.mk
  go_simp
  with_reducible rfl
 simp only [List.setIfInBounds_toArray, List.set_cons_zero, List.set_cons_succ]
 have hne2 : w.heap.size ≠ W2.heap.size := by omega
 refine mix_store (w' := ((V2.alloc (Obj.cells (madeCells #[.bool false] 16) 4)).setCell ⟨w.heap.size, 3, none⟩ (.slice (some ⟨V2.heap.size, 0, none⟩) 16 16)).drew) (by rfl) (by rfl) (by rfl) ⟨by go_simp⟩ ((World.cell?_setCell_far _ ⟨w.heap.size, 3, none⟩ ⟨W2.heap.size, 1, none⟩ _ hne2).trans tt2) ?_
 refine mix_nil ?_
 obtain ⟨W3, hW3⟩ : ∃ W, ((V2.alloc (Obj.cells (madeCells #[.bool false] 16) 4)).setCell ⟨w.heap.size, 3, none⟩ (.slice (some ⟨V2.heap.size, 0, none⟩) 16 16)).drew = W := ⟨_, rfl⟩
 rw [hW3]
 have HW3 : Aside0 (Has W3 w.heap.size #[.bool true, .slice (some ⟨V0.heap.size, 0, none⟩) 64 64, .slice (some ⟨V1.heap.size, 0, none⟩) 32 32, .slice (some ⟨V2.heap.size, 0, none⟩) 16 16, .slice none 0 0] 129) := ⟨hW3 ▸ ((HV2.out.alloc _).set_ 3 _).drewN 1⟩
 have BW3 : Aside0 (Below w.heap.size w W3) := ⟨hW3 ▸ below_drew ((below_alloc BV2.out _).setCell (Nat.le_refl _) _)⟩
 have sw3 : V2.heap.size < W3.heap.size := by rw [← hW3]; simp [World.setCell]
 have Q3_0 : Aside0 (Has W3 V0.heap.size (bits (fun _ _ => false) 0) 4) := ⟨hW3 ▸ ((R2_0.out.alloc _).other (by show V0.heap.size ≠ w.heap.size; omega) _).drewN 1⟩
 have Q3_1 : Aside0 (Has W3 V1.heap.size (bits (fun _ _ => false) 1) 4) := ⟨hW3 ▸ ((R2_1.out.alloc _).other (by show V1.heap.size ≠ w.heap.size; omega) _).drewN 1⟩
 have Q3_2 : Aside0 (Has W3 V2.heap.size (bits (fun _ _ => false) 2) 4) := ⟨by
  rw [← hW3, ← made_bits]
  exact ((Has.new V2 _ 4).other (by show V2.heap.size ≠ w.heap.size; omega) _).drewN 1⟩
 clear hV2 hW3 hc2 hf2 tt2 t2 mk2 HV2 BV2 HW2 BW2
 go_wp2
 rw [rounds_succ]
 go_wp2
 obtain ⟨V3, hV3⟩ : ∃ V, W3.alloc (Obj.cells #[.int .i64 128, .int .i64 8, .int .i64 269312] 131) = V := ⟨_, rfl⟩
 rw [hV3]
 have t3 : V3.cell? ⟨W3.heap.size, 1, none⟩ = some (.int .i64 8) := by rw [← hV3]; simp [go_sem]
 have HV3 : Aside0 (Has V3 w.heap.size #[.bool true, .slice (some ⟨V0.heap.size, 0, none⟩) 64 64, .slice (some ⟨V1.heap.size, 0, none⟩) 32 32, .slice (some ⟨V2.heap.size, 0, none⟩) 16 16, .slice none 0 0] 129) := ⟨hV3 ▸ HW3.out.alloc _⟩
 have BV3 : Aside0 (Below w.heap.size w V3) := ⟨hV3 ▸ below_alloc BW3.out _⟩
 have sv3 : W3.heap.size < V3.heap.size := by rw [← hV3]; simp
 have R3_0 : Aside0 (Has V3 V0.heap.size (bits (fun _ _ => false) 0) 4) := ⟨hV3 ▸ Q3_0.out.alloc _⟩
 have R3_1 : Aside0 (Has V3 V1.heap.size (bits (fun _ _ => false) 1) 4) := ⟨hV3 ▸ Q3_1.out.alloc _⟩
 have R3_2 : Aside0 (Has V3 V2.heap.size (bits (fun _ _ => false) 2) 4) := ⟨hV3 ▸ Q3_2.out.alloc _⟩
 have mk3 : ∀ W : World, (Instr.makeSlice 126 (.int .i64 8) (.int .i64 8)).run Try.prog W = .ok (.slice (some ⟨W.heap.size, 0, none⟩) 8 8) (W.alloc (.cells (madeCells #[.bool false] 8) 4)) := make_bools 8 (by omega)
 have hc3 : (V3.alloc (Obj.cells (madeCells #[.bool false] 8) 4)).cell? ⟨w.heap.size, 4, none⟩ = some (.slice none 0 0) := (HV3.out.alloc _).cell 4
 have hf3 : (V3.alloc (Obj.cells (madeCells #[.bool false] 8) 4)).frozen? ⟨w.heap.size, 4, none⟩ = false := (HV3.out.alloc _).frozen 4
 have tt3 : (V3.alloc (Obj.cells (madeCells #[.bool false] 8) 4)).cell? ⟨W3.heap.size, 1, none⟩ = some (.int .i64 8) := pwcb (below_alloc (Below.refl _ V3) _) t3
 refine region_mix [.h 0, .h 1, .h 2, .h 3, .h 5, .h 6, .c 4, .h 7, .c 8] (fun w' => w'.cell? ⟨W3.heap.size, 1, none⟩ = some (.int .i64 8)) (by kernel_rfl) (by kernel_rfl) t3 (by intro c a a' w1 hd h; simp +zetaDelta only [Exit.then, Exit.inBlock, bodyPost] at h ⊢; simp at h) ?_
 repeat (
  refine mix_h (by rfl) (by rfl) (by rfl) ?_
  apply Exists.intro
  apply And.intro
  ·intro w' k1
   apply VR.mk
   go_simp
   with_reducible rfl
  simp only [List.setIfInBounds_toArray, List.set_cons_zero, List.set_cons_succ])
 refine mix_value (v := .slice (some ⟨V3.heap.size, 0, none⟩) 8 8) (w' := (V3.alloc (Obj.cells (madeCells #[.bool false] 8) 4)).drew) (by rfl) (by rfl) (by rfl) ⟨by go_simp⟩ tt3 ?_
 simp only [List.setIfInBounds_toArray, List.set_cons_zero, List.set_cons_succ]
 refine mix_h (by rfl) (by rfl) (by rfl) ?_
 apply Exists.intro
 apply And.intro
 ·intro w' k1
  apply VR.mk
  go_simp
  with_reducible rfl
 simp only [List.setIfInBounds_toArray, List.set_cons_zero, List.set_cons_succ]
 have hne3 : w.heap.size ≠ W3.heap.size := by omega
 refine mix_store (w' := ((V3.alloc (Obj.cells (madeCells #[.bool false] 8) 4)).setCell ⟨w.heap.size, 4, none⟩ (.slice (some ⟨V3.heap.size, 0, none⟩) 8 8)).drew) (by rfl) (by rfl) (by rfl) ⟨by go_simp⟩ ((World.cell?_setCell_far _ ⟨w.heap.size, 4, none⟩ ⟨W3.heap.size, 1, none⟩ _ hne3).trans tt3) ?_
 refine mix_nil ?_
 obtain ⟨W4, hW4⟩ : ∃ W, ((V3.alloc (Obj.cells (madeCells #[.bool false] 8) 4)).setCell ⟨w.heap.size, 4, none⟩ (.slice (some ⟨V3.heap.size, 0, none⟩) 8 8)).drew = W := ⟨_, rfl⟩
 rw [hW4]
 have HW4 : Aside0 (Has W4 w.heap.size #[.bool true, .slice (some ⟨V0.heap.size, 0, none⟩) 64 64, .slice (some ⟨V1.heap.size, 0, none⟩) 32 32, .slice (some ⟨V2.heap.size, 0, none⟩) 16 16, .slice (some ⟨V3.heap.size, 0, none⟩) 8 8] 129) := ⟨hW4 ▸ ((HV3.out.alloc _).set_ 4 _).drewN 1⟩
 have BW4 : Aside0 (Below w.heap.size w W4) := ⟨hW4 ▸ below_drew ((below_alloc BV3.out _).setCell (Nat.le_refl _) _)⟩
 have sw4 : V3.heap.size < W4.heap.size := by rw [← hW4]; simp [World.setCell]
 have Q4_0 : Aside0 (Has W4 V0.heap.size (bits (fun _ _ => false) 0) 4) := ⟨hW4 ▸ ((R3_0.out.alloc _).other (by show V0.heap.size ≠ w.heap.size; omega) _).drewN 1⟩
 have Q4_1 : Aside0 (Has W4 V1.heap.size (bits (fun _ _ => false) 1) 4) := ⟨hW4 ▸ ((R3_1.out.alloc _).other (by show V1.heap.size ≠ w.heap.size; omega) _).drewN 1⟩
 have Q4_2 : Aside0 (Has W4 V2.heap.size (bits (fun _ _ => false) 2) 4) := ⟨hW4 ▸ ((R3_2.out.alloc _).other (by show V2.heap.size ≠ w.heap.size; omega) _).drewN 1⟩
 have Q4_3 : Aside0 (Has W4 V3.heap.size (bits (fun _ _ => false) 3) 4) := ⟨by
  rw [← hW4, ← made_bits]
  exact ((Has.new V3 _ 4).other (by show V3.heap.size ≠ w.heap.size; omega) _).drewN 1⟩
 clear hV3 hW4 hc3 hf3 tt3 t3 mk3 HV3 BV3 HW3 BW3
 go_wp2
 rw [rounds_succ]
 go_wp2
 go_ret
 refine ⟨w.heap.size, fun k => match k with | 0 => V0.heap.size | 1 => V1.heap.size | 2 => V2.heap.size | _ => V3.heap.size, rfl, BW4.out, ⟨HW4.out, ?_, ?_⟩, Nat.le_refl _, ?_⟩
 ·intro k hk
  match k, hk with
  | 0, _ => exact Q4_0.out
  | 1, _ => exact Q4_1.out
  | 2, _ => exact Q4_2.out
  | 3, _ => exact Q4_3.out
 ·intro j k hj hk hn
  match j, k, hj, hk with
  | 0, 0, _, _ => exact absurd rfl hn
  | 1, 1, _, _ => exact absurd rfl hn
  | 2, 2, _, _ => exact absurd rfl hn
  | 3, 3, _, _ => exact absurd rfl hn
  | 0, 1, _, _ => show V0.heap.size ≠ V1.heap.size; omega
  | 0, 2, _, _ => show V0.heap.size ≠ V2.heap.size; omega
  | 0, 3, _, _ => show V0.heap.size ≠ V3.heap.size; omega
  | 1, 0, _, _ => show V1.heap.size ≠ V0.heap.size; omega
  | 1, 2, _, _ => show V1.heap.size ≠ V2.heap.size; omega
  | 1, 3, _, _ => show V1.heap.size ≠ V3.heap.size; omega
  | 2, 0, _, _ => show V2.heap.size ≠ V0.heap.size; omega
  | 2, 1, _, _ => show V2.heap.size ≠ V1.heap.size; omega
  | 2, 3, _, _ => show V2.heap.size ≠ V3.heap.size; omega
  | 3, 0, _, _ => show V3.heap.size ≠ V0.heap.size; omega
  | 3, 1, _, _ => show V3.heap.size ≠ V1.heap.size; omega
  | 3, 2, _, _ => show V3.heap.size ≠ V2.heap.size; omega
 ·intro k hk
  match k, hk with
  | 0, _ => show w.heap.size ≤ V0.heap.size; omega
  | 1, _ => show w.heap.size ≤ V1.heap.size; omega
  | 2, _ => show w.heap.size ≤ V2.heap.size; omega
  | 3, _ => show w.heap.size ≤ V3.heap.size; omega
theorem ta95 (v : Value) (w : World) : (Instr.typeAssert (.iface 95 v) 20 95 true).run Try.prog w = .ok (.tuple #[v, .bool true]) w := by
 simp [Instr.typeAssert, run_underlying Try.underlying95]
theorem zero95 (w : World) : (zeroValue 95).run Try.prog w = .ok (.agg #[.int .i64 0, .int .i64 0]) w := by kernel_rfl
theorem taNo (t : TypeId) (v : Value) (h : t ≠ 95) (w : World) : (Instr.typeAssert (.iface t v) 20 95 true).run Try.prog w = .ok (.tuple #[.agg #[.int .i64 0, .int .i64 0], .bool false]) w := by
 simp [Instr.typeAssert, run_underlying Try.underlying95, h, zero95, Result.andThen]
theorem far3 (W : World) (ob : Nat) (v0 v1 v2 : Value) (a : Addr) (h : a.block ≠ ob) : ((((W.setCell ⟨ob, 0, none⟩ v0).setCell ⟨ob, 1, none⟩ v1).setCell ⟨ob, 2, none⟩ v2).drew).cell? a = W.cell? a := by
 show (((W.setCell ⟨ob, 0, none⟩ v0).setCell ⟨ob, 1, none⟩ v1).setCell ⟨ob, 2, none⟩ v2).cell? a = W.cell? a
 rw [World.cell?_setCell_far _ _ _ _ (Ne.symm h), World.cell?_setCell_far _ _ _ _ (Ne.symm h), World.cell?_setCell_far _ _ _ _ (Ne.symm h)]
theorem far3' (W : World) (ob : Nat) (v0 v1 v2 : Value) (a : Addr) (h : a.block ≠ ob) : (((W.setCell ⟨ob, 0, none⟩ v0).setCell ⟨ob, 1, none⟩ v1).setCell ⟨ob, 2, none⟩ v2).cell? a = W.cell? a := far3 W ob v0 v1 v2 a h
theorem far4 (W : World) (ob sb : Nat) (v0 v1 v2 v3 : Value) (a : Addr) (h : a.block ≠ ob) (h' : a.block ≠ sb) : (((((W.setCell ⟨ob, 0, none⟩ v0).setCell ⟨ob, 1, none⟩ v1).setCell ⟨ob, 2, none⟩ v2).setCell ⟨sb, 0, none⟩ v3).drew).cell? a = W.cell? a := by
 show ((((W.setCell ⟨ob, 0, none⟩ v0).setCell ⟨ob, 1, none⟩ v1).setCell ⟨ob, 2, none⟩ v2).setCell ⟨sb, 0, none⟩ v3).cell? a = W.cell? a
 rw [World.cell?_setCell_far _ _ _ _ (Ne.symm h'), World.cell?_setCell_far _ _ _ _ (Ne.symm h), World.cell?_setCell_far _ _ _ _ (Ne.symm h), World.cell?_setCell_far _ _ _ _ (Ne.symm h)]
def EndPost (ob sb : Nat) (k c : Int) (pv : Value) (s : Int) (u : FrameMode) (w : World) (e : Ending) (u' : FrameMode) (w' : World) : Prop :=
 e = .returned (.tuple #[]) ∧ u' = u ∧ Kept (fun b => b = ob ∨ b = sb) w w' ∧ Has w' ob #[.int .i64 k, .int .i64 c, pv] 26 ∧ Has w' sb #[.int .i64 s] 3
set_option maxRecDepth 100000 in
set_option maxHeartbeats 4000000 in
theorem catch_halt (pm m ob sb : Nat) (k c : Int) (A : Option Addr) (n C : Nat) (s : Int) (w : World) (h0 : w.cell? ⟨pm, 0, none⟩ = some (.pointer (some ⟨m, 0, none⟩))) (h5 : w.cell? ⟨m, 5, none⟩ = some (.slice A n C)) (h3 : w.cell? ⟨m, 3, none⟩ = some (.int .i64 s)) (o0 o1 : Int) (o2 : Value) (s0 : Int) (ho : Has w ob #[.int .i64 o0, .int .i64 o1, o2] 26) (hs : Has w sb #[.int .i64 s0] 3)
  (n1 : pm ≠ ob) (n2 : m ≠ ob) (n3 : pm ≠ sb) (n4 : m ≠ sb) :
  CallsD Try.prog 26 #[Value.pointer (some ⟨pm, 0, none⟩), .pointer (some ⟨ob, 0, none⟩), .pointer (some ⟨sb, 0, none⟩)] (.panicking [{ v := .iface 95 (.agg #[.int .i64 k, .int .i64 c]), recovered := false }]) w (EndPost ob sb k c (.slice A n C) s (.panicking [{ v := .iface 95 (.agg #[.int .i64 k, .int .i64 c]), recovered := true }]) w) := by
 have hu95 := Try.underlying95
 have hta := ta95
 have hne : ob ≠ sb := ho.ne hs (by decide)
 refine callsD_of_wpS Try.func26 rfl fun c₀ cs hu => ?_
 rw [show (#[Value.pointer (some ⟨pm, 0, none⟩), .pointer (some ⟨ob, 0, none⟩), .pointer (some ⟨sb, 0, none⟩)] ++ Array.replicate (Try.f26.ntmps - (#[Value.pointer (some ⟨pm, 0, none⟩), .pointer (some ⟨ob, 0, none⟩), .pointer (some ⟨sb, 0, none⟩)] : Array Value).size) undef) = #[.pointer (some ⟨pm, 0, none⟩), .pointer (some ⟨ob, 0, none⟩), .pointer (some ⟨sb, 0, none⟩), undef, undef, undef, undef, undef, undef, undef, undef, undef, undef, undef, undef, undef, undef, undef, undef, undef, undef, undef, undef, undef, undef, undef, undef, undef] from by kernel_rfl]
 apply wpS_seq
 refine wpS_of_wp ?_
 go_wp2
 simp only [Exit.thenS]
 apply wpS_seq
 apply wpS_seq
 apply wpS_region
 simp [wpOpsS, go_sem, recoverD, hu, Exit.thenS]
 refine wpS_of_wp ?_
 go_wp2
 simp only [Exit.thenS]
 refine wpS_of_wp ?_
 obtain ⟨W, hW⟩ : ∃ W, ((w.alloc (Obj.cells #[.int .i64 k, .int .i64 c] 95)).alloc (Obj.cells #[.int .i64 k, .int .i64 c] 95)) = W := ⟨_, rfl⟩
 have bW : Below w.heap.size w W := hW ▸ below_alloc (below_alloc (Below.refl _ w) _) _
 have x0 : W.cell? ⟨w.heap.size, 0, none⟩ = some (.int .i64 k) := by rw [← hW]; simp [go_sem]
 have x1 : W.cell? ⟨w.heap.size, 1, none⟩ = some (.int .i64 c) := by rw [← hW]; simp [go_sem]
 have g0 := pwcb bW h0
 have g5 := pwcb bW h5
 have g3 := pwcb bW h3
 have hO := ho.belowS bW
 have hS := hs.belowS bW
 have b0 := hO.cell 0
 have b1 := hO.cell 1
 have b2 := hO.cell 2
 have f0 := hO.frozen 0
 have f1 := hO.frozen 1
 have f2 := hO.frozen 2
 have c0 := hS.cell 0
 have e0 := hS.frozen 0
 simp only [List.getElem?_toArray, List.getElem?_cons_zero, List.getElem?_cons_succ] at b0 b1 b2 c0
 have hx1 : ob ≠ w.heap.size := by have := ho.lt; omega
 have hx2 : sb ≠ w.heap.size := by have := hs.lt; omega
 have hne' : sb ≠ ob := Ne.symm hne
 rw [hW]
 have HH := Aside0.mk (And.intro hO (And.intro hS bW))
 clear hW bW h0 h5 h3 ho hs hO hS
 refine region_mix [.h 0, .h 1, .h 2, .h 3, .h 4, .h 5, .h 6, .h 7, .h 8, .h 9, .h 10, .h 11, .h 12, .c 13, .c 14] (fun w' => w'.cell? ⟨w.heap.size, 0, none⟩ = some (.int .i64 k) ∧ w'.cell? ⟨w.heap.size, 1, none⟩ = some (.int .i64 c) ∧ w'.cell? ⟨pm, 0, none⟩ = some (.pointer (some ⟨m, 0, none⟩)) ∧ w'.cell? ⟨m, 5, none⟩ = some (.slice A n C) ∧ w'.cell? ⟨m, 3, none⟩ = some (.int .i64 s)) (by kernel_rfl) (by kernel_rfl) ⟨x0, x1, g0, g5, g3⟩ (by intro ch a a' w1 hd h; simp [bodyPostS, EndPost] at h) ?_
 repeat (
  refine mix_h (by rfl) (by rfl) (by rfl) ?_
  apply Exists.intro
  apply And.intro
  ·rintro w' ⟨k1, k2, k3, k4, k5⟩
   apply VR.mk
   go_simp
   with_reducible rfl
  simp only [List.setIfInBounds_toArray, List.set_cons_zero, List.set_cons_succ])
 refine mix_store (w' := (((W.setCell ⟨ob, 0, none⟩ (.int .i64 k)).setCell ⟨ob, 1, none⟩ (.int .i64 c)).setCell ⟨ob, 2, none⟩ (.slice A n C)).drew) (by rfl) (by rfl) (by rfl) ⟨?_⟩ ?_ ?_
 ·go_simp
 ·refine ⟨?_, ?_, ?_, ?_, ?_⟩
  ·exact (far3 W ob _ _ _ _ (Ne.symm hx1)).trans x0
  ·exact (far3 W ob _ _ _ _ (Ne.symm hx1)).trans x1
  ·exact (far3 W ob _ _ _ _ n1).trans g0
  ·exact (far3 W ob _ _ _ _ n2).trans g5
  ·exact (far3 W ob _ _ _ _ n2).trans g3
 have c0' := (far3' W ob (.int .i64 k) (.int .i64 c) (.slice A n C) ⟨sb, 0, none⟩ hne').trans c0
 obtain ⟨hO, hS, bW⟩ := HH.out
 have HO3 := ((hO.set_ 0 (.int .i64 k)).set_ 1 (.int .i64 c)).set_ 2 (.slice A n C)
 have HS3 := ((hS.other (a := ⟨ob, 0, none⟩) hne' (.int .i64 k)).other (a := ⟨ob, 1, none⟩) hne' (.int .i64 c)).other (a := ⟨ob, 2, none⟩) hne' (.slice A n C)
 have e0' := HS3.frozen 0
 refine mix_store (w' := ((((W.setCell ⟨ob, 0, none⟩ (.int .i64 k)).setCell ⟨ob, 1, none⟩ (.int .i64 c)).setCell ⟨ob, 2, none⟩ (.slice A n C)).setCell ⟨sb, 0, none⟩ (.int .i64 s)).drew) (by rfl) (by rfl) (by rfl) ⟨?_⟩ ?_ ?_
 ·go_simp
 ·refine ⟨?_, ?_, ?_, ?_, ?_⟩
  ·exact (far4 W ob sb _ _ _ _ _ (Ne.symm hx1) (Ne.symm hx2)).trans x0
  ·exact (far4 W ob sb _ _ _ _ _ (Ne.symm hx1) (Ne.symm hx2)).trans x1
  ·exact (far4 W ob sb _ _ _ _ _ n1 n3).trans g0
  ·exact (far4 W ob sb _ _ _ _ _ n2 n4).trans g5
  ·exact (far4 W ob sb _ _ _ _ _ n2 n4).trans g3
 refine mix_nil ?_
 have HO4 := HO3.other (a := ⟨sb, 0, none⟩) hne (.int .i64 s)
 have HS4 := HS3.set_ 0 (.int .i64 s)
 have K4 : Kept (fun b => b = ob ∨ b = sb) w ((((W.setCell ⟨ob, 0, none⟩ (.int .i64 k)).setCell ⟨ob, 1, none⟩ (.int .i64 c)).setCell ⟨ob, 2, none⟩ (.slice A n C)).setCell ⟨sb, 0, none⟩ (.int .i64 s)) := (((((Kept.of_below bW).setCell (a := ⟨ob, 0, none⟩) (.inl rfl) _).setCell (a := ⟨ob, 1, none⟩) (.inl rfl) _).setCell (a := ⟨ob, 2, none⟩) (.inl rfl) _).setCell (a := ⟨sb, 0, none⟩) (.inr rfl) _)
 have HE := Aside0.mk (And.intro (K4.drewN 1) (And.intro (HO4.drewN 1) (HS4.drewN 1)))
 clear HO4 HS4 K4 HO3 HS3 hO hS bW c0' e0' x0 x1 g0 g5 g3 b0 b1 b2 f0 f1 f2 c0 e0
 refine ⟨rfl, _, by first | rfl | (cases c₀; simp_all), .tuple #[], results_none rfl _ _ _, rfl, by first | rfl | assumption, HE.out.1, HE.out.2.1, HE.out.2.2⟩
set_option maxRecDepth 100000 in
set_option maxHeartbeats 4000000 in
theorem catch_trap (pm m ob sb : Nat) (T : TypeId) (tv : Value) (hT : T ≠ 95) (A : Option Addr) (n C : Nat) (s : Int) (w : World) (h0 : w.cell? ⟨pm, 0, none⟩ = some (.pointer (some ⟨m, 0, none⟩))) (h5 : w.cell? ⟨m, 5, none⟩ = some (.slice A n C)) (h3 : w.cell? ⟨m, 3, none⟩ = some (.int .i64 s)) (o0 o1 : Int) (o2 : Value) (s0 : Int) (ho : Has w ob #[.int .i64 o0, .int .i64 o1, o2] 26) (hs : Has w sb #[.int .i64 s0] 3)
  (n1 : pm ≠ ob) (n2 : m ≠ ob) (n3 : pm ≠ sb) (n4 : m ≠ sb) :
  CallsD Try.prog 26 #[Value.pointer (some ⟨pm, 0, none⟩), .pointer (some ⟨ob, 0, none⟩), .pointer (some ⟨sb, 0, none⟩)] (.panicking [{ v := .iface T tv, recovered := false }]) w (EndPost ob sb 4 0 (.slice A n C) s (.panicking [{ v := .iface T tv, recovered := true }]) w) := by
 have hu95 := Try.underlying95
 have hta := fun w => taNo T tv hT w
 have hne : ob ≠ sb := ho.ne hs (by decide)
 refine callsD_of_wpS Try.func26 rfl fun c₀ cs hu => ?_
 rw [show (#[Value.pointer (some ⟨pm, 0, none⟩), .pointer (some ⟨ob, 0, none⟩), .pointer (some ⟨sb, 0, none⟩)] ++ Array.replicate (Try.f26.ntmps - (#[Value.pointer (some ⟨pm, 0, none⟩), .pointer (some ⟨ob, 0, none⟩), .pointer (some ⟨sb, 0, none⟩)] : Array Value).size) undef) = #[.pointer (some ⟨pm, 0, none⟩), .pointer (some ⟨ob, 0, none⟩), .pointer (some ⟨sb, 0, none⟩), undef, undef, undef, undef, undef, undef, undef, undef, undef, undef, undef, undef, undef, undef, undef, undef, undef, undef, undef, undef, undef, undef, undef, undef, undef] from by kernel_rfl]
 apply wpS_seq
 refine wpS_of_wp ?_
 go_wp2
 simp only [Exit.thenS]
 apply wpS_seq
 apply wpS_seq
 apply wpS_region
 simp [wpOpsS, go_sem, recoverD, hu, Exit.thenS]
 refine wpS_of_wp ?_
 go_wp2
 simp only [Exit.thenS]
 refine wpS_of_wp ?_
 obtain ⟨W, hW⟩ : ∃ W, (w.alloc (Obj.cells #[.int .i64 4, .int .i64 0] 95)) = W := ⟨_, rfl⟩
 have bW : Below w.heap.size w W := hW ▸ below_alloc (Below.refl _ w) _
 have x0 : W.cell? ⟨w.heap.size, 0, none⟩ = some (.int .i64 4) := by rw [← hW]; simp [go_sem]
 have x1 : W.cell? ⟨w.heap.size, 1, none⟩ = some (.int .i64 0) := by rw [← hW]; simp [go_sem]
 have g0 := pwcb bW h0
 have g5 := pwcb bW h5
 have g3 := pwcb bW h3
 have hO := ho.belowS bW
 have hS := hs.belowS bW
 have b0 := hO.cell 0
 have b1 := hO.cell 1
 have b2 := hO.cell 2
 have f0 := hO.frozen 0
 have f1 := hO.frozen 1
 have f2 := hO.frozen 2
 have c0 := hS.cell 0
 have e0 := hS.frozen 0
 simp only [List.getElem?_toArray, List.getElem?_cons_zero, List.getElem?_cons_succ] at b0 b1 b2 c0
 have hx1 : ob ≠ w.heap.size := by have := ho.lt; omega
 have hx2 : sb ≠ w.heap.size := by have := hs.lt; omega
 have hne' : sb ≠ ob := Ne.symm hne
 rw [hW]
 have HH := Aside0.mk (And.intro hO (And.intro hS bW))
 clear hW bW h0 h5 h3 ho hs hO hS
 refine region_mix [.h 0, .h 1, .h 2, .h 3, .h 4, .h 5, .h 6, .h 7, .h 8, .h 9, .h 10, .h 11, .h 12, .c 13, .c 14] (fun w' => w'.cell? ⟨w.heap.size, 0, none⟩ = some (.int .i64 4) ∧ w'.cell? ⟨w.heap.size, 1, none⟩ = some (.int .i64 0) ∧ w'.cell? ⟨pm, 0, none⟩ = some (.pointer (some ⟨m, 0, none⟩)) ∧ w'.cell? ⟨m, 5, none⟩ = some (.slice A n C) ∧ w'.cell? ⟨m, 3, none⟩ = some (.int .i64 s)) (by kernel_rfl) (by kernel_rfl) ⟨x0, x1, g0, g5, g3⟩ (by intro ch a a' w1 hd h; simp [bodyPostS, EndPost] at h) ?_
 repeat (
  refine mix_h (by rfl) (by rfl) (by rfl) ?_
  apply Exists.intro
  apply And.intro
  ·rintro w' ⟨k1, k2, k3, k4, k5⟩
   apply VR.mk
   go_simp
   with_reducible rfl
  simp only [List.setIfInBounds_toArray, List.set_cons_zero, List.set_cons_succ])
 refine mix_store (w' := (((W.setCell ⟨ob, 0, none⟩ (.int .i64 4)).setCell ⟨ob, 1, none⟩ (.int .i64 0)).setCell ⟨ob, 2, none⟩ (.slice A n C)).drew) (by rfl) (by rfl) (by rfl) ⟨?_⟩ ?_ ?_
 ·go_simp
 ·refine ⟨?_, ?_, ?_, ?_, ?_⟩
  ·exact (far3 W ob _ _ _ _ (Ne.symm hx1)).trans x0
  ·exact (far3 W ob _ _ _ _ (Ne.symm hx1)).trans x1
  ·exact (far3 W ob _ _ _ _ n1).trans g0
  ·exact (far3 W ob _ _ _ _ n2).trans g5
  ·exact (far3 W ob _ _ _ _ n2).trans g3
 have c0' := (far3' W ob (.int .i64 4) (.int .i64 0) (.slice A n C) ⟨sb, 0, none⟩ hne').trans c0
 obtain ⟨hO, hS, bW⟩ := HH.out
 have HO3 := ((hO.set_ 0 (.int .i64 4)).set_ 1 (.int .i64 0)).set_ 2 (.slice A n C)
 have HS3 := ((hS.other (a := ⟨ob, 0, none⟩) hne' (.int .i64 4)).other (a := ⟨ob, 1, none⟩) hne' (.int .i64 0)).other (a := ⟨ob, 2, none⟩) hne' (.slice A n C)
 have e0' := HS3.frozen 0
 refine mix_store (w' := ((((W.setCell ⟨ob, 0, none⟩ (.int .i64 4)).setCell ⟨ob, 1, none⟩ (.int .i64 0)).setCell ⟨ob, 2, none⟩ (.slice A n C)).setCell ⟨sb, 0, none⟩ (.int .i64 s)).drew) (by rfl) (by rfl) (by rfl) ⟨?_⟩ ?_ ?_
 ·go_simp
 ·refine ⟨?_, ?_, ?_, ?_, ?_⟩
  ·exact (far4 W ob sb _ _ _ _ _ (Ne.symm hx1) (Ne.symm hx2)).trans x0
  ·exact (far4 W ob sb _ _ _ _ _ (Ne.symm hx1) (Ne.symm hx2)).trans x1
  ·exact (far4 W ob sb _ _ _ _ _ n1 n3).trans g0
  ·exact (far4 W ob sb _ _ _ _ _ n2 n4).trans g5
  ·exact (far4 W ob sb _ _ _ _ _ n2 n4).trans g3
 refine mix_nil ?_
 have HO4 := HO3.other (a := ⟨sb, 0, none⟩) hne (.int .i64 s)
 have HS4 := HS3.set_ 0 (.int .i64 s)
 have K4 : Kept (fun b => b = ob ∨ b = sb) w ((((W.setCell ⟨ob, 0, none⟩ (.int .i64 4)).setCell ⟨ob, 1, none⟩ (.int .i64 0)).setCell ⟨ob, 2, none⟩ (.slice A n C)).setCell ⟨sb, 0, none⟩ (.int .i64 s)) := (((((Kept.of_below bW).setCell (a := ⟨ob, 0, none⟩) (.inl rfl) _).setCell (a := ⟨ob, 1, none⟩) (.inl rfl) _).setCell (a := ⟨ob, 2, none⟩) (.inl rfl) _).setCell (a := ⟨sb, 0, none⟩) (.inr rfl) _)
 have HE := Aside0.mk (And.intro (K4.drewN 1) (And.intro (HO4.drewN 1) (HS4.drewN 1)))
 clear HO4 HS4 K4 HO3 HS3 hO hS bW c0' e0' x0 x1 g0 g5 g3 b0 b1 b2 f0 f1 f2 c0 e0
 refine ⟨rfl, _, by first | rfl | (cases c₀; simp_all), .tuple #[], results_none rfl _ _ _, rfl, by first | rfl | assumption, HE.out.1, HE.out.2.1, HE.out.2.2⟩
set_option maxRecDepth 100000 in
set_option maxHeartbeats 4000000 in
theorem catch_idle (pm m ob sb : Nat) (A : Option Addr) (n C : Nat) (s : Int) (w : World) (h0 : w.cell? ⟨pm, 0, none⟩ = some (.pointer (some ⟨m, 0, none⟩))) (h5 : w.cell? ⟨m, 5, none⟩ = some (.slice A n C)) (h3 : w.cell? ⟨m, 3, none⟩ = some (.int .i64 s)) (o0 o1 : Int) (o2 : Value) (s0 : Int) (ho : Has w ob #[.int .i64 o0, .int .i64 o1, o2] 26) (hs : Has w sb #[.int .i64 s0] 3)
  (n1 : pm ≠ ob) (n2 : m ≠ ob) (n3 : pm ≠ sb) (n4 : m ≠ sb) :
  CallsD Try.prog 26 #[Value.pointer (some ⟨pm, 0, none⟩), .pointer (some ⟨ob, 0, none⟩), .pointer (some ⟨sb, 0, none⟩)] (.returning) w (EndPost ob sb 1 0 (.slice A n C) s (.returning) w) := by
 have hu95 := Try.underlying95
 have hne : ob ≠ sb := ho.ne hs (by decide)
 refine callsD_of_wpS Try.func26 rfl fun c₀ cs hu => ?_
 rw [show (#[Value.pointer (some ⟨pm, 0, none⟩), .pointer (some ⟨ob, 0, none⟩), .pointer (some ⟨sb, 0, none⟩)] ++ Array.replicate (Try.f26.ntmps - (#[Value.pointer (some ⟨pm, 0, none⟩), .pointer (some ⟨ob, 0, none⟩), .pointer (some ⟨sb, 0, none⟩)] : Array Value).size) undef) = #[.pointer (some ⟨pm, 0, none⟩), .pointer (some ⟨ob, 0, none⟩), .pointer (some ⟨sb, 0, none⟩), undef, undef, undef, undef, undef, undef, undef, undef, undef, undef, undef, undef, undef, undef, undef, undef, undef, undef, undef, undef, undef, undef, undef, undef, undef] from by kernel_rfl]
 apply wpS_seq
 refine wpS_of_wp ?_
 go_wp2
 simp only [Exit.thenS]
 apply wpS_seq
 apply wpS_seq
 apply wpS_region
 simp [wpOpsS, go_sem, recoverD, hu, Exit.thenS]
 refine wpS_of_wp ?_
 go_wp2
 simp only [Exit.thenS]
 refine wpS_of_wp ?_
 obtain ⟨W, hW⟩ : ∃ W, (w.alloc (Obj.cells #[.int .i64 1, .int .i64 0] 95)) = W := ⟨_, rfl⟩
 have bW : Below w.heap.size w W := hW ▸ below_alloc (Below.refl _ w) _
 have x0 : W.cell? ⟨w.heap.size, 0, none⟩ = some (.int .i64 1) := by rw [← hW]; simp [go_sem]
 have x1 : W.cell? ⟨w.heap.size, 1, none⟩ = some (.int .i64 0) := by rw [← hW]; simp [go_sem]
 have g0 := pwcb bW h0
 have g5 := pwcb bW h5
 have g3 := pwcb bW h3
 have hO := ho.belowS bW
 have hS := hs.belowS bW
 have b0 := hO.cell 0
 have b1 := hO.cell 1
 have b2 := hO.cell 2
 have f0 := hO.frozen 0
 have f1 := hO.frozen 1
 have f2 := hO.frozen 2
 have c0 := hS.cell 0
 have e0 := hS.frozen 0
 simp only [List.getElem?_toArray, List.getElem?_cons_zero, List.getElem?_cons_succ] at b0 b1 b2 c0
 have hx1 : ob ≠ w.heap.size := by have := ho.lt; omega
 have hx2 : sb ≠ w.heap.size := by have := hs.lt; omega
 have hne' : sb ≠ ob := Ne.symm hne
 rw [hW]
 have HH := Aside0.mk (And.intro hO (And.intro hS bW))
 clear hW bW h0 h5 h3 ho hs hO hS
 refine region_mix [.h 0, .h 1, .h 2, .h 3, .h 4, .h 5, .h 6, .h 7, .h 8, .h 9, .h 10, .h 11, .h 12, .c 13, .c 14] (fun w' => w'.cell? ⟨w.heap.size, 0, none⟩ = some (.int .i64 1) ∧ w'.cell? ⟨w.heap.size, 1, none⟩ = some (.int .i64 0) ∧ w'.cell? ⟨pm, 0, none⟩ = some (.pointer (some ⟨m, 0, none⟩)) ∧ w'.cell? ⟨m, 5, none⟩ = some (.slice A n C) ∧ w'.cell? ⟨m, 3, none⟩ = some (.int .i64 s)) (by kernel_rfl) (by kernel_rfl) ⟨x0, x1, g0, g5, g3⟩ (by intro ch a a' w1 hd h; simp [bodyPostS, EndPost] at h) ?_
 repeat (
  refine mix_h (by rfl) (by rfl) (by rfl) ?_
  apply Exists.intro
  apply And.intro
  ·rintro w' ⟨k1, k2, k3, k4, k5⟩
   apply VR.mk
   go_simp
   with_reducible rfl
  simp only [List.setIfInBounds_toArray, List.set_cons_zero, List.set_cons_succ])
 refine mix_store (w' := (((W.setCell ⟨ob, 0, none⟩ (.int .i64 1)).setCell ⟨ob, 1, none⟩ (.int .i64 0)).setCell ⟨ob, 2, none⟩ (.slice A n C)).drew) (by rfl) (by rfl) (by rfl) ⟨?_⟩ ?_ ?_
 ·go_simp
 ·refine ⟨?_, ?_, ?_, ?_, ?_⟩
  ·exact (far3 W ob _ _ _ _ (Ne.symm hx1)).trans x0
  ·exact (far3 W ob _ _ _ _ (Ne.symm hx1)).trans x1
  ·exact (far3 W ob _ _ _ _ n1).trans g0
  ·exact (far3 W ob _ _ _ _ n2).trans g5
  ·exact (far3 W ob _ _ _ _ n2).trans g3
 have c0' := (far3' W ob (.int .i64 1) (.int .i64 0) (.slice A n C) ⟨sb, 0, none⟩ hne').trans c0
 obtain ⟨hO, hS, bW⟩ := HH.out
 have HO3 := ((hO.set_ 0 (.int .i64 1)).set_ 1 (.int .i64 0)).set_ 2 (.slice A n C)
 have HS3 := ((hS.other (a := ⟨ob, 0, none⟩) hne' (.int .i64 1)).other (a := ⟨ob, 1, none⟩) hne' (.int .i64 0)).other (a := ⟨ob, 2, none⟩) hne' (.slice A n C)
 have e0' := HS3.frozen 0
 refine mix_store (w' := ((((W.setCell ⟨ob, 0, none⟩ (.int .i64 1)).setCell ⟨ob, 1, none⟩ (.int .i64 0)).setCell ⟨ob, 2, none⟩ (.slice A n C)).setCell ⟨sb, 0, none⟩ (.int .i64 s)).drew) (by rfl) (by rfl) (by rfl) ⟨?_⟩ ?_ ?_
 ·go_simp
 ·refine ⟨?_, ?_, ?_, ?_, ?_⟩
  ·exact (far4 W ob sb _ _ _ _ _ (Ne.symm hx1) (Ne.symm hx2)).trans x0
  ·exact (far4 W ob sb _ _ _ _ _ (Ne.symm hx1) (Ne.symm hx2)).trans x1
  ·exact (far4 W ob sb _ _ _ _ _ n1 n3).trans g0
  ·exact (far4 W ob sb _ _ _ _ _ n2 n4).trans g5
  ·exact (far4 W ob sb _ _ _ _ _ n2 n4).trans g3
 refine mix_nil ?_
 have HO4 := HO3.other (a := ⟨sb, 0, none⟩) hne (.int .i64 s)
 have HS4 := HS3.set_ 0 (.int .i64 s)
 have K4 : Kept (fun b => b = ob ∨ b = sb) w ((((W.setCell ⟨ob, 0, none⟩ (.int .i64 1)).setCell ⟨ob, 1, none⟩ (.int .i64 0)).setCell ⟨ob, 2, none⟩ (.slice A n C)).setCell ⟨sb, 0, none⟩ (.int .i64 s)) := (((((Kept.of_below bW).setCell (a := ⟨ob, 0, none⟩) (.inl rfl) _).setCell (a := ⟨ob, 1, none⟩) (.inl rfl) _).setCell (a := ⟨ob, 2, none⟩) (.inl rfl) _).setCell (a := ⟨sb, 0, none⟩) (.inr rfl) _)
 have HE := Aside0.mk (And.intro (K4.drewN 1) (And.intro (HO4.drewN 1) (HS4.drewN 1)))
 clear HO4 HS4 K4 HO3 HS3 hO hS bW c0' e0' x0 x1 g0 g5 g3 b0 b1 b2 f0 f1 f2 c0 e0
 refine ⟨rfl, _, by first | rfl | (cases c₀; simp_all), .tuple #[], results_none rfl _ _ _, rfl, by first | rfl | assumption, HE.out.1, HE.out.2.1, HE.out.2.2⟩
end Go.Proofs.Ytpphpcmbpbppoaa.Mach
end
section
namespace Go.Proofs.Ytpphpcmbpbppoaa.Mach
open Go.RowKit Go.Proofs.YtpphpcmbpbppoaaW.PrintWords Go.Proofs.YtpphpcmbpbppoaaW.PrintLast Go.Proofs.YtpphpcmbpbppoaaW.PrintMore
set_option linter.unusedVariables false
set_option linter.unusedSimpArgs false
def RunRes (r : ResC) (kd cd : Int) (st' : St) : Prop := match r with
 | .ok st _ _ => kd = 1 ∧ cd = 0 ∧ st' = st
 | .halt k c st => kd = k ∧ cd = c ∧ st' = st
def RunPost (r : ResC) (w : World) (e : Ending) (w' : World) : Prop :=
 ∃ kd cd st' pv, RunRes r kd cd st' ∧ e = .returned (.tuple #[.agg #[.int .i64 kd, .int .i64 cd, pv], .int .i64 st'.steps]) ∧ Below w.heap.size w w' ∧ w'.ownsRow 0 3 1 pv st'.print.length (nums .i64 st'.print)
abbrev runD (p ob sb : Nat) : Deferred := { target := .fn (.func 26) #[.pointer (some ⟨p, 0, none⟩), .pointer (some ⟨ob, 0, none⟩), .pointer (some ⟨sb, 0, none⟩)], args := #[] }
set_option maxRecDepth 100000 in
theorem run_end (T : Array Value) {ob sb : Nat} (h8 : T[8]? = some (.pointer (some ⟨ob, 0, none⟩))) (h9 : T[9]? = some (.pointer (some ⟨sb, 0, none⟩))) {w : World} {kd cd s : Int} {pv : Value} (HO : Has w ob #[.int .i64 kd, .int .i64 cd, pv] 26) (HS : Has w sb #[.int .i64 s] 3) :
  (results Try.f9 T).run Try.prog w = .ok (.tuple #[.agg #[.int .i64 kd, .int .i64 cd, pv], .int .i64 s]) w := by
 have b0 := HO.cell 0
 have b1 := HO.cell 1
 have b2 := HO.cell 2
 have hc := HS.cell 0
 simp only [List.getElem?_toArray, List.getElem?_cons_zero, List.getElem?_cons_succ] at b0 b1 b2 hc
 simp [results, Try.results9, h8, h9, b0, b1, b2, hc, go_sem]
theorem run_leaves (T : Array Value) {p ob sb m : Nat} (h8 : T[8]? = some (.pointer (some ⟨ob, 0, none⟩))) (h9 : T[9]? = some (.pointer (some ⟨sb, 0, none⟩))) {S' : Nat → Prop} {L' : Lay} {x' : Option Addr} {st' : St} {w w5 : World} {r : ResC} {kd cd : Int} (RR : RunRes r kd cd st') (mode : FrameMode)
  (hmode : (mode = .returning ∧ kd = 1 ∧ cd = 0) ∨ ∃ ch, mode = .panicking ch ∧ HaltCh ch kd cd) (R : Rep S' m L' x' st' w5) (hp : w5.cell? ⟨p, 0, none⟩ = some (.pointer (some ⟨m, 0, none⟩)))
  (HO : Has w5 ob #[.int .i64 0, .int .i64 0, .slice none 0 0] 26) (HS : Has w5 sb #[.int .i64 0] 3) (n1 : p ≠ ob) (n3 : p ≠ sb) (ho : ¬ S' ob) (hs : ¬ S' sb) (hb : Below w.heap.size w w5) (hob : w.heap.size ≤ ob) (hsb : w.heap.size ≤ sb) :
  Leaves Try.prog Try.f9 T (RunPost r w) [runD p ob sb] mode w5 := by
 obtain ⟨A, C, e, _, _, _⟩ := own_form R.prt
 have c5 := R.c5
 rw [e] at c5
 have c3 := R.c3
 have n2 : m ≠ ob := R.head.ne HO (by decide)
 have n4 : m ≠ sb := R.head.ne HS (by decide)
 have fin : ∀ w3, Kept (fun b => b = ob ∨ b = sb) w5 w3 → Has w3 ob #[.int .i64 kd, .int .i64 cd, .slice A st'.print.length C] 26 → Has w3 sb #[.int .i64 st'.steps] 3 → Leaves Try.prog Try.f9 T (RunPost r w) [] .returning w3 := by
  intro w3 K HO3 HS3
  refine ⟨_, run_end T h8 h9 HO3 HS3, kd, cd, st', _, RR, rfl, ?_, ?_⟩
  ·exact hb.trans (K.below_of (fun b h => by rcases h with rfl | rfl <;> assumption) hb.size)
  ·have hrow := R.prt
   rw [e] at hrow
   refine Rep.row_of_block hrow (fun b hbk => K.block b ((Rep.has_own hrow hbk).elim fun _ h => h.lt) ?_)
   have hS := R.ownP b (by rw [e]; exact hbk)
   rintro (rfl | rfl)
   ·exact ho hS
   ·exact hs hS
 rcases hmode with ⟨rfl, rfl, rfl⟩ | ⟨ch, rfl, hc⟩
 ·refine leaves_cons (f := 26) (args := #[.pointer (some ⟨p, 0, none⟩), .pointer (some ⟨ob, 0, none⟩), .pointer (some ⟨sb, 0, none⟩)]) (by simp) (by simp [go_sem]) ?_
  refine (catch_idle p m ob sb A _ C st'.steps w5 hp c5 c3 0 0 _ 0 HO HS n1 n2 n3 n4).mono ?_
  rintro e u' w3 ⟨rfl, rfl, K, HO3, HS3⟩
  exact fin w3 K HO3 HS3
 ·rcases hc with rfl | ⟨rfl, rfl, T', tv, hT, rfl⟩
  ·refine leaves_cons (f := 26) (args := #[.pointer (some ⟨p, 0, none⟩), .pointer (some ⟨ob, 0, none⟩), .pointer (some ⟨sb, 0, none⟩)]) (by simp) (by simp [go_sem]) ?_
   refine (catch_halt p m ob sb kd cd A _ C st'.steps w5 hp c5 c3 0 0 _ 0 HO HS n1 n2 n3 n4).mono ?_
   rintro e u' w3 ⟨rfl, rfl, K, HO3, HS3⟩
   exact fin w3 K HO3 HS3
  ·refine leaves_cons (f := 26) (args := #[.pointer (some ⟨p, 0, none⟩), .pointer (some ⟨ob, 0, none⟩), .pointer (some ⟨sb, 0, none⟩)]) (by simp) (by simp [go_sem]) ?_
   refine (catch_trap p m ob sb T' tv hT A _ C st'.steps w5 hp c5 c3 0 0 _ 0 HO HS n1 n2 n3 n4).mono ?_
   rintro e u' w3 ⟨rfl, rfl, K, HO3, HS3⟩
   exact fin w3 K HO3 HS3
end Go.Proofs.Ytpphpcmbpbppoaa.Mach
end
