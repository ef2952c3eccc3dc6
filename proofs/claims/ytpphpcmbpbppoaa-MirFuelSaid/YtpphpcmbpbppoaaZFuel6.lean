/- Steps toward the law Fuel, merged from several texts (some of them began as the kit's print). No condition. -/
import Derived.Test.YtpphpcmbpbppoaaZFuel5
section
namespace Go.Proofs.Ytpphpcmbpbppoaa.Mach
open Go.RowKit Go.Proofs.YtpphpcmbpbppoaaW.PrintWords Go.Proofs.YtpphpcmbpbppoaaW.PrintLast Go.Proofs.YtpphpcmbpbppoaaW.PrintMore
open Go.Proofs.Ytpphpcmbpbppoaa.Calm
open Go.Proofs.Ytpphpcmbpbppoaa.PMirFuel (S30 S57 S34 S37 S40 S43 S45 S48 k30 k57 k34 k37 k40 k43 k45 k48 rd_T30 rd_T57 rd_T34 rd_T37 rd_T40 rd_T43 rd_T45 rd_T48 at_T30 at_T57 at_T34 at_T40 at_T45 at_T48)
set_option linter.unusedVariables false
set_option linter.unusedSimpArgs false
def iloadP (st : St) (F : Fr) (s : S40) : Res :=
 match plP st F s.f4 with
 | none => .halt 4 0 st
 | some a => match locate st a with
  | none => .halt 4 0 st
  | some l => setP st F s.f1 (rdL st l)
set_option maxRecDepth 100000 in
set_option maxHeartbeats 8000000 in
theorem instr_load {G : Glob} {S : Nat → Prop} {L : Lay} {F : Fr} {st : St} {w : World} (I : In G S L F st w) {p : Addr} {s : S40} {A7 A9 A15 A16 A17 : Option Addr} {c7 c9 c15 c16 c17 : Nat} (H : IA w p s A7 c7 A9 c9 A15 c15 A16 c16 A17 c17) (hop : s.f0 = 3) (hp : PlIn F s.f4) (d0 : 0 ≤ s.f1) (d1 : s.f1 < F.at_.length) :
  Calls Try.prog 82 #[.pointer (some ⟨G.m, 0, none⟩), .pointer (some p)] w (ResPost G S L F (iloadP st F s) w) := by
 have II := Aside0.mk I
 have HH := Aside0.mk H
 have h0 := H.h0
 rw [hop] at h0
 have h1 := H.h1
 have h6 := H.h6
 have h7 := H.h7
 cases hv : plP st F s.f4 with
 | none =>
  have hres : iloadP st F s = .halt 4 0 st := by unfold iloadP; rw [hv]
  have HR := Aside0.mk hres
  obtain ⟨W, hW⟩ : ∃ W, w.drew = W := ⟨_, rfl⟩
  have bW : Below w.heap.size w W := hW ▸ below_drew (Below.refl _ _)
  have IW := Aside0.mk (II.out.below bW)
  have HW := Aside0.mk hW
  have BW := Aside0.mk bW
  have q1 := pwcb BW.out h1
  have q6 := pwcb BW.out h6
  have q7 := pwcb BW.out h7
  have HP4 := Aside0.mk hv
  clear hv
  have HG7 := Aside0.mk (Kd.C_below HH.out.g7 BW.out)
  clear hres
  clear I H hop hW bW h1 h6 h7
  go_enter Try.func82, Try.ntmps82
  go_wp2
  refine region_doomed (fun w' => w'.cell? ⟨p.block, p.off + 1, none⟩ = some (.int .i64 s.f1) ∧ w'.cell? ⟨p.block, p.off + 6, none⟩ = some (.int .i64 s.f4.f0) ∧ w'.cell? ⟨p.block, p.off + 7, none⟩ = some (.slice A7 s.f4.f1.length c7) ∧ Aside0 (Below W.heap.size W w'))
   (fun ch w' => ch = [{ v := .iface 95 (.agg #[.int .i64 4, .int .i64 0]), recovered := false }] ∧ Below W.heap.size W w') 11 [0, 1, 2, 3, 4, 5, 6, 7, 8, 9, 10] (by kernel_rfl) (by kernel_rfl) (by kernel_rfl) (by rw [HW.out]; exact ⟨q1, q6, q7, ⟨Below.refl _ _⟩⟩) ?_ ?_
  ·rintro ch a w' hdf ⟨rfl, hb⟩
   exact ⟨hdf, ResPost.halt_ HR.out (Kept.of_below (below_then BW.out BW.out.size hb)) (IW.out.rep.below hb)⟩
  ·skip
   repeat (
    refine walk_ex (by rfl) (by rfl) (by rfl) ?_
    apply Exists.intro
    apply And.intro
    ·rintro w' ⟨k1, k2, k3, kb⟩
     apply calm_value
     go_simp
     with_reducible rfl
    simp only [List.setIfInBounds_toArray, List.set_cons_zero, List.set_cons_succ])
   refine walk_doom (by rfl) (by rfl) ?_
   rintro w' ⟨k1, k2, k3, kb⟩
   apply doom_call
   ·go_simp
    with_reducible exact ⟨rfl, rfl⟩
   ·refine (place_bad (IW.out.below kb.out) s.f4 A7 c7 hp (Kd.C_below HG7.out kb.out) HH.out.l7 HP4.out).mono ?_
    rintro e w2 ⟨rfl, hb⟩
    exact ⟨_, rfl, rfl, below_then kb.out kb.out.size hb⟩
 | some a =>
  have HP4 := Aside0.mk hv
  have HLA := Aside0.mk (plP_le I hv)
  cases hl : locate st a with
  | none =>
   have hres : iloadP st F s = .halt 4 0 st := by unfold iloadP; rw [hv]; simp only [hl]
   have HR := Aside0.mk hres
   obtain ⟨W, hW⟩ : ∃ W, w.drew = W := ⟨_, rfl⟩
   have bW : Below w.heap.size w W := hW ▸ below_drew (Below.refl _ _)
   have IW := Aside0.mk (II.out.below bW)
   have HW := Aside0.mk hW
   have BW := Aside0.mk bW
   have q1 := pwcb BW.out h1
   have q6 := pwcb BW.out h6
   have q7 := pwcb BW.out h7
   have HL := Aside0.mk hl
   clear hv hl
   have HG7 := Aside0.mk (Kd.C_below HH.out.g7 BW.out)
   clear hres
   clear I H hop hW bW h1 h6 h7
   go_enter Try.func82, Try.ntmps82
   go_wp2
   refine region_doomed (fun w' => w'.cell? ⟨p.block, p.off + 1, none⟩ = some (.int .i64 s.f1) ∧ w'.cell? ⟨p.block, p.off + 6, none⟩ = some (.int .i64 s.f4.f0) ∧ w'.cell? ⟨p.block, p.off + 7, none⟩ = some (.slice A7 s.f4.f1.length c7) ∧ Aside0 (Below W.heap.size W w'))
    (fun ch w' => ch = [{ v := .iface 95 (.agg #[.int .i64 4, .int .i64 0]), recovered := false }] ∧ Below W.heap.size W w') 12 [0, 1, 2, 3, 4, 5, 6, 7, 8, 9, 10, 11] (by kernel_rfl) (by kernel_rfl) (by kernel_rfl) (by rw [HW.out]; exact ⟨q1, q6, q7, ⟨Below.refl _ _⟩⟩) ?_ ?_
   ·rintro ch a w' hdf ⟨rfl, hb⟩
    exact ⟨hdf, ResPost.halt_ HR.out (Kept.of_below (below_then BW.out BW.out.size hb)) (IW.out.rep.below hb)⟩
   ·skip
    repeat (
     refine walk_ex (by rfl) (by rfl) (by rfl) ?_
     apply Exists.intro
     apply And.intro
     ·rintro w' ⟨k1, k2, k3, kb⟩
      apply calm_value
      go_simp
      with_reducible rfl
     simp only [List.setIfInBounds_toArray, List.set_cons_zero, List.set_cons_succ])
    refine walk_ex (by rfl) (by rfl) (by rfl) ?_
    apply Exists.intro
    apply And.intro
    ·rintro w' ⟨k1, k2, k3, kb⟩
     apply calm_call
     ·go_simp
      with_reducible exact ⟨rfl, rfl⟩
     ·refine (place_ok (IW.out.below kb.out) s.f4 A7 c7 hp (Kd.C_below HG7.out kb.out) HH.out.l7 HP4.out).mono ?_
      rintro e w2 ⟨rfl, hb⟩
      exact .inl ⟨rfl, ⟨pwcb hb k1, pwcb hb k2, pwcb hb k3, ⟨below_then kb.out kb.out.size hb⟩⟩⟩
    simp only [List.setIfInBounds_toArray, List.set_cons_zero, List.set_cons_succ]
    refine walk_doom (by rfl) (by rfl) ?_
    rintro w' ⟨k1, k2, k3, kb⟩
    apply doom_call
    ·go_simp
     with_reducible exact ⟨rfl, rfl⟩
    ·refine (cell_bad (IW.out.below kb.out).rep HLA.out HL.out).mono ?_
     rintro e w2 ⟨rfl, hb⟩
     exact ⟨_, rfl, rfl, below_then kb.out kb.out.size hb⟩
  | some l =>
   have hres : iloadP st F s = setP st F s.f1 (rdL st l) := by unfold iloadP; rw [hv]; simp only [hl]
   rw [hres]
   have HL := Aside0.mk hl
   have HLE := Aside0.mk (I.rep.rd_le l)
   obtain ⟨W, hW⟩ : ∃ W, w.drew = W := ⟨_, rfl⟩
   have bW : Below w.heap.size w W := hW ▸ below_drew (Below.refl _ _)
   have IW := Aside0.mk (II.out.below bW)
   have HW := Aside0.mk hW
   have BW := Aside0.mk bW
   have q1 := pwcb BW.out h1
   have q6 := pwcb BW.out h6
   have q7 := pwcb BW.out h7
   have HG7 := Aside0.mk (Kd.C_below HH.out.g7 BW.out)
   have hd1 := (IW.out.rep.load hl).1
   clear hv hl hres
   clear I H hop hW bW h1 h6 h7
   go_enter Try.func82, Try.ntmps82
   go_wp2
   refine region_last (fun w' => w'.cell? ⟨p.block, p.off + 1, none⟩ = some (.int .i64 s.f1) ∧ w'.cell? ⟨p.block, p.off + 6, none⟩ = some (.int .i64 s.f4.f0) ∧ w'.cell? ⟨p.block, p.off + 7, none⟩ = some (.slice A7 s.f4.f1.length c7) ∧ w'.cell? (L.addr l) = some (.int .i64 (rdL st l)) ∧ Aside0 (Below W.heap.size W w')) 15 (by kernel_rfl) (by kernel_rfl) (by kernel_rfl) (by rw [HW.out]; exact ⟨q1, q6, q7, hd1, ⟨Below.refl _ _⟩⟩) ?_
   simp only [List.range_succ, List.range_zero, List.nil_append, List.cons_append, List.singleton_append]
   repeat (
    refine walk_ex (by rfl) (by rfl) (by rfl) ?_
    apply Exists.intro
    apply And.intro
    ·rintro w' ⟨k1, k2, k3, k4, kb⟩
     apply calm_value
     go_simp
     with_reducible rfl
    simp only [List.setIfInBounds_toArray, List.set_cons_zero, List.set_cons_succ])
   refine walk_ex (by rfl) (by rfl) (by rfl) ?_
   apply Exists.intro
   apply And.intro
   ·rintro w' ⟨k1, k2, k3, k4, kb⟩
    apply calm_call
    ·go_simp
     with_reducible exact ⟨rfl, rfl⟩
    ·refine (place_ok (IW.out.below kb.out) s.f4 A7 c7 hp (Kd.C_below HG7.out kb.out) HH.out.l7 HP4.out).mono ?_
     rintro e w2 ⟨rfl, hb⟩
     exact .inl ⟨rfl, ⟨pwcb hb k1, pwcb hb k2, pwcb hb k3, pwcb hb k4, ⟨below_then kb.out kb.out.size hb⟩⟩⟩
   simp only [List.setIfInBounds_toArray, List.set_cons_zero, List.set_cons_succ]
   refine walk_ex (by rfl) (by rfl) (by rfl) ?_
   apply Exists.intro
   apply And.intro
   ·rintro w' ⟨k1, k2, k3, k4, kb⟩
    apply calm_call
    ·go_simp
     with_reducible exact ⟨rfl, rfl⟩
    ·refine (cell_ok (IW.out.below kb.out).rep HLA.out HL.out).mono ?_
     rintro e w2 ⟨rfl, hb⟩
     exact .inl ⟨rfl, ⟨pwcb hb k1, pwcb hb k2, pwcb hb k3, pwcb hb k4, ⟨below_then kb.out kb.out.size hb⟩⟩⟩
   simp only [List.setIfInBounds_toArray, List.set_cons_zero, List.set_cons_succ]
   repeat (
    refine walk_ex (by rfl) (by rfl) (by rfl) ?_
    apply Exists.intro
    apply And.intro
    ·rintro w' ⟨k1, k2, k3, k4, kb⟩
     apply calm_value
     go_simp
     with_reducible rfl
    simp only [List.setIfInBounds_toArray, List.set_cons_zero, List.set_cons_succ])
   refine walk_fin (by rfl) (by rfl) ?_
   rintro w' ⟨k1, k2, k3, k4, kb⟩ hdf
   have KB := kb
   clear k1 k2 k3 k4 kb
   go_wp2_with (go_at_call 97; refine (mset (IW.out.below KB.out) s.f1 (rdL st l) d0 d1 HLE.out).mono ?_; intro e w2 hp; have HP := Aside0.mk (ResPost.trans (Kept.of_below (below_then BW.out BW.out.size KB.out)) hp); clear hp)
   all_goals first | exact bodyPost_end (results_none rfl _ _ _) rfl (ResPost.norm HP.out) | exact ⟨rfl, HP.out⟩ | exact (ResPost.not_out HP.out).elim
def istoreP (st : St) (F : Fr) (s : S40) : Res :=
 match plP st F s.f4 with
 | none => .halt 4 0 st
 | some a => match locate st a with
  | none => .halt 4 0 st
  | some l => match operandP st F s.f2 with
   | none => .halt 4 0 st
   | some v => .ok (wrL st l v)
set_option maxRecDepth 100000 in
set_option maxHeartbeats 8000000 in
theorem instr_store {G : Glob} {S : Nat → Prop} {L : Lay} {F : Fr} {st : St} {w : World} (I : In G S L F st w) {p : Addr} {s : S40} {A7 A9 A15 A16 A17 : Option Addr} {c7 c9 c15 c16 c17 : Nat} (H : IA w p s A7 c7 A9 c9 A15 c15 A16 c16 A17 c17) (hop : s.f0 = 4) (hp : PlIn F s.f4) (ho : OpIn F s.f2) :
  Calls Try.prog 82 #[.pointer (some ⟨G.m, 0, none⟩), .pointer (some p)] w (ResPost G S L F (istoreP st F s) w) := by
 have II := Aside0.mk I
 have HH := Aside0.mk H
 have h0 := H.h0
 rw [hop] at h0
 have h2 := H.h2
 have h3 := H.h3
 have h6 := H.h6
 have h7 := H.h7
 cases hv : plP st F s.f4 with
 | none =>
  have hres : istoreP st F s = .halt 4 0 st := by unfold istoreP; rw [hv]
  have HR := Aside0.mk hres
  obtain ⟨W, hW⟩ : ∃ W, w.drew = W := ⟨_, rfl⟩
  have bW : Below w.heap.size w W := hW ▸ below_drew (Below.refl _ _)
  have IW := Aside0.mk (II.out.below bW)
  have HW := Aside0.mk hW
  have BW := Aside0.mk bW
  have q2 := pwcb BW.out h2
  have q3 := pwcb BW.out h3
  have q6 := pwcb BW.out h6
  have q7 := pwcb BW.out h7
  have HP4 := Aside0.mk hv
  clear hv
  have HG7 := Aside0.mk (Kd.C_below HH.out.g7 BW.out)
  clear hres
  clear I H hop hW bW h2 h3 h6 h7
  go_enter Try.func82, Try.ntmps82
  go_wp2
  refine region_doomed (fun w' => w'.cell? ⟨p.block, p.off + 2, none⟩ = some (.bool s.f2.f0) ∧ w'.cell? ⟨p.block, p.off + 3, none⟩ = some (.int .i64 s.f2.f1) ∧ w'.cell? ⟨p.block, p.off + 6, none⟩ = some (.int .i64 s.f4.f0) ∧ w'.cell? ⟨p.block, p.off + 7, none⟩ = some (.slice A7 s.f4.f1.length c7) ∧ Aside0 (Below W.heap.size W w'))
   (fun ch w' => ch = [{ v := .iface 95 (.agg #[.int .i64 4, .int .i64 0]), recovered := false }] ∧ Below W.heap.size W w') 6 [0, 1, 2, 3, 4, 5, 8, 9, 10, 11, 12] (by kernel_rfl) (by kernel_rfl) (by kernel_rfl) (by rw [HW.out]; exact ⟨q2, q3, q6, q7, ⟨Below.refl _ _⟩⟩) ?_ ?_
  ·rintro ch a w' hdf ⟨rfl, hb⟩
   exact ⟨hdf, ResPost.halt_ HR.out (Kept.of_below (below_then BW.out BW.out.size hb)) (IW.out.rep.below hb)⟩
  ·skip
   repeat (
    refine walk_ex (by rfl) (by rfl) (by rfl) ?_
    apply Exists.intro
    apply And.intro
    ·rintro w' ⟨k1, k2, k3, k4, kb⟩
     apply calm_value
     go_simp
     with_reducible rfl
    simp only [List.setIfInBounds_toArray, List.set_cons_zero, List.set_cons_succ])
   refine walk_doom (by rfl) (by rfl) ?_
   rintro w' ⟨k1, k2, k3, k4, kb⟩
   apply doom_call
   ·go_simp
    with_reducible exact ⟨rfl, rfl⟩
   ·refine (place_bad (IW.out.below kb.out) s.f4 A7 c7 hp (Kd.C_below HG7.out kb.out) HH.out.l7 HP4.out).mono ?_
    rintro e w2 ⟨rfl, hb⟩
    exact ⟨_, rfl, rfl, below_then kb.out kb.out.size hb⟩
 | some a =>
  have HP4 := Aside0.mk hv
  have HLA := Aside0.mk (plP_le I hv)
  cases hl : locate st a with
  | none =>
   have hres : istoreP st F s = .halt 4 0 st := by unfold istoreP; rw [hv]; simp only [hl]
   have HR := Aside0.mk hres
   obtain ⟨W, hW⟩ : ∃ W, w.drew = W := ⟨_, rfl⟩
   have bW : Below w.heap.size w W := hW ▸ below_drew (Below.refl _ _)
   have IW := Aside0.mk (II.out.below bW)
   have HW := Aside0.mk hW
   have BW := Aside0.mk bW
   have q2 := pwcb BW.out h2
   have q3 := pwcb BW.out h3
   have q6 := pwcb BW.out h6
   have q7 := pwcb BW.out h7
   have HL := Aside0.mk hl
   clear hv hl
   have HG7 := Aside0.mk (Kd.C_below HH.out.g7 BW.out)
   clear hres
   clear I H hop hW bW h2 h3 h6 h7
   go_enter Try.func82, Try.ntmps82
   go_wp2
   refine region_doomed (fun w' => w'.cell? ⟨p.block, p.off + 2, none⟩ = some (.bool s.f2.f0) ∧ w'.cell? ⟨p.block, p.off + 3, none⟩ = some (.int .i64 s.f2.f1) ∧ w'.cell? ⟨p.block, p.off + 6, none⟩ = some (.int .i64 s.f4.f0) ∧ w'.cell? ⟨p.block, p.off + 7, none⟩ = some (.slice A7 s.f4.f1.length c7) ∧ Aside0 (Below W.heap.size W w'))
    (fun ch w' => ch = [{ v := .iface 95 (.agg #[.int .i64 4, .int .i64 0]), recovered := false }] ∧ Below W.heap.size W w') 7 [0, 1, 2, 3, 4, 5, 6, 8, 9, 10, 11, 12] (by kernel_rfl) (by kernel_rfl) (by kernel_rfl) (by rw [HW.out]; exact ⟨q2, q3, q6, q7, ⟨Below.refl _ _⟩⟩) ?_ ?_
   ·rintro ch a w' hdf ⟨rfl, hb⟩
    exact ⟨hdf, ResPost.halt_ HR.out (Kept.of_below (below_then BW.out BW.out.size hb)) (IW.out.rep.below hb)⟩
   ·skip
    repeat (
     refine walk_ex (by rfl) (by rfl) (by rfl) ?_
     apply Exists.intro
     apply And.intro
     ·rintro w' ⟨k1, k2, k3, k4, kb⟩
      apply calm_value
      go_simp
      with_reducible rfl
     simp only [List.setIfInBounds_toArray, List.set_cons_zero, List.set_cons_succ])
    refine walk_ex (by rfl) (by rfl) (by rfl) ?_
    apply Exists.intro
    apply And.intro
    ·rintro w' ⟨k1, k2, k3, k4, kb⟩
     apply calm_call
     ·go_simp
      with_reducible exact ⟨rfl, rfl⟩
     ·refine (place_ok (IW.out.below kb.out) s.f4 A7 c7 hp (Kd.C_below HG7.out kb.out) HH.out.l7 HP4.out).mono ?_
      rintro e w2 ⟨rfl, hb⟩
      exact .inl ⟨rfl, ⟨pwcb hb k1, pwcb hb k2, pwcb hb k3, pwcb hb k4, ⟨below_then kb.out kb.out.size hb⟩⟩⟩
    simp only [List.setIfInBounds_toArray, List.set_cons_zero, List.set_cons_succ]
    repeat (
     refine walk_ex (by rfl) (by rfl) (by rfl) ?_
     apply Exists.intro
     apply And.intro
     ·rintro w' ⟨k1, k2, k3, k4, kb⟩
      apply calm_value
      go_simp
      with_reducible rfl
     simp only [List.setIfInBounds_toArray, List.set_cons_zero, List.set_cons_succ])
    refine walk_doom (by rfl) (by rfl) ?_
    rintro w' ⟨k1, k2, k3, k4, kb⟩
    apply doom_call
    ·go_simp
     with_reducible exact ⟨rfl, rfl⟩
    ·refine (cell_bad (IW.out.below kb.out).rep HLA.out HL.out).mono ?_
     rintro e w2 ⟨rfl, hb⟩
     exact ⟨_, rfl, rfl, below_then kb.out kb.out.size hb⟩
  | some l =>
   have HL := Aside0.mk hl
   cases hw : operandP st F s.f2 with
   | none =>
    have hres : istoreP st F s = .halt 4 0 st := by unfold istoreP; rw [hv]; simp only [hl]; rw [hw]
    have HR := Aside0.mk hres
    obtain ⟨W, hW⟩ : ∃ W, w.drew = W := ⟨_, rfl⟩
    have bW : Below w.heap.size w W := hW ▸ below_drew (Below.refl _ _)
    have IW := Aside0.mk (II.out.below bW)
    have HW := Aside0.mk hW
    have BW := Aside0.mk bW
    have q2 := pwcb BW.out h2
    have q3 := pwcb BW.out h3
    have q6 := pwcb BW.out h6
    have q7 := pwcb BW.out h7
    have HV := Aside0.mk hw
    clear hv hl hw
    have HG7 := Aside0.mk (Kd.C_below HH.out.g7 BW.out)
    clear hres
    clear I H hop hW bW h2 h3 h6 h7
    go_enter Try.func82, Try.ntmps82
    go_wp2
    refine region_doomed (fun w' => w'.cell? ⟨p.block, p.off + 2, none⟩ = some (.bool s.f2.f0) ∧ w'.cell? ⟨p.block, p.off + 3, none⟩ = some (.int .i64 s.f2.f1) ∧ w'.cell? ⟨p.block, p.off + 6, none⟩ = some (.int .i64 s.f4.f0) ∧ w'.cell? ⟨p.block, p.off + 7, none⟩ = some (.slice A7 s.f4.f1.length c7) ∧ Aside0 (Below W.heap.size W w'))
     (fun ch w' => ch = [{ v := .iface 95 (.agg #[.int .i64 4, .int .i64 0]), recovered := false }] ∧ Below W.heap.size W w') 13 [0, 1, 2, 3, 4, 5, 6, 7, 8, 9, 10, 11, 12] (by kernel_rfl) (by kernel_rfl) (by kernel_rfl) (by rw [HW.out]; exact ⟨q2, q3, q6, q7, ⟨Below.refl _ _⟩⟩) ?_ ?_
    ·rintro ch a w' hdf ⟨rfl, hb⟩
     exact ⟨hdf, ResPost.halt_ HR.out (Kept.of_below (below_then BW.out BW.out.size hb)) (IW.out.rep.below hb)⟩
    ·skip
     repeat (
      refine walk_ex (by rfl) (by rfl) (by rfl) ?_
      apply Exists.intro
      apply And.intro
      ·rintro w' ⟨k1, k2, k3, k4, kb⟩
       apply calm_value
       go_simp
       with_reducible rfl
      simp only [List.setIfInBounds_toArray, List.set_cons_zero, List.set_cons_succ])
     refine walk_ex (by rfl) (by rfl) (by rfl) ?_
     apply Exists.intro
     apply And.intro
     ·rintro w' ⟨k1, k2, k3, k4, kb⟩
      apply calm_call
      ·go_simp
       with_reducible exact ⟨rfl, rfl⟩
      ·refine (place_ok (IW.out.below kb.out) s.f4 A7 c7 hp (Kd.C_below HG7.out kb.out) HH.out.l7 HP4.out).mono ?_
       rintro e w2 ⟨rfl, hb⟩
       exact .inl ⟨rfl, ⟨pwcb hb k1, pwcb hb k2, pwcb hb k3, pwcb hb k4, ⟨below_then kb.out kb.out.size hb⟩⟩⟩
     simp only [List.setIfInBounds_toArray, List.set_cons_zero, List.set_cons_succ]
     refine walk_ex (by rfl) (by rfl) (by rfl) ?_
     apply Exists.intro
     apply And.intro
     ·rintro w' ⟨k1, k2, k3, k4, kb⟩
      apply calm_call
      ·go_simp
       with_reducible exact ⟨rfl, rfl⟩
      ·refine (cell_ok (IW.out.below kb.out).rep HLA.out HL.out).mono ?_
       rintro e w2 ⟨rfl, hb⟩
       exact .inl ⟨rfl, ⟨pwcb hb k1, pwcb hb k2, pwcb hb k3, pwcb hb k4, ⟨below_then kb.out kb.out.size hb⟩⟩⟩
     simp only [List.setIfInBounds_toArray, List.set_cons_zero, List.set_cons_succ]
     repeat (
      refine walk_ex (by rfl) (by rfl) (by rfl) ?_
      apply Exists.intro
      apply And.intro
      ·rintro w' ⟨k1, k2, k3, k4, kb⟩
       apply calm_value
       go_simp
       with_reducible rfl
      simp only [List.setIfInBounds_toArray, List.set_cons_zero, List.set_cons_succ])
     refine walk_doom (by rfl) (by rfl) ?_
     rintro w' ⟨k1, k2, k3, k4, kb⟩
     apply doom_call
     ·go_simp
      with_reducible exact ⟨rfl, rfl⟩
     ·refine (operand_bad (IW.out.below kb.out) s.f2 ho HV.out).mono ?_
      rintro e w2 ⟨rfl, hb⟩
      exact ⟨_, rfl, rfl, below_then kb.out kb.out.size hb⟩
   | some v =>
    have hres : istoreP st F s = .ok (wrL st l v) := by unfold istoreP; rw [hv]; simp only [hl]; rw [hw]
    have HR := Aside0.mk hres
    have HV := Aside0.mk hw
    have HLE := Aside0.mk (operandP_le I hw)
    obtain ⟨W, hW⟩ : ∃ W, w.drew = W := ⟨_, rfl⟩
    have bW : Below w.heap.size w W := hW ▸ below_drew (Below.refl _ _)
    have IW := Aside0.mk (II.out.below bW)
    have HW := Aside0.mk hW
    have BW := Aside0.mk bW
    have q2 := pwcb BW.out h2
    have q3 := pwcb BW.out h3
    have q6 := pwcb BW.out h6
    have q7 := pwcb BW.out h7
    have HG7 := Aside0.mk (Kd.C_below HH.out.g7 BW.out)
    have hd1 := (IW.out.rep.load hl).1
    clear hv hl hw hres
    clear I H hop hW bW h2 h3 h6 h7
    go_enter Try.func82, Try.ntmps82
    go_wp2
    refine region_last (fun w' => w'.cell? ⟨p.block, p.off + 2, none⟩ = some (.bool s.f2.f0) ∧ w'.cell? ⟨p.block, p.off + 3, none⟩ = some (.int .i64 s.f2.f1) ∧ w'.cell? ⟨p.block, p.off + 6, none⟩ = some (.int .i64 s.f4.f0) ∧ w'.cell? ⟨p.block, p.off + 7, none⟩ = some (.slice A7 s.f4.f1.length c7) ∧ w'.cell? (L.addr l) = some (.int .i64 (rdL st l)) ∧ Aside0 (Below W.heap.size W w')) 15 (by kernel_rfl) (by kernel_rfl) (by kernel_rfl) (by rw [HW.out]; exact ⟨q2, q3, q6, q7, hd1, ⟨Below.refl _ _⟩⟩) ?_
    simp only [List.range_succ, List.range_zero, List.nil_append, List.cons_append, List.singleton_append]
    repeat (
     refine walk_ex (by rfl) (by rfl) (by rfl) ?_
     apply Exists.intro
     apply And.intro
     ·rintro w' ⟨k1, k2, k3, k4, k5, kb⟩
      apply calm_value
      go_simp
      with_reducible rfl
     simp only [List.setIfInBounds_toArray, List.set_cons_zero, List.set_cons_succ])
    refine walk_ex (by rfl) (by rfl) (by rfl) ?_
    apply Exists.intro
    apply And.intro
    ·rintro w' ⟨k1, k2, k3, k4, k5, kb⟩
     apply calm_call
     ·go_simp
      with_reducible exact ⟨rfl, rfl⟩
     ·refine (place_ok (IW.out.below kb.out) s.f4 A7 c7 hp (Kd.C_below HG7.out kb.out) HH.out.l7 HP4.out).mono ?_
      rintro e w2 ⟨rfl, hb⟩
      exact .inl ⟨rfl, ⟨pwcb hb k1, pwcb hb k2, pwcb hb k3, pwcb hb k4, pwcb hb k5, ⟨below_then kb.out kb.out.size hb⟩⟩⟩
    simp only [List.setIfInBounds_toArray, List.set_cons_zero, List.set_cons_succ]
    refine walk_ex (by rfl) (by rfl) (by rfl) ?_
    apply Exists.intro
    apply And.intro
    ·rintro w' ⟨k1, k2, k3, k4, k5, kb⟩
     apply calm_call
     ·go_simp
      with_reducible exact ⟨rfl, rfl⟩
     ·refine (cell_ok (IW.out.below kb.out).rep HLA.out HL.out).mono ?_
      rintro e w2 ⟨rfl, hb⟩
      exact .inl ⟨rfl, ⟨pwcb hb k1, pwcb hb k2, pwcb hb k3, pwcb hb k4, pwcb hb k5, ⟨below_then kb.out kb.out.size hb⟩⟩⟩
    simp only [List.setIfInBounds_toArray, List.set_cons_zero, List.set_cons_succ]
    repeat (
     refine walk_ex (by rfl) (by rfl) (by rfl) ?_
     apply Exists.intro
     apply And.intro
     ·rintro w' ⟨k1, k2, k3, k4, k5, kb⟩
      apply calm_value
      go_simp
      with_reducible rfl
     simp only [List.setIfInBounds_toArray, List.set_cons_zero, List.set_cons_succ])
    refine walk_ex (by rfl) (by rfl) (by rfl) ?_
    apply Exists.intro
    apply And.intro
    ·rintro w' ⟨k1, k2, k3, k4, k5, kb⟩
     apply calm_call
     ·go_simp
      with_reducible exact ⟨rfl, rfl⟩
     ·refine (operand_ok (IW.out.below kb.out) s.f2 ho HV.out).mono ?_
      rintro e w2 ⟨rfl, hb⟩
      exact .inl ⟨rfl, ⟨pwcb hb k1, pwcb hb k2, pwcb hb k3, pwcb hb k4, pwcb hb k5, ⟨below_then kb.out kb.out.size hb⟩⟩⟩
    simp only [List.setIfInBounds_toArray, List.set_cons_zero, List.set_cons_succ]
    repeat (
     refine walk_ex (by rfl) (by rfl) (by rfl) ?_
     apply Exists.intro
     apply And.intro
     ·rintro w' ⟨k1, k2, k3, k4, k5, kb⟩
      apply calm_value
      go_simp
      with_reducible rfl
     simp only [List.setIfInBounds_toArray, List.set_cons_zero, List.set_cons_succ])
    refine walk_fin (by rfl) (by rfl) ?_
    rintro w' ⟨k1, k2, k3, k4, k5, kb⟩ hdf
    have KB := kb
    have IX := Aside0.mk (IW.out.below KB.out)
    have hfz := (IX.out.rep.load HL.out).2
    clear k1 k2 k3 k4 kb
    go_wp2
    refine bodyPost_end (results_none rfl _ _ _) rfl (ResPost.ok_ HR.out ?_ (IX.out.wr HL.out v HLE.out))
    exact (Kept.of_below (below_then BW.out BW.out.size KB.out)).setCell (IX.out.rep.addr_own HL.out) _
def iaddrP (st : St) (F : Fr) (s : S40) : Res :=
 match plP st F s.f4 with
 | none => .halt 4 0 st
 | some a => setP st F s.f1 a
set_option maxRecDepth 100000 in
set_option maxHeartbeats 8000000 in
theorem instr_addr {G : Glob} {S : Nat → Prop} {L : Lay} {F : Fr} {st : St} {w : World} (I : In G S L F st w) {p : Addr} {s : S40} {A7 A9 A15 A16 A17 : Option Addr} {c7 c9 c15 c16 c17 : Nat} (H : IA w p s A7 c7 A9 c9 A15 c15 A16 c16 A17 c17) (hop : s.f0 = 6) (hp : PlIn F s.f4) (d0 : 0 ≤ s.f1) (d1 : s.f1 < F.at_.length) :
  Calls Try.prog 82 #[.pointer (some ⟨G.m, 0, none⟩), .pointer (some p)] w (ResPost G S L F (iaddrP st F s) w) := by
 have II := Aside0.mk I
 have HH := Aside0.mk H
 have h0 := H.h0
 rw [hop] at h0
 have h1 := H.h1
 have h6 := H.h6
 have h7 := H.h7
 cases hv : plP st F s.f4 with
 | none =>
  have hres : iaddrP st F s = .halt 4 0 st := by unfold iaddrP; rw [hv]
  have HR := Aside0.mk hres
  obtain ⟨W, hW⟩ : ∃ W, w.drew = W := ⟨_, rfl⟩
  have bW : Below w.heap.size w W := hW ▸ below_drew (Below.refl _ _)
  have IW := Aside0.mk (II.out.below bW)
  have HW := Aside0.mk hW
  have BW := Aside0.mk bW
  have q1 := pwcb BW.out h1
  have q6 := pwcb BW.out h6
  have q7 := pwcb BW.out h7
  have HP4 := Aside0.mk hv
  clear hv
  have HG7 := Aside0.mk (Kd.C_below HH.out.g7 BW.out)
  clear hres
  clear I H hop hW bW h1 h6 h7
  go_enter Try.func82, Try.ntmps82
  go_wp2
  refine region_doomed (fun w' => w'.cell? ⟨p.block, p.off + 1, none⟩ = some (.int .i64 s.f1) ∧ w'.cell? ⟨p.block, p.off + 6, none⟩ = some (.int .i64 s.f4.f0) ∧ w'.cell? ⟨p.block, p.off + 7, none⟩ = some (.slice A7 s.f4.f1.length c7) ∧ Aside0 (Below W.heap.size W w'))
   (fun ch w' => ch = [{ v := .iface 95 (.agg #[.int .i64 4, .int .i64 0]), recovered := false }] ∧ Below W.heap.size W w') 10 [0, 1, 2, 3, 4, 5, 6, 7, 8, 9] (by kernel_rfl) (by kernel_rfl) (by kernel_rfl) (by rw [HW.out]; exact ⟨q1, q6, q7, ⟨Below.refl _ _⟩⟩) ?_ ?_
  ·rintro ch a w' hdf ⟨rfl, hb⟩
   exact ⟨hdf, ResPost.halt_ HR.out (Kept.of_below (below_then BW.out BW.out.size hb)) (IW.out.rep.below hb)⟩
  ·skip
   repeat (
    refine walk_ex (by rfl) (by rfl) (by rfl) ?_
    apply Exists.intro
    apply And.intro
    ·rintro w' ⟨k1, k2, k3, kb⟩
     apply calm_value
     go_simp
     with_reducible rfl
    simp only [List.setIfInBounds_toArray, List.set_cons_zero, List.set_cons_succ])
   refine walk_doom (by rfl) (by rfl) ?_
   rintro w' ⟨k1, k2, k3, kb⟩
   apply doom_call
   ·go_simp
    with_reducible exact ⟨rfl, rfl⟩
   ·refine (place_bad (IW.out.below kb.out) s.f4 A7 c7 hp (Kd.C_below HG7.out kb.out) HH.out.l7 HP4.out).mono ?_
    rintro e w2 ⟨rfl, hb⟩
    exact ⟨_, rfl, rfl, below_then kb.out kb.out.size hb⟩
 | some a =>
  have hres : iaddrP st F s = setP st F s.f1 a := by unfold iaddrP; rw [hv]
  rw [hres]
  have HP4 := Aside0.mk hv
  have HLA := Aside0.mk (plP_le I hv)
  obtain ⟨W, hW⟩ : ∃ W, w.drew = W := ⟨_, rfl⟩
  have bW : Below w.heap.size w W := hW ▸ below_drew (Below.refl _ _)
  have IW := Aside0.mk (II.out.below bW)
  have HW := Aside0.mk hW
  have BW := Aside0.mk bW
  have q1 := pwcb BW.out h1
  have q6 := pwcb BW.out h6
  have q7 := pwcb BW.out h7
  have HG7 := Aside0.mk (Kd.C_below HH.out.g7 BW.out)
  clear hv hres
  clear I H hop hW bW h1 h6 h7
  go_enter Try.func82, Try.ntmps82
  go_wp2
  refine region_last (fun w' => w'.cell? ⟨p.block, p.off + 1, none⟩ = some (.int .i64 s.f1) ∧ w'.cell? ⟨p.block, p.off + 6, none⟩ = some (.int .i64 s.f4.f0) ∧ w'.cell? ⟨p.block, p.off + 7, none⟩ = some (.slice A7 s.f4.f1.length c7) ∧ Aside0 (Below W.heap.size W w')) 11 (by kernel_rfl) (by kernel_rfl) (by kernel_rfl) (by rw [HW.out]; exact ⟨q1, q6, q7, ⟨Below.refl _ _⟩⟩) ?_
  simp only [List.range_succ, List.range_zero, List.nil_append, List.cons_append, List.singleton_append]
  repeat (
   refine walk_ex (by rfl) (by rfl) (by rfl) ?_
   apply Exists.intro
   apply And.intro
   ·rintro w' ⟨k1, k2, k3, kb⟩
    apply calm_value
    go_simp
    with_reducible rfl
   simp only [List.setIfInBounds_toArray, List.set_cons_zero, List.set_cons_succ])
  refine walk_ex (by rfl) (by rfl) (by rfl) ?_
  apply Exists.intro
  apply And.intro
  ·rintro w' ⟨k1, k2, k3, kb⟩
   apply calm_call
   ·go_simp
    with_reducible exact ⟨rfl, rfl⟩
   ·refine (place_ok (IW.out.below kb.out) s.f4 A7 c7 hp (Kd.C_below HG7.out kb.out) HH.out.l7 HP4.out).mono ?_
    rintro e w2 ⟨rfl, hb⟩
    exact .inl ⟨rfl, ⟨pwcb hb k1, pwcb hb k2, pwcb hb k3, ⟨below_then kb.out kb.out.size hb⟩⟩⟩
  simp only [List.setIfInBounds_toArray, List.set_cons_zero, List.set_cons_succ]
  repeat (
   refine walk_ex (by rfl) (by rfl) (by rfl) ?_
   apply Exists.intro
   apply And.intro
   ·rintro w' ⟨k1, k2, k3, kb⟩
    apply calm_value
    go_simp
    with_reducible rfl
   simp only [List.setIfInBounds_toArray, List.set_cons_zero, List.set_cons_succ])
  refine walk_fin (by rfl) (by rfl) ?_
  rintro w' ⟨k1, k2, k3, kb⟩ hdf
  have KB := kb
  clear k1 k2 k3 kb
  go_wp2_with (go_at_call 97; refine (mset (IW.out.below KB.out) s.f1 a d0 d1 HLA.out).mono ?_; intro e w2 hp; have HP := Aside0.mk (ResPost.trans (Kept.of_below (below_then BW.out BW.out.size KB.out)) hp); clear hp)
  all_goals first | exact bodyPost_end (results_none rfl _ _ _) rfl (ResPost.norm HP.out) | exact ⟨rfl, HP.out⟩ | exact (ResPost.not_out HP.out).elim
def icopyP (st : St) (F : Fr) (s : S40) : Res :=
 match plP st F s.f4 with
 | none => .halt 4 0 st
 | some a => match plP st F s.f5 with
  | none => .halt 4 0 st
  | some b => copyP st a b s.f6.toNat
set_option maxRecDepth 100000 in
set_option maxHeartbeats 8000000 in
theorem instr_copy {G : Glob} {S : Nat → Prop} {L : Lay} {F : Fr} {st : St} {w : World} (I : In G S L F st w) {p : Addr} {s : S40} {A7 A9 A15 A16 A17 : Option Addr} {c7 c9 c15 c16 c17 : Nat} (H : IA w p s A7 c7 A9 c9 A15 c15 A16 c16 A17 c17) (hop : s.f0 = 5) (hp : PlIn F s.f4) (hq : PlIn F s.f5) (hn0 : 0 ≤ s.f6) (hn1 : s.f6 ≤ 128) :
  Calls Try.prog 82 #[.pointer (some ⟨G.m, 0, none⟩), .pointer (some p)] w (ResPost G S L F (icopyP st F s) w) := by
 have II := Aside0.mk I
 have HH := Aside0.mk H
 have h0 := H.h0
 rw [hop] at h0
 have h6 := H.h6
 have h7 := H.h7
 have h8 := H.h8
 have h9 := H.h9
 have h10 := H.h10
 cases hv : plP st F s.f4 with
 | none =>
  have hres : icopyP st F s = .halt 4 0 st := by unfold icopyP; rw [hv]
  have HR := Aside0.mk hres
  obtain ⟨W, hW⟩ : ∃ W, w.drew = W := ⟨_, rfl⟩
  have bW : Below w.heap.size w W := hW ▸ below_drew (Below.refl _ _)
  have IW := Aside0.mk (II.out.below bW)
  have HW := Aside0.mk hW
  have BW := Aside0.mk bW
  have q6 := pwcb BW.out h6
  have q7 := pwcb BW.out h7
  have q8 := pwcb BW.out h8
  have q9 := pwcb BW.out h9
  have q10 := pwcb BW.out h10
  have HP4 := Aside0.mk hv
  clear hv
  have HG7 := Aside0.mk (Kd.C_below HH.out.g7 BW.out)
  clear hres
  clear I H hop hW bW h6 h7 h8 h9 h10
  go_enter Try.func82, Try.ntmps82
  go_wp2
  refine region_doomed (fun w' => w'.cell? ⟨p.block, p.off + 6, none⟩ = some (.int .i64 s.f4.f0) ∧ w'.cell? ⟨p.block, p.off + 7, none⟩ = some (.slice A7 s.f4.f1.length c7) ∧ w'.cell? ⟨p.block, p.off + 8, none⟩ = some (.int .i64 s.f5.f0) ∧ w'.cell? ⟨p.block, p.off + 9, none⟩ = some (.slice A9 s.f5.f1.length c9) ∧ w'.cell? ⟨p.block, p.off + 10, none⟩ = some (.int .i64 s.f6) ∧ Aside0 (Below W.heap.size W w'))
   (fun ch w' => ch = [{ v := .iface 95 (.agg #[.int .i64 4, .int .i64 0]), recovered := false }] ∧ Below W.heap.size W w') 6 [0, 1, 2, 3, 4, 5, 7, 8, 9, 10, 11, 13, 14, 15, 16] (by kernel_rfl) (by kernel_rfl) (by kernel_rfl) (by rw [HW.out]; exact ⟨q6, q7, q8, q9, q10, ⟨Below.refl _ _⟩⟩) ?_ ?_
  ·rintro ch a w' hdf ⟨rfl, hb⟩
   exact ⟨hdf, ResPost.halt_ HR.out (Kept.of_below (below_then BW.out BW.out.size hb)) (IW.out.rep.below hb)⟩
  ·skip
   repeat (
    refine walk_ex (by rfl) (by rfl) (by rfl) ?_
    apply Exists.intro
    apply And.intro
    ·rintro w' ⟨k1, k2, k3, k4, k5, kb⟩
     apply calm_value
     go_simp
     with_reducible rfl
    simp only [List.setIfInBounds_toArray, List.set_cons_zero, List.set_cons_succ])
   refine walk_doom (by rfl) (by rfl) ?_
   rintro w' ⟨k1, k2, k3, k4, k5, kb⟩
   apply doom_call
   ·go_simp
    with_reducible exact ⟨rfl, rfl⟩
   ·refine (place_bad (IW.out.below kb.out) s.f4 A7 c7 hp (Kd.C_below HG7.out kb.out) HH.out.l7 HP4.out).mono ?_
    rintro e w2 ⟨rfl, hb⟩
    exact ⟨_, rfl, rfl, below_then kb.out kb.out.size hb⟩
 | some a =>
  have HP4 := Aside0.mk hv
  cases hw : plP st F s.f5 with
  | none =>
   have hres : icopyP st F s = .halt 4 0 st := by unfold icopyP; rw [hv]; simp only [hw]
   have HR := Aside0.mk hres
   obtain ⟨W, hW⟩ : ∃ W, w.drew = W := ⟨_, rfl⟩
   have bW : Below w.heap.size w W := hW ▸ below_drew (Below.refl _ _)
   have IW := Aside0.mk (II.out.below bW)
   have HW := Aside0.mk hW
   have BW := Aside0.mk bW
   have q6 := pwcb BW.out h6
   have q7 := pwcb BW.out h7
   have q8 := pwcb BW.out h8
   have q9 := pwcb BW.out h9
   have q10 := pwcb BW.out h10
   have HP5 := Aside0.mk hw
   clear hv hw
   have HG7 := Aside0.mk (Kd.C_below HH.out.g7 BW.out)
   have HG9 := Aside0.mk (Kd.C_below HH.out.g9 BW.out)
   clear hres
   clear I H hop hW bW h6 h7 h8 h9 h10
   go_enter Try.func82, Try.ntmps82
   go_wp2
   refine region_doomed (fun w' => w'.cell? ⟨p.block, p.off + 6, none⟩ = some (.int .i64 s.f4.f0) ∧ w'.cell? ⟨p.block, p.off + 7, none⟩ = some (.slice A7 s.f4.f1.length c7) ∧ w'.cell? ⟨p.block, p.off + 8, none⟩ = some (.int .i64 s.f5.f0) ∧ w'.cell? ⟨p.block, p.off + 9, none⟩ = some (.slice A9 s.f5.f1.length c9) ∧ w'.cell? ⟨p.block, p.off + 10, none⟩ = some (.int .i64 s.f6) ∧ Aside0 (Below W.heap.size W w'))
    (fun ch w' => ch = [{ v := .iface 95 (.agg #[.int .i64 4, .int .i64 0]), recovered := false }] ∧ Below W.heap.size W w') 12 [0, 1, 2, 3, 4, 5, 6, 7, 8, 9, 10, 11, 13, 14, 15, 16] (by kernel_rfl) (by kernel_rfl) (by kernel_rfl) (by rw [HW.out]; exact ⟨q6, q7, q8, q9, q10, ⟨Below.refl _ _⟩⟩) ?_ ?_
   ·rintro ch a w' hdf ⟨rfl, hb⟩
    exact ⟨hdf, ResPost.halt_ HR.out (Kept.of_below (below_then BW.out BW.out.size hb)) (IW.out.rep.below hb)⟩
   ·skip
    repeat (
     refine walk_ex (by rfl) (by rfl) (by rfl) ?_
     apply Exists.intro
     apply And.intro
     ·rintro w' ⟨k1, k2, k3, k4, k5, kb⟩
      apply calm_value
      go_simp
      with_reducible rfl
     simp only [List.setIfInBounds_toArray, List.set_cons_zero, List.set_cons_succ])
    refine walk_ex (by rfl) (by rfl) (by rfl) ?_
    apply Exists.intro
    apply And.intro
    ·rintro w' ⟨k1, k2, k3, k4, k5, kb⟩
     apply calm_call
     ·go_simp
      with_reducible exact ⟨rfl, rfl⟩
     ·refine (place_ok (IW.out.below kb.out) s.f4 A7 c7 hp (Kd.C_below HG7.out kb.out) HH.out.l7 HP4.out).mono ?_
      rintro e w2 ⟨rfl, hb⟩
      exact .inl ⟨rfl, ⟨pwcb hb k1, pwcb hb k2, pwcb hb k3, pwcb hb k4, pwcb hb k5, ⟨below_then kb.out kb.out.size hb⟩⟩⟩
    simp only [List.setIfInBounds_toArray, List.set_cons_zero, List.set_cons_succ]
    repeat (
     refine walk_ex (by rfl) (by rfl) (by rfl) ?_
     apply Exists.intro
     apply And.intro
     ·rintro w' ⟨k1, k2, k3, k4, k5, kb⟩
      apply calm_value
      go_simp
      with_reducible rfl
     simp only [List.setIfInBounds_toArray, List.set_cons_zero, List.set_cons_succ])
    refine walk_doom (by rfl) (by rfl) ?_
    rintro w' ⟨k1, k2, k3, k4, k5, kb⟩
    apply doom_call
    ·go_simp
     with_reducible exact ⟨rfl, rfl⟩
    ·refine (place_bad (IW.out.below kb.out) s.f5 A9 c9 hq (Kd.C_below HG9.out kb.out) HH.out.l9 HP5.out).mono ?_
     rintro e w2 ⟨rfl, hb⟩
     exact ⟨_, rfl, rfl, below_then kb.out kb.out.size hb⟩
  | some b =>
   have hres : icopyP st F s = copyP st a b s.f6.toNat := by unfold icopyP; rw [hv]; simp only [hw]
   rw [hres]
   have HP5 := Aside0.mk hw
   obtain ⟨k, hk⟩ : ∃ k : Nat, s.f6 = (k : Int) := ⟨s.f6.toNat, by omega⟩
   have hk1 : k ≤ 128 := by omega
   rw [hk, show ((k : Int)).toNat = k from rfl]
   rw [hk] at h10
   obtain ⟨W, hW⟩ : ∃ W, w.drew = W := ⟨_, rfl⟩
   have bW : Below w.heap.size w W := hW ▸ below_drew (Below.refl _ _)
   have IW := Aside0.mk (II.out.below bW)
   have HW := Aside0.mk hW
   have BW := Aside0.mk bW
   have q6 := pwcb BW.out h6
   have q7 := pwcb BW.out h7
   have q8 := pwcb BW.out h8
   have q9 := pwcb BW.out h9
   have q10 := pwcb BW.out h10
   have HG7 := Aside0.mk (Kd.C_below HH.out.g7 BW.out)
   have HG9 := Aside0.mk (Kd.C_below HH.out.g9 BW.out)
   clear hv hw hres hk
   clear I H hop hW bW h6 h7 h8 h9 h10
   go_enter Try.func82, Try.ntmps82
   go_wp2
   refine region_last (fun w' => w'.cell? ⟨p.block, p.off + 6, none⟩ = some (.int .i64 s.f4.f0) ∧ w'.cell? ⟨p.block, p.off + 7, none⟩ = some (.slice A7 s.f4.f1.length c7) ∧ w'.cell? ⟨p.block, p.off + 8, none⟩ = some (.int .i64 s.f5.f0) ∧ w'.cell? ⟨p.block, p.off + 9, none⟩ = some (.slice A9 s.f5.f1.length c9) ∧ w'.cell? ⟨p.block, p.off + 10, none⟩ = some (.int .i64 (k : Int)) ∧ Aside0 (Below W.heap.size W w')) 17 (by kernel_rfl) (by kernel_rfl) (by kernel_rfl) (by rw [HW.out]; exact ⟨q6, q7, q8, q9, q10, ⟨Below.refl _ _⟩⟩) ?_
   simp only [List.range_succ, List.range_zero, List.nil_append, List.cons_append, List.singleton_append]
   repeat (
    refine walk_ex (by rfl) (by rfl) (by rfl) ?_
    apply Exists.intro
    apply And.intro
    ·rintro w' ⟨k1, k2, k3, k4, k5, kb⟩
     apply calm_value
     go_simp
     with_reducible rfl
    simp only [List.setIfInBounds_toArray, List.set_cons_zero, List.set_cons_succ])
   refine walk_ex (by rfl) (by rfl) (by rfl) ?_
   apply Exists.intro
   apply And.intro
   ·rintro w' ⟨k1, k2, k3, k4, k5, kb⟩
    apply calm_call
    ·go_simp
     with_reducible exact ⟨rfl, rfl⟩
    ·refine (place_ok (IW.out.below kb.out) s.f4 A7 c7 hp (Kd.C_below HG7.out kb.out) HH.out.l7 HP4.out).mono ?_
     rintro e w2 ⟨rfl, hb⟩
     exact .inl ⟨rfl, ⟨pwcb hb k1, pwcb hb k2, pwcb hb k3, pwcb hb k4, pwcb hb k5, ⟨below_then kb.out kb.out.size hb⟩⟩⟩
   simp only [List.setIfInBounds_toArray, List.set_cons_zero, List.set_cons_succ]
   repeat (
    refine walk_ex (by rfl) (by rfl) (by rfl) ?_
    apply Exists.intro
    apply And.intro
    ·rintro w' ⟨k1, k2, k3, k4, k5, kb⟩
     apply calm_value
     go_simp
     with_reducible rfl
    simp only [List.setIfInBounds_toArray, List.set_cons_zero, List.set_cons_succ])
   refine walk_ex (by rfl) (by rfl) (by rfl) ?_
   apply Exists.intro
   apply And.intro
   ·rintro w' ⟨k1, k2, k3, k4, k5, kb⟩
    apply calm_call
    ·go_simp
     with_reducible exact ⟨rfl, rfl⟩
    ·refine (place_ok (IW.out.below kb.out) s.f5 A9 c9 hq (Kd.C_below HG9.out kb.out) HH.out.l9 HP5.out).mono ?_
     rintro e w2 ⟨rfl, hb⟩
     exact .inl ⟨rfl, ⟨pwcb hb k1, pwcb hb k2, pwcb hb k3, pwcb hb k4, pwcb hb k5, ⟨below_then kb.out kb.out.size hb⟩⟩⟩
   simp only [List.setIfInBounds_toArray, List.set_cons_zero, List.set_cons_succ]
   repeat (
    refine walk_ex (by rfl) (by rfl) (by rfl) ?_
    apply Exists.intro
    apply And.intro
    ·rintro w' ⟨k1, k2, k3, k4, k5, kb⟩
     apply calm_value
     go_simp
     with_reducible rfl
    simp only [List.setIfInBounds_toArray, List.set_cons_zero, List.set_cons_succ])
   refine walk_fin (by rfl) (by rfl) ?_
   rintro w' ⟨k1, k2, k3, k4, k5, kb⟩ hdf
   have KB := kb
   clear k1 k2 k3 k4 k5 kb
   go_wp2_with (go_at_call 100; refine (mcopy (IW.out.below KB.out) a b k hk1).mono ?_; intro e w2 hp; have HP := Aside0.mk (ResPost.trans (Kept.of_below (below_then BW.out BW.out.size KB.out)) hp); clear hp)
   all_goals first | exact bodyPost_end (results_none rfl _ _ _) rfl (ResPost.norm HP.out) | exact ⟨rfl, HP.out⟩ | exact (ResPost.not_out HP.out).elim
set_option maxRecDepth 100000 in
set_option maxHeartbeats 8000000 in
theorem instr_alloc {G : Glob} {S : Nat → Prop} {L : Lay} {F : Fr} {st : St} {w : World} (I : In G S L F st w) {p : Addr} {s : S40} {A7 A9 A15 A16 A17 : Option Addr} {c7 c9 c15 c16 c17 : Nat} (H : IA w p s A7 c7 A9 c9 A15 c15 A16 c16 A17 c17) (hop : s.f0 = 7) (hS : ¬ S p.block) (hn0 : 0 ≤ s.f6) (hn1 : s.f6 ≤ 128) (d0 : 0 ≤ s.f1) (d1 : s.f1 < F.at_.length) :
  Calls Try.prog 82 #[.pointer (some ⟨G.m, 0, none⟩), .pointer (some p)] w (ResPost G S L F (allocP st F s.f6 s.f1) w) := by
 have II := Aside0.mk I
 have HH := Aside0.mk H
 have h0 := H.h0
 rw [hop] at h0
 clear I H hop
 go_enter Try.func82, Try.ntmps82
 go_wp2_with (go_at_call 101; refine (malloc II.out p s.f6 s.f1 HH.out.h1 HH.out.h10 hS hn0 hn1 d0 d1).mono ?_; intro e w2 hp; have HP := Aside0.mk hp; clear hp)
 all_goals first | exact bodyPost_end (results_none rfl _ _ _) rfl (ResPost.norm HP.out) | exact ⟨rfl, HP.out⟩ | exact (ResPost.not_out HP.out).elim
def ifreeP (st : St) (F : Fr) (s : S40) : Res :=
 match operandP st F s.f2 with
 | none => .halt 4 0 st
 | some v => freeP st v
set_option maxRecDepth 100000 in
set_option maxHeartbeats 8000000 in
theorem instr_free {G : Glob} {S : Nat → Prop} {L : Lay} {F : Fr} {st : St} {w : World} (I : In G S L F st w) {p : Addr} {s : S40} {A7 A9 A15 A16 A17 : Option Addr} {c7 c9 c15 c16 c17 : Nat} (H : IA w p s A7 c7 A9 c9 A15 c15 A16 c16 A17 c17) (hop : s.f0 = 8) (ho : OpIn F s.f2) :
  Calls Try.prog 82 #[.pointer (some ⟨G.m, 0, none⟩), .pointer (some p)] w (ResPost G S L F (ifreeP st F s) w) := by
 have II := Aside0.mk I
 have HH := Aside0.mk H
 have h0 := H.h0
 rw [hop] at h0
 have h2 := H.h2
 have h3 := H.h3
 cases hv : operandP st F s.f2 with
 | none =>
  have HR := Aside0.mk (show ifreeP st F s = .halt 4 0 st by unfold ifreeP; rw [hv])
  have HV := Aside0.mk hv
  clear I H hop hv
  go_enter Try.func82, Try.ntmps82
  go_wp2_with (go_at_call 84; refine (operand_bad II.out s.f2 ho HV.out).mono ?_; rintro e w2 ⟨rfl, hb⟩)
  exact ⟨rfl, ResPost.halt_ HR.out (Kept.of_below hb) (II.out.rep.below hb)⟩
 | some v =>
  have hres : ifreeP st F s = freeP st v := by unfold ifreeP; rw [hv]
  rw [hres]
  have HV := Aside0.mk hv
  clear I H hop hv hres
  go_enter Try.func82, Try.ntmps82
  go_wp2_with (first | (go_at_call 84; refine (operand_ok II.out s.f2 ho HV.out).mono ?_; rintro e w1 ⟨rfl, hb⟩) | (go_at_call 102; refine (mfree (II.out.below hb) v).mono ?_; intro e w2 hp; have HP := Aside0.mk (ResPost.trans (Kept.of_below hb) hp); clear hp))
  all_goals first | exact bodyPost_end (results_none rfl _ _ _) rfl (ResPost.norm HP.out) | exact ⟨rfl, HP.out⟩ | exact (ResPost.not_out HP.out).elim
end Go.Proofs.Ytpphpcmbpbppoaa.Mach
end
