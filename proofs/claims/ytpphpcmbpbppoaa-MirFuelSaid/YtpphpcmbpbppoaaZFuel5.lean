/- Steps toward the law Fuel, merged from several texts (some of them began as the kit's print). No condition. -/
import Derived.Deep.RegionHeld3
import Derived.Deep.RegionHeldLaw
import Derived.Deep.AppendLies
import Derived.Test.YtpphpcmbpbppoaaZFuel4
section
namespace Go.Proofs.Ytpphpcmbpbppoaa.Mach
open Go.RowKit Go.Proofs.YtpphpcmbpbppoaaW.PrintWords Go.Proofs.YtpphpcmbpbppoaaW.PrintLast Go.Proofs.YtpphpcmbpbppoaaW.PrintMore
open Go.Proofs.Ytpphpcmbpbppoaa.Calm
open Go.Proofs.Ytpphpcmbpbppoaa.PMirFuel (S30 S57 S34 S37 S40 S43 S45 S48 k30 k57 k34 k37 k40 k43 k45 k48 rd_T30 rd_T57 rd_T34 rd_T37 rd_T40 rd_T43 rd_T45 rd_T48 at_T30 at_T57 at_T34 at_T40 at_T45 at_T48)
set_option linter.unusedVariables false
set_option linter.unusedSimpArgs false
theorem le_some {v r1 : Int} {b r2 : Bool} (h : some (wrap64 v, b) = some (r1, r2)) : r1 ≤ 9223372036854775807 := by
 simp only [Option.some.injEq, Prod.mk.injEq] at h
 rw [← h.1]
 exact wrap64_le _
theorem do_j0 {k : Nat} {t x19 : ByteArray} {x8 x9 x10 r1 : Int} {b r2 : Bool} (h : PMirFuel.mir_Do.j0 k t x8 x9 x10 x19 b = some (r1, r2)) : r1 ≤ 9223372036854775807 := by
 cases k with
 | zero => simp [PMirFuel.mir_Do.j0] at h
 | succ k =>
  unfold PMirFuel.mir_Do.j0 at h
  repeat' split at h
  all_goals first | exact le_some h | (obtain ⟨x, _, h⟩ := Option.bind_eq_some_iff.1 h; exact le_some h) | (cases h; done) | (simp only [Option.some.injEq, Prod.mk.injEq] at h; omega)
theorem do_le {k : Nat} {t : ByteArray} {a b r1 : Int} {r2 : Bool} (h : PMirFuel.mir_Do.f k t a b = some (r1, r2)) : r1 ≤ 9223372036854775807 := by
 unfold PMirFuel.mir_Do.f at h
 repeat' split at h
 all_goals first | exact le_some h | exact do_j0 h
theorem placeP_le {G : Glob} {S : Nat → Prop} {L : Lay} {F : Fr} {st : St} {w : World} (I : In G S L F st w) : ∀ (xs : List S57) (a v : Int), a ≤ 9223372036854775807 → placeP st F a xs = some v → v ≤ 9223372036854775807
 | [], a, v, ha, h => by
  obtain rfl := Option.some.inj h
  exact ha
 | s :: r, a, v, ha, h => by
  unfold placeP at h
  obtain ⟨b, hb, h⟩ := Option.bind_eq_some_iff.1 h
  exact placeP_le I r b v (stepP_le I hb) h
def PlIn (F : Fr) (p : S34) : Prop := 0 ≤ p.f0 ∧ p.f0 < F.at_.length ∧ ∀ i, i < p.f1.length → StepIn F (rd_T57 p.f1 (i : Int))
def plP (st : St) (F : Fr) (p : S34) : Option Int := placeP st F (rd F.at_ p.f0) p.f1
theorem plP_le {G : Glob} {S : Nat → Prop} {L : Lay} {F : Fr} {st : St} {w : World} (I : In G S L F st w) {p : S34} {v : Int} (h : plP st F p = some v) : v ≤ 9223372036854775807 := placeP_le I _ _ _ (I.fr.rd_le _) h
theorem place_ok {G : Glob} {S : Nat → Prop} {L : Lay} {F : Fr} {st : St} {w : World} (I : In G S L F st w) (p : S34) (A : Option Addr) (c : Nat) (hp : PlIn F p) (hx : Kd.C k57 w A p.f1.length p.f1) (hxc : p.f1.length ≤ c) {v : Int} (h : plP st F p = some v) :
  Calls Try.prog 99 #[.pointer (some ⟨G.m, 0, none⟩), .agg #[.int .i64 p.f0, .slice A p.f1.length c]] w fun e w' => e = .returned (.int .i64 v) ∧ Below w.heap.size w w' :=
 (place_any I p.f0 hp.1 hp.2.1 A c p.f1 hx hxc hp.2.2 (some v) h).mono fun _ _ h => ⟨h.2, h.1⟩
theorem place_bad {G : Glob} {S : Nat → Prop} {L : Lay} {F : Fr} {st : St} {w : World} (I : In G S L F st w) (p : S34) (A : Option Addr) (c : Nat) (hp : PlIn F p) (hx : Kd.C k57 w A p.f1.length p.f1) (hxc : p.f1.length ≤ c) (h : plP st F p = none) :
  Calls Try.prog 99 #[.pointer (some ⟨G.m, 0, none⟩), .agg #[.int .i64 p.f0, .slice A p.f1.length c]] w fun e w' => e = haltE 4 0 ∧ Below w.heap.size w w' :=
 (place_any I p.f0 hp.1 hp.2.1 A c p.f1 hx hxc hp.2.2 none h).mono fun _ _ h => ⟨h.2, h.1⟩
def doV (t : ByteArray) (a b : Int) : Int := ((PMirFuel.mir_Do.f 3 t a b).map (·.1)).getD 0
def ibinP (st : St) (F : Fr) (s : S40) : Res :=
 match operandP st F s.f2 with
 | none => .halt 4 0 st
 | some a => match operandP st F s.f3 with
  | none => .halt 4 0 st
  | some b => setP st F s.f1 (doV s.f7 a b)
set_option maxRecDepth 100000 in
set_option maxHeartbeats 8000000 in
theorem instr_bin {G : Glob} {S : Nat → Prop} {L : Lay} {F : Fr} {st : St} {w : World} (I : In G S L F st w) {p : Addr} {s : S40} {A7 A9 A15 A16 A17 : Option Addr} {c7 c9 c15 c16 c17 : Nat} (H : IA w p s A7 c7 A9 c9 A15 c15 A16 c16 A17 c17) (hop : s.f0 = 2) (ho : OpIn F s.f2) (ho3 : OpIn F s.f3) (d0 : 0 ≤ s.f1) (d1 : s.f1 < F.at_.length) (hdo : ∀ a b, ∃ r, PMirFuel.mir_Do.f 3 s.f7 a b = some r) :
  Calls Try.prog 82 #[.pointer (some ⟨G.m, 0, none⟩), .pointer (some p)] w (ResPost G S L F (ibinP st F s) w) := by
 have II := Aside0.mk I
 have HH := Aside0.mk H
 have h0 := H.h0
 rw [hop] at h0
 have h1 := H.h1
 have h2 := H.h2
 have h3 := H.h3
 have h4 := H.h4
 have h5 := H.h5
 have h11 := H.h11
 have HDO := Aside0.mk hdo
 clear hdo
 cases hv : operandP st F s.f2 with
 | none =>
  have hres : ibinP st F s = .halt 4 0 st := by unfold ibinP; rw [hv]
  have HR := Aside0.mk hres
  obtain ⟨W, hW⟩ : ∃ W, w.drew = W := ⟨_, rfl⟩
  have bW : Below w.heap.size w W := hW ▸ below_drew (Below.refl _ _)
  have IW := Aside0.mk (II.out.below bW)
  have HW := Aside0.mk hW
  have BW := Aside0.mk bW
  have q1 := pwcb BW.out h1
  have q2 := pwcb BW.out h2
  have q3 := pwcb BW.out h3
  have q4 := pwcb BW.out h4
  have q5 := pwcb BW.out h5
  have q11 := pwcb BW.out h11
  have HV := Aside0.mk hv
  clear hv
  clear hres
  clear I H hop hW bW h1 h2 h3 h4 h5 h11
  go_enter Try.func82, Try.ntmps82
  go_wp2
  refine region_doomed (fun w' => w'.cell? ⟨p.block, p.off + 1, none⟩ = some (.int .i64 s.f1) ∧ w'.cell? ⟨p.block, p.off + 2, none⟩ = some (.bool s.f2.f0) ∧ w'.cell? ⟨p.block, p.off + 3, none⟩ = some (.int .i64 s.f2.f1) ∧ w'.cell? ⟨p.block, p.off + 4, none⟩ = some (.bool s.f3.f0) ∧ w'.cell? ⟨p.block, p.off + 5, none⟩ = some (.int .i64 s.f3.f1) ∧ w'.cell? ⟨p.block, p.off + 11, none⟩ = some (.string s.f7) ∧ Aside0 (Below W.heap.size W w'))
   (fun ch w' => ch = [{ v := .iface 95 (.agg #[.int .i64 4, .int .i64 0]), recovered := false }] ∧ Below W.heap.size W w') 9 [0, 1, 2, 3, 4, 5, 6, 7, 8, 10, 11, 12, 13, 14] (by kernel_rfl) (by kernel_rfl) (by kernel_rfl) (by rw [HW.out]; exact ⟨q1, q2, q3, q4, q5, q11, ⟨Below.refl _ _⟩⟩) ?_ ?_
  ·rintro ch a w' hdf ⟨rfl, hb⟩
   exact ⟨hdf, ResPost.halt_ HR.out (Kept.of_below (below_then BW.out BW.out.size hb)) (IW.out.rep.below hb)⟩
  ·skip
   repeat (
    refine walk_ex (by rfl) (by rfl) (by rfl) ?_
    apply Exists.intro
    apply And.intro
    ·rintro w' ⟨k1, k2, k3, k4, k5, k6, kb⟩
     apply calm_value
     go_simp
     with_reducible rfl
    simp only [List.setIfInBounds_toArray, List.set_cons_zero, List.set_cons_succ])
   refine walk_doom (by rfl) (by rfl) ?_
   rintro w' ⟨k1, k2, k3, k4, k5, k6, kb⟩
   apply doom_call
   ·go_simp
    with_reducible exact ⟨rfl, rfl⟩
   ·refine (operand_bad (IW.out.below kb.out) s.f2 ho HV.out).mono ?_
    rintro e w2 ⟨rfl, hb⟩
    exact ⟨_, rfl, rfl, below_then kb.out kb.out.size hb⟩
 | some a =>
  have HV := Aside0.mk hv
  cases hv3 : operandP st F s.f3 with
  | none =>
   have hres : ibinP st F s = .halt 4 0 st := by unfold ibinP; rw [hv]; simp only [hv3]
   have HR := Aside0.mk hres
   obtain ⟨W, hW⟩ : ∃ W, w.drew = W := ⟨_, rfl⟩
   have bW : Below w.heap.size w W := hW ▸ below_drew (Below.refl _ _)
   have IW := Aside0.mk (II.out.below bW)
   have HW := Aside0.mk hW
   have BW := Aside0.mk bW
   have q1 := pwcb BW.out h1
   have q2 := pwcb BW.out h2
   have q3 := pwcb BW.out h3
   have q4 := pwcb BW.out h4
   have q5 := pwcb BW.out h5
   have q11 := pwcb BW.out h11
   have HV3 := Aside0.mk hv3
   clear hv hv3
   clear hres
   clear I H hop hW bW h1 h2 h3 h4 h5 h11
   go_enter Try.func82, Try.ntmps82
   go_wp2
   refine region_doomed (fun w' => w'.cell? ⟨p.block, p.off + 1, none⟩ = some (.int .i64 s.f1) ∧ w'.cell? ⟨p.block, p.off + 2, none⟩ = some (.bool s.f2.f0) ∧ w'.cell? ⟨p.block, p.off + 3, none⟩ = some (.int .i64 s.f2.f1) ∧ w'.cell? ⟨p.block, p.off + 4, none⟩ = some (.bool s.f3.f0) ∧ w'.cell? ⟨p.block, p.off + 5, none⟩ = some (.int .i64 s.f3.f1) ∧ w'.cell? ⟨p.block, p.off + 11, none⟩ = some (.string s.f7) ∧ Aside0 (Below W.heap.size W w'))
    (fun ch w' => ch = [{ v := .iface 95 (.agg #[.int .i64 4, .int .i64 0]), recovered := false }] ∧ Below W.heap.size W w') 15 [0, 1, 2, 3, 4, 5, 6, 7, 8, 9, 10, 11, 12, 13, 14] (by kernel_rfl) (by kernel_rfl) (by kernel_rfl) (by rw [HW.out]; exact ⟨q1, q2, q3, q4, q5, q11, ⟨Below.refl _ _⟩⟩) ?_ ?_
   ·rintro ch a w' hdf ⟨rfl, hb⟩
    exact ⟨hdf, ResPost.halt_ HR.out (Kept.of_below (below_then BW.out BW.out.size hb)) (IW.out.rep.below hb)⟩
   ·skip
    repeat (
     refine walk_ex (by rfl) (by rfl) (by rfl) ?_
     apply Exists.intro
     apply And.intro
     ·rintro w' ⟨k1, k2, k3, k4, k5, k6, kb⟩
      apply calm_value
      go_simp
      with_reducible rfl
     simp only [List.setIfInBounds_toArray, List.set_cons_zero, List.set_cons_succ])
    refine walk_ex (by rfl) (by rfl) (by rfl) ?_
    apply Exists.intro
    apply And.intro
    ·rintro w' ⟨k1, k2, k3, k4, k5, k6, kb⟩
     apply calm_call
     ·go_simp
      with_reducible exact ⟨rfl, rfl⟩
     ·refine (operand_ok (IW.out.below kb.out) s.f2 ho HV.out).mono ?_
      rintro e w2 ⟨rfl, hb⟩
      exact .inl ⟨rfl, ⟨pwcb hb k1, pwcb hb k2, pwcb hb k3, pwcb hb k4, pwcb hb k5, pwcb hb k6, ⟨below_then kb.out kb.out.size hb⟩⟩⟩
    simp only [List.setIfInBounds_toArray, List.set_cons_zero, List.set_cons_succ]
    repeat (
     refine walk_ex (by rfl) (by rfl) (by rfl) ?_
     apply Exists.intro
     apply And.intro
     ·rintro w' ⟨k1, k2, k3, k4, k5, k6, kb⟩
      apply calm_value
      go_simp
      with_reducible rfl
     simp only [List.setIfInBounds_toArray, List.set_cons_zero, List.set_cons_succ])
    refine walk_doom (by rfl) (by rfl) ?_
    rintro w' ⟨k1, k2, k3, k4, k5, k6, kb⟩
    apply doom_call
    ·go_simp
     with_reducible exact ⟨rfl, rfl⟩
    ·refine (operand_bad (IW.out.below kb.out) s.f3 ho3 HV3.out).mono ?_
     rintro e w2 ⟨rfl, hb⟩
     exact ⟨_, rfl, rfl, below_then kb.out kb.out.size hb⟩
  | some b =>
   have hres : ibinP st F s = setP st F s.f1 (doV s.f7 a b) := by unfold ibinP; rw [hv]; simp only [hv3]
   rw [hres]
   have HV3 := Aside0.mk hv3
   obtain ⟨⟨r1, r2⟩, hr⟩ := HDO.out a b
   have hdv : doV s.f7 a b = r1 := by unfold doV; rw [hr]; rfl
   have hdl : r1 ≤ 9223372036854775807 := do_le hr
   rw [hdv]
   have HDR := Aside0.mk hr
   have HDL := Aside0.mk hdl
   obtain ⟨W, hW⟩ : ∃ W, w.drew = W := ⟨_, rfl⟩
   have bW : Below w.heap.size w W := hW ▸ below_drew (Below.refl _ _)
   have IW := Aside0.mk (II.out.below bW)
   have HW := Aside0.mk hW
   have BW := Aside0.mk bW
   have q1 := pwcb BW.out h1
   have q2 := pwcb BW.out h2
   have q3 := pwcb BW.out h3
   have q4 := pwcb BW.out h4
   have q5 := pwcb BW.out h5
   have q11 := pwcb BW.out h11
   clear hv hv3 hres hr hdv hdl
   clear I H hop hW bW h1 h2 h3 h4 h5 h11
   go_enter Try.func82, Try.ntmps82
   go_wp2
   refine region_calm (fun w' => w'.cell? ⟨p.block, p.off + 1, none⟩ = some (.int .i64 s.f1) ∧ w'.cell? ⟨p.block, p.off + 2, none⟩ = some (.bool s.f2.f0) ∧ w'.cell? ⟨p.block, p.off + 3, none⟩ = some (.int .i64 s.f2.f1) ∧ w'.cell? ⟨p.block, p.off + 4, none⟩ = some (.bool s.f3.f0) ∧ w'.cell? ⟨p.block, p.off + 5, none⟩ = some (.int .i64 s.f3.f1) ∧ w'.cell? ⟨p.block, p.off + 11, none⟩ = some (.string s.f7) ∧ Aside0 (Below W.heap.size W w'))
    (fun _ _ => False) (by kernel_rfl) (by kernel_rfl) (by kernel_rfl) (by rw [HW.out]; exact ⟨q1, q2, q3, q4, q5, q11, ⟨Below.refl _ _⟩⟩) (fun _ _ _ _ h => h.elim) ?_
   simp only [List.length_cons, List.length_nil, Nat.reduceAdd, List.range_succ, List.range_zero, List.nil_append, List.cons_append, List.singleton_append]
   repeat (
    refine walk_ex (by rfl) (by rfl) (by rfl) ?_
    apply Exists.intro
    apply And.intro
    ·rintro w' ⟨k1, k2, k3, k4, k5, k6, kb⟩
     apply calm_value
     go_simp
     with_reducible rfl
    simp only [List.setIfInBounds_toArray, List.set_cons_zero, List.set_cons_succ])
   refine walk_ex (by rfl) (by rfl) (by rfl) ?_
   apply Exists.intro
   apply And.intro
   ·rintro w' ⟨k1, k2, k3, k4, k5, k6, kb⟩
    apply calm_call
    ·go_simp
     with_reducible exact ⟨rfl, rfl⟩
    ·refine (operand_ok (IW.out.below kb.out) s.f2 ho HV.out).mono ?_
     rintro e w2 ⟨rfl, hb⟩
     exact .inl ⟨rfl, ⟨pwcb hb k1, pwcb hb k2, pwcb hb k3, pwcb hb k4, pwcb hb k5, pwcb hb k6, ⟨below_then kb.out kb.out.size hb⟩⟩⟩
   simp only [List.setIfInBounds_toArray, List.set_cons_zero, List.set_cons_succ]
   repeat (
    refine walk_ex (by rfl) (by rfl) (by rfl) ?_
    apply Exists.intro
    apply And.intro
    ·rintro w' ⟨k1, k2, k3, k4, k5, k6, kb⟩
     apply calm_value
     go_simp
     with_reducible rfl
    simp only [List.setIfInBounds_toArray, List.set_cons_zero, List.set_cons_succ])
   refine walk_ex (by rfl) (by rfl) (by rfl) ?_
   apply Exists.intro
   apply And.intro
   ·rintro w' ⟨k1, k2, k3, k4, k5, k6, kb⟩
    apply calm_call
    ·go_simp
     with_reducible exact ⟨rfl, rfl⟩
    ·refine (operand_ok (IW.out.below kb.out) s.f3 ho3 HV3.out).mono ?_
     rintro e w2 ⟨rfl, hb⟩
     exact .inl ⟨rfl, ⟨pwcb hb k1, pwcb hb k2, pwcb hb k3, pwcb hb k4, pwcb hb k5, pwcb hb k6, ⟨below_then kb.out kb.out.size hb⟩⟩⟩
   simp only [List.setIfInBounds_toArray, List.set_cons_zero, List.set_cons_succ]
   refine walk_ex (by rfl) (by rfl) (by rfl) ?_
   apply Exists.intro
   apply And.intro
   ·rintro w' ⟨k1, k2, k3, k4, k5, k6, kb⟩
    apply calm_call
    ·go_simp
     with_reducible exact ⟨rfl, rfl⟩
    ·refine (PMirFuel.mir_Do.calls 3 s.f7 a b r1 r2 _ HDR.out).mono ?_
     rintro e w2 ⟨rfl, hd⟩
     have hb := hd.below
     exact .inl ⟨rfl, ⟨pwcb hb k1, pwcb hb k2, pwcb hb k3, pwcb hb k4, pwcb hb k5, pwcb hb k6, ⟨below_then kb.out kb.out.size hb⟩⟩⟩
   simp only [List.setIfInBounds_toArray, List.set_cons_zero, List.set_cons_succ]
   repeat (
    refine walk_ex (by rfl) (by rfl) (by rfl) ?_
    apply Exists.intro
    apply And.intro
    ·rintro w' ⟨k1, k2, k3, k4, k5, k6, kb⟩
     apply calm_value
     go_simp
     with_reducible rfl
    simp only [List.setIfInBounds_toArray, List.set_cons_zero, List.set_cons_succ])
   refine walk_nil ?_
   rintro w' ⟨k1, k2, k3, k4, k5, k6, kb⟩
   have KB := kb
   have K1 := k1
   clear k1 k2 k3 k4 k5 k6 kb
   go_wp2_with (go_at_call 97; refine (mset (IW.out.below KB.out) s.f1 r1 d0 d1 HDL.out).mono ?_; intro e w2 hp; have HP := Aside0.mk (ResPost.trans (Kept.of_below (below_then BW.out BW.out.size KB.out)) hp); clear hp)
   all_goals first | exact bodyPost_end (results_none rfl _ _ _) rfl (ResPost.norm HP.out) | exact ⟨rfl, HP.out⟩ | exact (ResPost.not_out HP.out).elim
end Go.Proofs.Ytpphpcmbpbppoaa.Mach
end
section
namespace Go.Proofs.Ytpphpcmbpbppoaa.Mach
open Go.RowKit Go.Proofs.YtpphpcmbpbppoaaW.PrintWords Go.Proofs.YtpphpcmbpbppoaaW.PrintLast Go.Proofs.YtpphpcmbpbppoaaW.PrintMore
open Go.Proofs.Ytpphpcmbpbppoaa.Calm
open Go.Proofs.Ytpphpcmbpbppoaa.PMirFuel (S30 S57 S34 S37 S40 S43 S45 S48 k30 k57 k34 k37 k40 k43 k45 k48 rd_T30 rd_T57 rd_T34 rd_T37 rd_T40 rd_T43 rd_T45 rd_T48 at_T30 at_T57 at_T34 at_T40 at_T45 at_T48)
set_option linter.unusedVariables false
set_option linter.unusedSimpArgs false
inductive Res2 where
 | ok (st : St) (held : List Bool)
 | halt (k c : Int) (st : St)
def Res.big (held : List Bool) : Res → Res2
 | .ok st => .ok st held
 | .halt k c st => .halt k c st
def BigPost (G : Glob) (S : Nat → Prop) (F : Fr) (r : Res2) (w : World) (e : Ending) (w' : World) : Prop :=
 Kept (fun b => S b ∨ b = F.hb) w w' ∧ match r with
  | .ok st' held => e = .returned (.tuple #[]) ∧ ∃ S' L', (∀ b, S' b → S b ∨ w.heap.size ≤ b) ∧ In G S' L' { F with held := held } st' w'
  | .halt k c st' => (∃ ch, e = .panicked ch ∧ HaltCh ch k c) ∧ ∃ S' L' x', (∀ b, S' b → S b ∨ w.heap.size ≤ b) ∧ Rep S' G.m L' x' st' w'
namespace BigPost
variable {G : Glob} {S : Nat → Prop} {L : Lay} {F : Fr} {w w1 w' : World} {st' : St} {e : Ending} {r : Res2}
theorem of_res {r : Res} (h : ResPost G S L F r w e w') : BigPost G S F (r.big F.held) w e w' := by
 refine ⟨h.1.mono fun _ x => .inl x, ?_⟩
 cases r with
 | ok st => exact ⟨h.2.1, S, L, fun _ x => .inl x, h.2.2⟩
 | halt k c st => obtain ⟨_, hc, x', R⟩ := h; exact ⟨hc, S, L, x', fun _ x => .inl x, R⟩
theorem norm {v : Value} (h : BigPost G S F r w (.returned v) w') : BigPost G S F r w (.returned (.tuple #[])) w' := by
 cases r with
 | ok st => exact ⟨h.1, rfl, h.2.2⟩
 | halt k c st => obtain ⟨_, ⟨ch, h, _⟩, _⟩ := h; cases h
theorem not_out (h : BigPost G S F r w .outgrown w') : False := by
 cases r with
 | ok st => obtain ⟨_, h, _⟩ := h; cases h
 | halt k c st => obtain ⟨_, ⟨ch, h, _⟩, _⟩ := h; cases h
theorem trans (K : Below w.heap.size w w1) (h : BigPost G S F r w1 e w') : BigPost G S F r w e w' := by
 refine ⟨(Kept.of_below K).then_ h.1, ?_⟩
 have sz := K.size
 cases r with
 | ok st => obtain ⟨_, he, S', L', hs, I⟩ := h; exact ⟨he, S', L', fun b hb => (hs b hb).imp id (fun x => by omega), I⟩
 | halt k c st => obtain ⟨_, hc, S', L', x', hs, I⟩ := h; exact ⟨hc, S', L', x', fun b hb => (hs b hb).imp id (fun x => by omega), I⟩
theorem halt_ {k c : Int} {x' : Option Addr} (h : r = .halt k c st') (K : Below w.heap.size w w') (R : Rep S G.m L x' st' w') : BigPost G S F r w (haltE k c) w' := by
 subst h; exact ⟨Kept.of_below K, ⟨_, rfl, .inl rfl⟩, S, L, x', fun _ x => .inl x, R⟩
theorem ok_ {S' : Nat → Prop} {held : List Bool} (h : r = .ok st' held) (K : Kept (fun b => S b ∨ b = F.hb) w w') (hs : ∀ b, S' b → S b ∨ w.heap.size ≤ b) (I : In G S' L { F with held := held } st' w') : BigPost G S F r w (.returned (.tuple #[])) w' := by
 subst h; exact ⟨K, rfl, S', L, hs, I⟩
end BigPost
theorem grown_new {W w1 : World} {row : Option Nat} (hg : W.grownBy w1 row) (b : Nat) (hb : b < W.heap.size) (hn : row ≠ some b) : w1.heap[b]? = W.heap[b]? := hg.block b hb (fun e => hn e.symm)
theorem Rep.printed {S : Nat → Prop} {m : Nat} {L : Lay} {x : Option Addr} {st : St} {W w1 : World} (R : Rep S m L x st W) {v1 : Value} {xs : List Int} (hg : W.grownBy w1 L.pv.ownBlock) (ho : w1.ownsRow 0 3 1 v1 xs.length (nums .i64 xs))
  (hat : v1.ownBlock = L.pv.ownBlock ∨ ∃ b, v1.ownBlock = some b ∧ W.heap.size ≤ b) :
  Rep (fun b => S b ∨ v1.ownBlock = some b) m { L with pv := v1 } x { st with print := xs } (w1.setCell ⟨m, 5, none⟩ v1) := by
 have nt : ∀ {b : Nat} {cs : Array Value} {t : TypeId}, Has W b cs t → t ≠ 3 → L.pv.ownBlock ≠ some b := fun hb ht e => by
  obtain ⟨cur, hc⟩ := Rep.has_own R.prt e
  exact hb.ne hc ht rfl
 have hm1 : Has w1 m (mcells L st x) 93 := R.head.of_block (grown_new hg _ R.head.lt (nt R.head (by decide)))
 have hc1 : Has w1 L.c (cellsA st.cells) 3 := R.cells.of_block (grown_new hg _ R.cells.lt R.pc)
 have hh1 : HeapIs w1 L.h L.u st.used := R.heap.of_blocks (grown_new hg _ R.heap.head.lt (nt R.heap.head (by decide))) (fun k hk => grown_new hg _ (R.heap.row k hk).lt (nt (R.heap.row k hk) (by decide)))
 have hs1 : w1.ownsRow 0 3 1 L.sv st.stack.length (nums .i64 st.stack) := by
  rcases R.sp with h | h
  ·exact Rep.row_of_block R.stk (fun b e => by rw [h] at e; cases e)
  ·exact Rep.row_of_block R.stk (fun b e => grown_new hg _ (R.ltS b e) (fun e2 => h (e.trans e2.symm)))
 have far : ∀ b, v1.ownBlock = some b → L.pv.ownBlock = some b ∨ W.heap.size ≤ b := fun b e => by
  rcases hat with h | ⟨b', h, hb⟩
  ·exact .inl (h ▸ e)
  ·rw [h] at e; cases e; exact .inr hb
 have hne : ∀ b, v1.ownBlock = some b → b ≠ m := fun b e => by
  obtain ⟨cur, hc⟩ := Rep.has_own ho e
  exact hc.ne hm1 (by decide)
 refine ⟨hm1.set_ 5 v1, hh1.other (hh1.head.ne hm1 (by decide)) (fun k hk => (hh1.row k hk).ne hm1 (by decide)) _, hc1.other (hc1.ne hm1 (by decide)) _,
  Rep.row_of_block hs1 (fun b e => (Rep.has_own hs1 e).elim fun cur hc => Below.heap_setCell _ _ _ _ (hc.ne hm1 (by decide))),
  Rep.row_of_block ho (fun b e => Below.heap_setCell _ _ _ _ (hne b e)),
  .inl R.ownM, .inl R.ownH, fun k hk => .inl (R.ownU k hk), .inl R.ownC, fun b e => .inl (R.ownS b e), fun b e => .inr e, R.sc, ?_, ?_, R.okS, R.okC⟩
 ·intro (e : v1.ownBlock = some L.c)
  rcases far _ e with h | h
  ·exact R.pc h
  ·exact absurd R.cells.lt (by omega)
 ·show L.sv.ownBlock = none ∨ L.sv.ownBlock ≠ v1.ownBlock
  cases hv : L.sv.ownBlock with
  | none => exact .inl rfl
  | some b =>
   refine .inr fun e => ?_
   have hlt := R.ltS b hv
   rcases far b e.symm with h2 | h2
   ·rcases R.sp with h | h
    ·rw [hv] at h; cases h
    ·exact h (hv.trans h2.symm)
   ·omega
theorem In.printed {G : Glob} {S : Nat → Prop} {L : Lay} {F : Fr} {st : St} {W w1 : World} (I : In G S L F st W) {v1 : Value} {xs : List Int} (hg : W.grownBy w1 L.pv.ownBlock) (ho : w1.ownsRow 0 3 1 v1 xs.length (nums .i64 xs))
  (hat : v1.ownBlock = L.pv.ownBlock ∨ ∃ b, v1.ownBlock = some b ∧ W.heap.size ≤ b) :
  In G (fun b => S b ∨ v1.ownBlock = some b) { L with pv := v1 } F { st with print := xs } (w1.setCell ⟨G.m, 5, none⟩ v1) ∧ Kept S W (w1.setCell ⟨G.m, 5, none⟩ v1) ∧ (∀ b, (S b ∨ v1.ownBlock = some b) → S b ∨ W.heap.size ≤ b) := by
 have far : ∀ b, v1.ownBlock = some b → S b ∨ W.heap.size ≤ b := fun b e => by
  rcases hat with h | ⟨b', h, hb⟩
  ·exact .inl (I.rep.ownP b (h ▸ e))
  ·rw [h] at e; cases e; exact .inr hb
 have far2 : ∀ b, (S b ∨ v1.ownBlock = some b) → S b ∨ W.heap.size ≤ b := fun b h => h.elim .inl (far b)
 have K : Kept S W (w1.setCell ⟨G.m, 5, none⟩ v1) := ((Kept.refl S W).grown hg (fun k e => .inl (I.rep.ownP k e))).setCell I.rep.ownM v1
 have out : ∀ b, b < W.heap.size → ¬ S b → ¬ (S b ∨ v1.ownBlock = some b) := fun b hb hn h => (far2 b h).elim hn (fun x => by omega)
 refine ⟨⟨I.rep.printed hg ho hat, I.lA, I.lc, I.ln, I.base.trans (K.below_of I.ge I.base.size), ?_, I.inp, I.inc, I.fr.kept K I.o1 I.o2 I.o3, out _ I.fr.head.lt I.o1, fun b e => out _ (I.fr.lt_at b e) (I.o2 b e), out _ I.fr.held.lt I.o3, I.g3, ?_⟩, K, far2⟩
 ·intro b h
  rcases far2 b h with h | h
  ·exact I.ge b h
  ·exact Nat.le_trans I.base.size h
 ·intro b h
  rcases h with h | h
  ·exact Nat.lt_of_lt_of_le (I.lt b h) K.size
  ·obtain ⟨cur, hc⟩ := Rep.has_own ho h
   have := hc.lt
   simpa [World.setCell] using this
def u32 (n : Int) : Int := n % 4294967296
def iprintP (st : St) (F : Fr) (s : S40) : Res2 :=
 match operandP st F s.f2 with
 | none => .halt 4 0 st
 | some v => .ok { st with print := st.print ++ [if s.f6 = 1 then u32 v else v] } F.held
theorem In.m5 {G : Glob} {S : Nat → Prop} {L : Lay} {F : Fr} {st : St} {W w1 : World} (I : In G S L F st W) (hg : W.grownBy w1 L.pv.ownBlock) : w1.cell? ⟨G.m, 5, none⟩ = some L.pv ∧ w1.frozen? ⟨G.m, 5, none⟩ = false := by
 have hm1 : Has w1 G.m (mcells L st (some ⟨F.xb, 0, none⟩)) 93 := I.rep.head.of_block (grown_new hg _ I.rep.head.lt (fun e => by
  obtain ⟨cur, hc⟩ := Rep.has_own I.rep.prt e
  exact hc.ne I.rep.head (by decide) rfl))
 exact ⟨by rw [hm1.cell]; rfl, hm1.frozen 5⟩
set_option maxRecDepth 100000 in
set_option maxHeartbeats 8000000 in
theorem instr_print {G : Glob} {S : Nat → Prop} {L : Lay} {F : Fr} {st : St} {w : World} (I : In G S L F st w) {p : Addr} {s : S40} {A7 A9 A15 A16 A17 : Option Addr} {c7 c9 c15 c16 c17 : Nat} (H : IA w p s A7 c7 A9 c9 A15 c15 A16 c16 A17 c17) (hop : s.f0 = 13) (ho : OpIn F s.f2) (hpl : st.print.length < 17592186044415) :
  Calls Try.prog 103 #[.pointer (some ⟨G.m, 0, none⟩), .pointer (some p)] w (BigPost G S F (iprintP st F s) w) := by
 have II := Aside0.mk I
 have HH := Aside0.mk H
 have h0 := H.h0
 rw [hop] at h0
 have h2 := H.h2
 have h3 := H.h3
 have h10 := H.h10
 cases hv : operandP st F s.f2 with
 | none =>
  have HR := Aside0.mk (show iprintP st F s = .halt 4 0 st by unfold iprintP; rw [hv])
  have HV := Aside0.mk hv
  clear I H hop hv
  go_enter Try.func103, Try.ntmps103
  go_wp2_with (go_at_call 84; refine (operand_bad II.out s.f2 ho HV.out).mono ?_; rintro e w2 ⟨rfl, hb⟩)
  exact ⟨rfl, BigPost.halt_ HR.out hb (II.out.rep.below hb)⟩
 | some v =>
  have HR := Aside0.mk (show iprintP st F s = .ok { st with print := st.print ++ [if s.f6 = 1 then u32 v else v] } F.held by unfold iprintP; rw [hv])
  have HV := Aside0.mk hv
  have c5 := I.rep.c5
  clear I H hop hv
  by_cases h1 : s.f6 = 1
  ·rw [h1] at h10
   go_enter Try.func103, Try.ntmps103
   go_wp2_with (first | (go_at_call 84; refine (operand_ok II.out s.f2 ho HV.out).mono ?_; rintro e w1 ⟨rfl, hb⟩; have k10 := pwcb hb h10; have k5 := pwcb hb c5) | (at_builtin; refine print_append_num (w0 := w) 0 rfl (.tmp 120) (.tmp 122) 23 3 .i64 8 rfl Try.underlying23 info3 (by omega) L.pv st.print (v % 4294967296) rfl rfl ?aO ?aB ?aS ?aL ?_; (case aO => exact (II.out.below hb).rep.prt); (case aB => exact hb.mono (Nat.zero_le _)); (case aS => exact Nat.zero_le _); (case aL => omega); intro v1 w3 ho3 hB3 hg hat; obtain ⟨k5', f5⟩ := (II.out.below hb).m5 hg; obtain ⟨gg, gcap, rfl, _⟩ := ho3.form (by simp)))
   obtain ⟨I', K, hs⟩ := (II.out.below hb).printed hg ho3 hat
   rw [show (st.print ++ [(v % 4294967296)]).length = st.print.length + 1 by simp] at K I' hs
   refine bodyPost_end (results_none rfl _ _ _) rfl (BigPost.ok_ (L := { L with pv := .slice (some ⟨gg, 0, none⟩) (st.print.length + 1) gcap }) HR.out ((Kept.of_below hb).then_ (K.mono fun _ x => .inl x)) (fun b x => (hs b x).imp id (fun y => Nat.le_trans hb.size y)) ?_)
   rw [if_pos h1]; exact I'
  ·have hd : (s.f6 == 1) = false := by simp [h1]
   go_enter Try.func103, Try.ntmps103
   go_wp2_with (first | (go_at_call 84; refine (operand_ok II.out s.f2 ho HV.out).mono ?_; rintro e w1 ⟨rfl, hb⟩; have k10 := pwcb hb h10; have k5 := pwcb hb c5) | (at_builtin; refine print_append_num (w0 := w) 0 rfl (.tmp 120) (.tmp 122) 23 3 .i64 8 rfl Try.underlying23 info3 (by omega) L.pv st.print v rfl rfl ?aO ?aB ?aS ?aL ?_; (case aO => exact (II.out.below hb).rep.prt); (case aB => exact hb.mono (Nat.zero_le _)); (case aS => exact Nat.zero_le _); (case aL => omega); intro v1 w3 ho3 hB3 hg hat; obtain ⟨k5', f5⟩ := (II.out.below hb).m5 hg; obtain ⟨gg, gcap, rfl, _⟩ := ho3.form (by simp)))
   obtain ⟨I', K, hs⟩ := (II.out.below hb).printed hg ho3 hat
   rw [show (st.print ++ [v]).length = st.print.length + 1 by simp] at K I' hs
   refine bodyPost_end (results_none rfl _ _ _) rfl (BigPost.ok_ (L := { L with pv := .slice (some ⟨gg, 0, none⟩) (st.print.length + 1) gcap }) HR.out ((Kept.of_below hb).then_ (K.mono fun _ x => .inl x)) (fun b x => (hs b x).imp id (fun y => Nat.le_trans hb.size y)) ?_)
   rw [if_neg h1]; exact I'
def ireadP (st : St) (F : Fr) (s : S40) : Res2 :=
 match st.input with
 | [] => (setP st F s.f1 0).big F.held
 | n :: r => (setP { st with input := r } F s.f1 (w32 n)).big F.held
def igiveP (st : St) (F : Fr) (s : S40) (b : Bool) : Res2 := .ok st (F.held.set s.f1.toNat b)
theorem In.held {G : Glob} {S : Nat → Prop} {L : Lay} {F : Fr} {st : St} {w : World} (I : In G S L F st w) (i : Nat) (b : Bool) : In G S L { F with held := F.held.set i b } st (w.setCell ⟨F.hb, i, none⟩ (.bool b)) := by
 have hx : F.xb ≠ F.hb := I.fr.head.ne I.fr.held (by decide)
 have hv : ∀ c, F.atv.ownBlock = some c → c ≠ F.hb := fun c e => by
  obtain ⟨cur, hc⟩ := Rep.has_own I.fr.row e
  exact hc.ne I.fr.held (by decide)
 refine ⟨I.rep.other I.o3 _, I.lA, I.lc, I.ln, I.base.setCell I.g3 _, I.ge, I.inp, I.inc, ⟨?_, Rep.row_of_block I.fr.row (fun c e => Below.heap_setCell _ _ _ _ (hv c e)), ?_, I.fr.ok⟩, I.o1, I.o2, I.o3, I.g3, fun c h => by simpa [World.setCell] using I.lt c h⟩
 ·simpa using I.fr.head.other hx (.bool b)
 ·rw [← heldA_set]
  exact I.fr.held.set_ i (.bool b)
set_option maxRecDepth 100000 in
set_option maxHeartbeats 8000000 in
theorem instr_give {G : Glob} {S : Nat → Prop} {L : Lay} {F : Fr} {st : St} {w : World} (I : In G S L F st w) {p : Addr} {s : S40} {A7 A9 A15 A16 A17 : Option Addr} {c7 c9 c15 c16 c17 : Nat} (H : IA w p s A7 c7 A9 c9 A15 c15 A16 c16 A17 c17) (hop : s.f0 = 10) (d0 : 0 ≤ s.f1) (d1 : s.f1 < F.held.length) :
  Calls Try.prog 103 #[.pointer (some ⟨G.m, 0, none⟩), .pointer (some p)] w (BigPost G S F (igiveP st F s true) w) := by
 have II := Aside0.mk I
 have HH := Aside0.mk H
 have h0 := H.h0
 rw [hop] at h0
 have h1 := H.h1
 obtain ⟨W, hW⟩ : ∃ W, w.drew = W := ⟨_, rfl⟩
 have bW : Below w.heap.size w W := hW ▸ below_drew (Below.refl _ _)
 have IW := Aside0.mk (II.out.below bW)
 have c11 := IW.out.c11
 have f3 := IW.out.f3
 have hc : W.cell? ⟨F.hb, s.f1.toNat, none⟩ = some (.bool (F.held.getD s.f1.toNat false)) := by rw [IW.out.fr.held.cell, heldA_get _ _ (by omega)]
 have hf := IW.out.fr.held.frozen s.f1.toNat
 have q1 := pwcb bW h1
 have BW := Aside0.mk bW
 have HW := Aside0.mk hW
 clear I H hop bW hW h1
 go_enter Try.func103, Try.ntmps103
 go_wp2
 refine region_last (fun w' => w'.cell? ⟨p.block, p.off + 1, none⟩ = some (.int .i64 s.f1) ∧ w'.cell? ⟨G.m, 11, none⟩ = some (.pointer (some ⟨F.xb, 0, none⟩)) ∧ w'.cell? ⟨F.xb, 3, none⟩ = some (.slice (some ⟨F.hb, 0, none⟩) F.held.length F.held.length) ∧ w'.cell? ⟨F.hb, s.f1.toNat, none⟩ = some (.bool (F.held.getD s.f1.toNat false)) ∧ Aside0 (Below W.heap.size W w')) 12 (by kernel_rfl) (by kernel_rfl) (by kernel_rfl) (by rw [HW.out]; exact ⟨q1, c11, f3, hc, ⟨Below.refl _ _⟩⟩) ?_
 simp only [List.range_succ, List.range_zero, List.nil_append, List.cons_append, List.singleton_append]
 repeat (
  refine walk_ex (by rfl) (by rfl) (by rfl) ?_
  apply Exists.intro
  apply And.intro
  ·rintro w' ⟨k1, k2, k3, k4, kb⟩
   apply calm_value
   go_simp
   with_reducible rfl
  simp only [List.setIfInBounds_toArray, List.set_cons_zero, List.set_cons_succ])
 refine walk_fin (by rfl) (by rfl) ?_
 rintro w' ⟨k1, k2, k3, k4, kb⟩ hdf
 have IX := Aside0.mk (IW.out.below kb.out)
 have hfz := IX.out.fr.held.frozen s.f1.toNat
 have KB := kb
 clear k1 k2 k3 kb c11 f3 hc hf q1
 go_wp2
 refine bodyPost_end (results_none rfl _ _ _) rfl (BigPost.ok_ (L := L) rfl (((Kept.of_below (below_then BW.out BW.out.size KB.out)).mono (S := fun _ => False) fun _ x => x.elim).setCell (.inr rfl) _) (fun b x => .inl x) (IX.out.held _ _))
set_option maxRecDepth 100000 in
set_option maxHeartbeats 8000000 in
theorem instr_take {G : Glob} {S : Nat → Prop} {L : Lay} {F : Fr} {st : St} {w : World} (I : In G S L F st w) {p : Addr} {s : S40} {A7 A9 A15 A16 A17 : Option Addr} {c7 c9 c15 c16 c17 : Nat} (H : IA w p s A7 c7 A9 c9 A15 c15 A16 c16 A17 c17) (hop : s.f0 = 11) (d0 : 0 ≤ s.f1) (d1 : s.f1 < F.held.length) :
  Calls Try.prog 103 #[.pointer (some ⟨G.m, 0, none⟩), .pointer (some p)] w (BigPost G S F (igiveP st F s false) w) := by
 have II := Aside0.mk I
 have HH := Aside0.mk H
 have h0 := H.h0
 rw [hop] at h0
 have h1 := H.h1
 obtain ⟨W, hW⟩ : ∃ W, w.drew = W := ⟨_, rfl⟩
 have bW : Below w.heap.size w W := hW ▸ below_drew (Below.refl _ _)
 have IW := Aside0.mk (II.out.below bW)
 have c11 := IW.out.c11
 have f3 := IW.out.f3
 have hc : W.cell? ⟨F.hb, s.f1.toNat, none⟩ = some (.bool (F.held.getD s.f1.toNat false)) := by rw [IW.out.fr.held.cell, heldA_get _ _ (by omega)]
 have hf := IW.out.fr.held.frozen s.f1.toNat
 have q1 := pwcb bW h1
 have BW := Aside0.mk bW
 have HW := Aside0.mk hW
 clear I H hop bW hW h1
 go_enter Try.func103, Try.ntmps103
 go_wp2
 refine region_last (fun w' => w'.cell? ⟨p.block, p.off + 1, none⟩ = some (.int .i64 s.f1) ∧ w'.cell? ⟨G.m, 11, none⟩ = some (.pointer (some ⟨F.xb, 0, none⟩)) ∧ w'.cell? ⟨F.xb, 3, none⟩ = some (.slice (some ⟨F.hb, 0, none⟩) F.held.length F.held.length) ∧ w'.cell? ⟨F.hb, s.f1.toNat, none⟩ = some (.bool (F.held.getD s.f1.toNat false)) ∧ Aside0 (Below W.heap.size W w')) 12 (by kernel_rfl) (by kernel_rfl) (by kernel_rfl) (by rw [HW.out]; exact ⟨q1, c11, f3, hc, ⟨Below.refl _ _⟩⟩) ?_
 simp only [List.range_succ, List.range_zero, List.nil_append, List.cons_append, List.singleton_append]
 repeat (
  refine walk_ex (by rfl) (by rfl) (by rfl) ?_
  apply Exists.intro
  apply And.intro
  ·rintro w' ⟨k1, k2, k3, k4, kb⟩
   apply calm_value
   go_simp
   with_reducible rfl
  simp only [List.setIfInBounds_toArray, List.set_cons_zero, List.set_cons_succ])
 refine walk_fin (by rfl) (by rfl) ?_
 rintro w' ⟨k1, k2, k3, k4, kb⟩ hdf
 have IX := Aside0.mk (IW.out.below kb.out)
 have hfz := IX.out.fr.held.frozen s.f1.toNat
 have KB := kb
 clear k1 k2 k3 kb c11 f3 hc hf q1
 go_wp2
 refine bodyPost_end (results_none rfl _ _ _) rfl (BigPost.ok_ (L := L) rfl (((Kept.of_below (below_then BW.out BW.out.size KB.out)).mono (S := fun _ => False) fun _ x => x.elim).setCell (.inr rfl) _) (fun b x => .inl x) (IX.out.held _ _))
end Go.Proofs.Ytpphpcmbpbppoaa.Mach
end
section
namespace Go.Proofs.Ytpphpcmbpbppoaa.Mach
open Go.RowKit Go.Proofs.YtpphpcmbpbppoaaW.PrintWords Go.Proofs.YtpphpcmbpbppoaaW.PrintLast Go.Proofs.YtpphpcmbpbppoaaW.PrintMore
open Go.Proofs.Ytpphpcmbpbppoaa.Calm
open Go.Proofs.Ytpphpcmbpbppoaa.PMirFuel (S30 S57 S34 S37 S40 S43 S45 S48 k30 k57 k34 k37 k40 k43 k45 k48 rd_T30 rd_T57 rd_T34 rd_T37 rd_T40 rd_T43 rd_T45 rd_T48 at_T30 at_T57 at_T34 at_T40 at_T45 at_T48)
set_option linter.unusedVariables false
set_option linter.unusedSimpArgs false
theorem BigPost.transK {G : Glob} {S : Nat → Prop} {F : Fr} {r : Res2} {w w1 w' : World} {e : Ending} (K : Kept (fun b => S b ∨ b = F.hb) w w1) (h : BigPost G S F r w1 e w') : BigPost G S F r w e w' := by
 refine ⟨K.then_ h.1, ?_⟩
 have sz := K.size
 cases r with
 | ok st => obtain ⟨_, he, S', L', hs, I⟩ := h; exact ⟨he, S', L', fun b hb => (hs b hb).imp id (fun x => by omega), I⟩
 | halt k c st => obtain ⟨_, hc, S', L', x', hs, I⟩ := h; exact ⟨hc, S', L', x', fun b hb => (hs b hb).imp id (fun x => by omega), I⟩
theorem In.set_input {G : Glob} {S : Nat → Prop} {L : Lay} {F : Fr} {st : St} {w : World} (I : In G S L F st w) {n : Int} {r : List Int} (h : st.input = n :: r) :
  In G S { L with iA := (if L.ic = 1 then L.iA else L.iA.map (·.add 1)), ic := L.ic - 1 } F { st with input := r } (w.setCell ⟨G.m, 4, none⟩ (.slice (if L.ic = 1 then L.iA else L.iA.map (·.add 1)) r.length (L.ic - 1))) := by
 have hd := I.inp.drop_ 1 (by rw [h]; simp) I.inc
 have hc := I.inc
 rw [h] at hd hc
 simp at hd hc
 exact I.stored I.rep.ownM _ (I.rep.set_input _ r _) rfl rfl rfl hd (by simp; omega)
set_option maxRecDepth 100000 in
set_option maxHeartbeats 8000000 in
theorem instr_read {G : Glob} {S : Nat → Prop} {L : Lay} {F : Fr} {st : St} {w : World} (I : In G S L F st w) {p : Addr} {s : S40} {A7 A9 A15 A16 A17 : Option Addr} {c7 c9 c15 c16 c17 : Nat} (H : IA w p s A7 c7 A9 c9 A15 c15 A16 c16 A17 c17) (hop : s.f0 = 14) (hS : ¬ S p.block) (d0 : 0 ≤ s.f1) (d1 : s.f1 < F.at_.length) :
  Calls Try.prog 103 #[.pointer (some ⟨G.m, 0, none⟩), .pointer (some p)] w (BigPost G S F (ireadP st F s) w) := by
 have II := Aside0.mk I
 have HH := Aside0.mk H
 have h0 := H.h0
 rw [hop] at h0
 have h1 := H.h1
 cases hin : st.input with
 | nil =>
  have c4 : w.cell? ⟨G.m, 4, none⟩ = some (.slice L.iA 0 L.ic) := by have := I.rep.c4; rw [hin] at this; exact this
  have HR := Aside0.mk (show (setP st F s.f1 0).big F.held = ireadP st F s by unfold ireadP; rw [hin])
  clear I H hop hin
  go_enter Try.func103, Try.ntmps103
  go_wp2_with (go_at_call 97; refine (mset II.out s.f1 0 d0 d1 (by omega)).mono ?_; intro e w2 hp; have HP := Aside0.mk (BigPost.of_res hp); clear hp; rw [HR.out] at HP)
  all_goals first | exact bodyPost_end (results_none rfl _ _ _) rfl (BigPost.norm HP.out) | exact ⟨rfl, HP.out⟩ | exact (BigPost.not_out HP.out).elim
 | cons n r =>
  obtain ⟨ad, hA, hn⟩ := (I.inp.below I.base).at_ 0 (by omega) (by rw [hin]; simp)
  have c4 : w.cell? ⟨G.m, 4, none⟩ = some (.slice (some ad) (r.length + 1) L.ic) := by have := I.rep.c4; rw [hin, hA] at this; exact this
  have f4 := I.rep.fz 4
  have hc := I.inc
  rw [hin] at hn hc
  simp at hc
  have I2 := I.set_input hin
  have K2 : Kept (fun b => S b ∨ b = F.hb) w (w.setCell ⟨G.m, 4, none⟩ (.slice (if L.ic = 1 then L.iA else L.iA.map (·.add 1)) r.length (L.ic - 1))) := (Kept.refl _ _).setCell (.inl I.rep.ownM) _
  have hpm : p.block ≠ G.m := fun e => hS (e ▸ I.rep.ownM)
  have ha0 : ad.add 0 = ad := by rcases ad with ⟨b, o, e⟩; unfold Addr.add; split <;> simp_all
  have hn' : w.cell? ad = some (.int .i64 n) := by rw [← ha0]; exact hn
  clear ha0
  have HR := Aside0.mk (show (setP { st with input := r } F s.f1 (w32 n)).big F.held = ireadP st F s by unfold ireadP; rw [hin])
  rw [hA] at I2 K2
  clear I H hop hin hn hA hS
  by_cases hic : L.ic = 1
  ·simp only [hic, if_pos] at I2 K2 c4
   have II2 := Aside0.mk I2
   have KK2 := Aside0.mk K2
   clear I2 K2
   go_enter Try.func103, Try.ntmps103
   go_wp2_with (go_at_call 97; refine (mset II2.out s.f1 (w32 n) d0 d1 (wrap64_le _)).mono ?_; intro e w2 hp; have HP := Aside0.mk (BigPost.transK KK2.out (BigPost.of_res hp)); clear hp; rw [HR.out] at HP)
   all_goals first | exact bodyPost_end (results_none rfl _ _ _) rfl (BigPost.norm HP.out) | exact ⟨rfl, HP.out⟩ | exact (BigPost.not_out HP.out).elim
  ·obtain ⟨k, hk⟩ : ∃ k, L.ic = k + 2 := ⟨L.ic - 2, by omega⟩
   simp only [if_neg hic, Option.map_some] at I2 K2
   rw [hk] at c4 hc I2 K2
   have II2 := Aside0.mk I2
   have KK2 := Aside0.mk K2
   clear I2 K2
   go_enter Try.func103, Try.ntmps103
   go_wp2_with (go_at_call 97; refine (mset II2.out s.f1 (w32 n) d0 d1 (wrap64_le _)).mono ?_; intro e w2 hp; have HP := Aside0.mk (BigPost.transK KK2.out (BigPost.of_res hp)); clear hp; rw [HR.out] at HP)
   all_goals first | exact bodyPost_end (results_none rfl _ _ _) rfl (BigPost.norm HP.out) | exact ⟨rfl, HP.out⟩ | exact (BigPost.not_out HP.out).elim
theorem info4 : (Try.prog.info? 4).map (fun i => (i.zero, i.size, i.bytes)) = some (some (.bool false), 1, 1) := by kernel_rfl
structure MA (w : World) (q : Addr) (f : S48) (A1 : Option Addr) (c1 : Nat) (A5 : Option Addr) (c5 : Nat) : Prop where
 h1 : w.cell? ⟨q.block, q.off + 1, none⟩ = some (.slice A1 f.f1.length c1)
 h4 : w.cell? ⟨q.block, q.off + 4, none⟩ = some (.bool f.f4)
 h5 : w.cell? ⟨q.block, q.off + 5, none⟩ = some (.slice A5 f.f5.length c5)
 l1 : f.f1.length ≤ c1
 g1 : (Kd.int .i64).C w A1 f.f1.length f.f1
 l5 : f.f5.length ≤ c5
 g5 : k45.C w A5 f.f5.length f.f5
theorem MA.of {w : World} {A : Option Addr} {xs : List S48} (h : Kd.C k48 w A xs.length xs) (i : Int) (h0 : 0 ≤ i) (h1 : i < xs.length) : ∃ ad A1 c1 A5 c5, A = some ad ∧ MA w (ad.add (i.toNat * 6)) (rd_T48 xs i) A1 c1 A5 c5 := by
 obtain ⟨ad, A1, c1, A5, c5, e, q0, q1, q2, q3, q4, q5, l1, g1, l5, g5⟩ := at_T48 h i h0 h1
 exact ⟨ad, A1, c1, A5, c5, e, q1, q4, q5, l1, g1, l5, g5⟩
theorem MA.below {w w' : World} {q : Addr} {f : S48} {A1 A5 : Option Addr} {c1 c5 : Nat} (H : MA w q f A1 c1 A5 c5) (hb : Below w.heap.size w w') : MA w' q f A1 c1 A5 c5 :=
 ⟨pwcb hb H.h1, pwcb hb H.h4, pwcb hb H.h5, H.l1, Kd.C_below H.g1 hb, H.l5, Kd.C_below H.g5 hb⟩
theorem Rep.stacked {S : Nat → Prop} {m : Nat} {L : Lay} {x : Option Addr} {st : St} {W w1 : World} (R : Rep S m L x st W) {v1 : Value} {xs : List Int} (hg : W.grownBy w1 L.sv.ownBlock) (ho : w1.ownsRow 0 3 1 v1 xs.length (nums .i64 xs))
  (hat : v1.ownBlock = L.sv.ownBlock ∨ ∃ b, v1.ownBlock = some b ∧ W.heap.size ≤ b) (hok : ∀ v, v ∈ xs → v ≤ 9223372036854775807) :
  Rep (fun b => S b ∨ v1.ownBlock = some b) m { L with sv := v1 } x { st with stack := xs } (w1.setCell ⟨m, 6, none⟩ v1) := by
 have nt : ∀ {b : Nat} {cs : Array Value} {t : TypeId}, Has W b cs t → t ≠ 3 → L.sv.ownBlock ≠ some b := fun hb ht e => by
  obtain ⟨cur, hc⟩ := Rep.has_own R.stk e
  exact hb.ne hc ht rfl
 have hm1 : Has w1 m (mcells L st x) 93 := R.head.of_block (grown_new hg _ R.head.lt (nt R.head (by decide)))
 have hc1 : Has w1 L.c (cellsA st.cells) 3 := R.cells.of_block (grown_new hg _ R.cells.lt R.sc)
 have hh1 : HeapIs w1 L.h L.u st.used := R.heap.of_blocks (grown_new hg _ R.heap.head.lt (nt R.heap.head (by decide))) (fun k hk => grown_new hg _ (R.heap.row k hk).lt (nt (R.heap.row k hk) (by decide)))
 have hs1 : w1.ownsRow 0 3 1 L.pv st.print.length (nums .i64 st.print) :=
  Rep.row_of_block R.prt (fun b e => grown_new hg _ (R.ltP b e) (fun e2 => by
   rcases R.sp with h | h
   ·rw [h] at e2; cases e2
   ·exact h (e2.trans e.symm)))
 have far : ∀ b, v1.ownBlock = some b → L.sv.ownBlock = some b ∨ W.heap.size ≤ b := fun b e => by
  rcases hat with h | ⟨b', h, hb⟩
  ·exact .inl (h ▸ e)
  ·rw [h] at e; cases e; exact .inr hb
 have hne : ∀ b, v1.ownBlock = some b → b ≠ m := fun b e => by
  obtain ⟨cur, hc⟩ := Rep.has_own ho e
  exact hc.ne hm1 (by decide)
 refine ⟨hm1.set_ 6 v1, hh1.other (hh1.head.ne hm1 (by decide)) (fun k hk => (hh1.row k hk).ne hm1 (by decide)) _, hc1.other (hc1.ne hm1 (by decide)) _,
  Rep.row_of_block ho (fun b e => Below.heap_setCell _ _ _ _ (hne b e)),
  Rep.row_of_block hs1 (fun b e => (Rep.has_own hs1 e).elim fun cur hc => Below.heap_setCell _ _ _ _ (hc.ne hm1 (by decide))),
  .inl R.ownM, .inl R.ownH, fun k hk => .inl (R.ownU k hk), .inl R.ownC, fun b e => .inr e, fun b e => .inl (R.ownP b e), ?_, R.pc, ?_, hok, R.okC⟩
 ·intro (e : v1.ownBlock = some L.c)
  rcases far _ e with h | h
  ·exact R.sc h
  ·exact absurd R.cells.lt (by omega)
 ·show v1.ownBlock = none ∨ v1.ownBlock ≠ L.pv.ownBlock
  cases hv : v1.ownBlock with
  | none => exact .inl rfl
  | some b =>
   refine .inr fun e => ?_
   have hlt := R.ltP b e.symm
   rcases far b hv with h2 | h2
   ·rcases R.sp with h | h
    ·rw [h2] at h; cases h
    ·exact h (h2.trans e)
   ·omega
theorem In.stacked {G : Glob} {S : Nat → Prop} {L : Lay} {F : Fr} {st : St} {W w1 : World} (I : In G S L F st W) {v1 : Value} {xs : List Int} (hg : W.grownBy w1 L.sv.ownBlock) (ho : w1.ownsRow 0 3 1 v1 xs.length (nums .i64 xs))
  (hat : v1.ownBlock = L.sv.ownBlock ∨ ∃ b, v1.ownBlock = some b ∧ W.heap.size ≤ b) (hok : ∀ v, v ∈ xs → v ≤ 9223372036854775807) :
  In G (fun b => S b ∨ v1.ownBlock = some b) { L with sv := v1 } F { st with stack := xs } (w1.setCell ⟨G.m, 6, none⟩ v1) ∧ Kept S W (w1.setCell ⟨G.m, 6, none⟩ v1) ∧ (∀ b, (S b ∨ v1.ownBlock = some b) → S b ∨ W.heap.size ≤ b) := by
 have far : ∀ b, v1.ownBlock = some b → S b ∨ W.heap.size ≤ b := fun b e => by
  rcases hat with h | ⟨b', h, hb⟩
  ·exact .inl (I.rep.ownS b (h ▸ e))
  ·rw [h] at e; cases e; exact .inr hb
 have far2 : ∀ b, (S b ∨ v1.ownBlock = some b) → S b ∨ W.heap.size ≤ b := fun b h => h.elim .inl (far b)
 have K : Kept S W (w1.setCell ⟨G.m, 6, none⟩ v1) := ((Kept.refl S W).grown hg (fun k e => .inl (I.rep.ownS k e))).setCell I.rep.ownM v1
 have out : ∀ b, b < W.heap.size → ¬ S b → ¬ (S b ∨ v1.ownBlock = some b) := fun b hb hn h => (far2 b h).elim hn (fun x => by omega)
 refine ⟨⟨I.rep.stacked hg ho hat hok, I.lA, I.lc, I.ln, I.base.trans (K.below_of I.ge I.base.size), ?_, I.inp, I.inc, I.fr.kept K I.o1 I.o2 I.o3, out _ I.fr.head.lt I.o1, fun b e => out _ (I.fr.lt_at b e) (I.o2 b e), out _ I.fr.held.lt I.o3, I.g3, ?_⟩, K, far2⟩
 ·intro b h
  rcases far2 b h with h | h
  ·exact I.ge b h
  ·exact Nat.le_trans I.base.size h
 ·intro b h
  rcases h with h | h
  ·exact Nat.lt_of_lt_of_le (I.lt b h) K.size
  ·obtain ⟨cur, hc⟩ := Rep.has_own ho h
   have := hc.lt
   simpa [World.setCell] using this
theorem In.m6 {G : Glob} {S : Nat → Prop} {L : Lay} {F : Fr} {st : St} {W w1 : World} (I : In G S L F st W) (hg : W.grownBy w1 L.sv.ownBlock) : w1.cell? ⟨G.m, 6, none⟩ = some L.sv ∧ w1.frozen? ⟨G.m, 6, none⟩ = false := by
 have hm1 : Has w1 G.m (mcells L st (some ⟨F.xb, 0, none⟩)) 93 := I.rep.head.of_block (grown_new hg _ I.rep.head.lt (fun e => by
  obtain ⟨cur, hc⟩ := Rep.has_own I.rep.stk e
  exact hc.ne I.rep.head (by decide) rfl))
 exact ⟨by rw [hm1.cell]; rfl, hm1.frozen 6⟩
theorem FrameIs.placed {W w1 : World} {F : Fr} (H : FrameIs W F) {v1 : Value} {xs : List Int} (hg : W.grownBy w1 F.atv.ownBlock) (ho : w1.ownsRow 0 3 1 v1 xs.length (nums .i64 xs)) (hok : ∀ v, v ∈ xs → v ≤ 9223372036854775807) :
  FrameIs (w1.setCell ⟨F.xb, 1, none⟩ v1) { F with atv := v1, at_ := xs } ∧ w1.cell? ⟨F.xb, 1, none⟩ = some F.atv ∧ w1.frozen? ⟨F.xb, 1, none⟩ = false := by
 have nt : ∀ {b : Nat} {cs : Array Value} {t : TypeId}, Has W b cs t → t ≠ 3 → F.atv.ownBlock ≠ some b := fun hb ht e => by
  obtain ⟨cur, hc⟩ := Rep.has_own H.row e
  exact hb.ne hc ht rfl
 have hx := H.head.of_block (grown_new hg _ H.head.lt (nt H.head (by decide)))
 have hh := H.held.of_block (grown_new hg _ H.held.lt (nt H.held (by decide)))
 refine ⟨⟨hx.set_ 1 v1, Rep.row_of_block ho (fun b e => ?_), hh.other (hh.ne hx (by decide)) _, hok⟩, by rw [hx.cell]; rfl, hx.frozen 1⟩
 obtain ⟨cur, hc⟩ := Rep.has_own ho e
 exact Below.heap_setCell _ _ _ _ (hc.ne hx (by decide))
end Go.Proofs.Ytpphpcmbpbppoaa.Mach
end
section
namespace Go.Proofs.Ytpphpcmbpbppoaa.Mach
open Go.RowKit Go.Proofs.YtpphpcmbpbppoaaW.PrintWords Go.Proofs.YtpphpcmbpbppoaaW.PrintLast Go.Proofs.YtpphpcmbpbppoaaW.PrintMore
open Go.Proofs.Ytpphpcmbpbppoaa.Calm
open Go.Proofs.Ytpphpcmbpbppoaa.PMirFuel (S30 S57 S34 S37 S40 S43 S45 S48 k30 k57 k34 k37 k40 k43 k45 k48 rd_T30 rd_T57 rd_T34 rd_T37 rd_T40 rd_T43 rd_T45 rd_T48 at_T30 at_T57 at_T34 at_T40 at_T45 at_T48)
set_option linter.unusedVariables false
set_option linter.unusedSimpArgs false
def frameAt (n : Nat) : List Int → List Int
 | [] => []
 | k :: r => (1048576 + 4 * (n : Int)) :: frameAt (n + k.toNat) r
def need : List Int → Nat
 | [] => 0
 | k :: r => k.toNat + need r
theorem need_append (a b : List Int) : need (a ++ b) = need a + need b := by
 induction a with
 | nil => simp [need]
 | cons k r ih => simp [need, ih]; omega
theorem frameAt_append (n : Nat) (a : List Int) (k : Int) : frameAt n (a ++ [k]) = frameAt n a ++ [1048576 + 4 * ((n + need a : Nat) : Int)] := by
 induction a generalizing n with
 | nil => simp [frameAt, need]
 | cons j r ih => simp [frameAt, need, ih]; omega
theorem frameAt_length (n : Nat) (a : List Int) : (frameAt n a).length = a.length := by
 induction a generalizing n with
 | nil => rfl
 | cons j r ih => simp [frameAt, ih]
theorem frameAt_le (n : Nat) (a : List Int) : ∀ v, v ∈ frameAt n a → v ≤ 1048576 + 4 * ((n + need a : Nat) : Int) := by
 induction a generalizing n with
 | nil => simp [frameAt]
 | cons j r ih =>
  intro v hv
  simp only [frameAt, List.mem_cons] at hv
  rcases hv with rfl | hv
  ·simp [need]; omega
  ·have := ih _ v hv
   simp [need] at this ⊢; omega
theorem need_take (a : List Int) (i : Nat) : need (a.take i) ≤ need a := by
 induction a generalizing i with
 | nil => simp [need]
 | cons k r ih => cases i with
  | zero => simp [need]
  | succ i => have := ih i; simp [need]; omega
theorem take_next (a : List Int) (i : Nat) (h : i < a.length) : a.take (i + 1) = a.take i ++ [rd a (i : Int)] := by
 rw [List.take_succ_eq_append_getElem h]; simp [rd, List.getD_eq_getElem?_getD, h]
theorem In.apart {G : Glob} {S T : Nat → Prop} {L : Lay} {F : Fr} {st : St} {W w1 : World} (I : In G S L F st W) (K : Kept T W w1) (hT : ∀ b, T b → ¬ S b ∧ G.w0.heap.size ≤ b ∧ b ≠ F.xb ∧ F.atv.ownBlock ≠ some b ∧ b ≠ F.hb) : In G S L F st w1 :=
 ⟨I.rep.kept K (fun b h t => (hT b t).1 h), I.lA, I.lc, I.ln, I.base.trans (K.below_of (fun b h => (hT b h).2.1) I.base.size), I.ge, I.inp, I.inc,
  I.fr.kept K (fun t => (hT _ t).2.2.1 rfl) (fun b e t => (hT b t).2.2.2.1 e) (fun t => (hT _ t).2.2.2.2 rfl), I.o1, I.o2, I.o3, I.g3, fun b h => Nat.lt_of_lt_of_le (I.lt b h) K.size⟩
structure Making (G : Glob) (S : Nat → Prop) (F F2 : Fr) (st : St) (w wr : World) : Prop where
 inn : ∃ S' L', In G S' L' F st wr ∧ (∀ b, S' b → S b ∨ w.heap.size ≤ b) ∧ ¬ S' F2.xb ∧ ¬ S' F2.hb ∧ ∀ b, F2.atv.ownBlock = some b → ¬ S' b
 kept : Kept S w wr
 fr : FrameIs wr F2
 n1 : w.heap.size ≤ F2.xb
 n2 : w.heap.size ≤ F2.hb
 n3 : ∀ b, F2.atv.ownBlock = some b → w.heap.size ≤ b
namespace Making
variable {G : Glob} {S : Nat → Prop} {F F2 : Fr} {st : St} {w W w1 : World}
theorem below (M : Making G S F F2 st w W) (hb : Below W.heap.size W w1) : Making G S F F2 st w w1 := by
 obtain ⟨S', L', I, hs⟩ := M.inn
 exact ⟨⟨S', L', I.below hb, hs⟩, M.kept.below hb, M.fr.below hb, M.n1, M.n2, M.n3⟩
theorem placed (M : Making G S F F2 st w W) (hF : F.xb < w.heap.size ∧ (∀ b, F.atv.ownBlock = some b → b < w.heap.size) ∧ F.hb < w.heap.size) (hw : G.w0.heap.size ≤ w.heap.size) {v1 : Value} {xs : List Int} (hg : W.grownBy w1 F2.atv.ownBlock) (ho : w1.ownsRow 0 3 1 v1 xs.length (nums .i64 xs))
  (hat : v1.ownBlock = F2.atv.ownBlock ∨ ∃ b, v1.ownBlock = some b ∧ W.heap.size ≤ b) (hok : ∀ v, v ∈ xs → v ≤ 9223372036854775807) :
  Making G S F { F2 with atv := v1, at_ := xs } st w (w1.setCell ⟨F2.xb, 1, none⟩ v1) := by
 obtain ⟨S', L', I, hs, a1, a2, a3⟩ := M.inn
 have K0 : Kept (fun b => F2.atv.ownBlock = some b ∨ b = F2.xb) W (w1.setCell ⟨F2.xb, 1, none⟩ v1) := ((Kept.refl _ W).grown hg (fun k e => .inl (.inl e))).setCell (.inr rfl) v1
 have T : ∀ b, (F2.atv.ownBlock = some b ∨ b = F2.xb) → w.heap.size ≤ b := fun b h => h.elim (M.n3 b) (fun e => e ▸ M.n1)
 have TS : ∀ b, (F2.atv.ownBlock = some b ∨ b = F2.xb) → ¬ S' b := fun b h => h.elim (a3 b) (fun e => e ▸ a1)
 refine ⟨⟨S', L', I.apart K0 (fun b h => ⟨TS b h, Nat.le_trans hw (T b h), fun e => ?_, fun e => ?_, fun e => ?_⟩), hs, a1, a2, fun b e => ?_⟩, ?_, (M.fr.placed hg ho hok).1, M.n1, M.n2, fun b e => ?_⟩
 ·have := T b h; have := hF.1; omega
 ·have := T b h; have := hF.2.1 b e; omega
 ·have := T b h; have := hF.2.2; omega
 ·rcases hat with h | ⟨b', h, hb⟩
  ·exact a3 b (h ▸ e)
  ·obtain rfl : b' = b := Option.some.inj (h.symm.trans e)
   intro hS
   have := I.lt b' hS
   omega
 ·exact M.kept.trans (K0.mono fun b h => .inr ⟨T b h, h.elim (fun e => M.fr.lt_at b e) (fun e => e ▸ M.fr.head.lt)⟩)
 ·rcases hat with h | ⟨b', h, hb⟩
  ·exact M.n3 b (h ▸ e)
  ·obtain rfl : b' = b := Option.some.inj (h.symm.trans e)
   exact Nat.le_trans M.kept.size hb
theorem stacked (M : Making G S F F2 st w W) {S' : Nat → Prop} {L' : Lay} (I : In G S' L' F st W) (hs : ∀ b, S' b → S b ∨ w.heap.size ≤ b) (a1 : ¬ S' F2.xb) (a2 : ¬ S' F2.hb) (a3 : ∀ b, F2.atv.ownBlock = some b → ¬ S' b)
  {v1 : Value} {xs : List Int} (hg : W.grownBy w1 L'.sv.ownBlock) (ho : w1.ownsRow 0 3 1 v1 xs.length (nums .i64 xs)) (hat : v1.ownBlock = L'.sv.ownBlock ∨ ∃ b, v1.ownBlock = some b ∧ W.heap.size ≤ b) (hok : ∀ v, v ∈ xs → v ≤ 9223372036854775807) :
  Making G S F F2 { st with stack := xs } w (w1.setCell ⟨G.m, 6, none⟩ v1) := by
 obtain ⟨I', K, far⟩ := I.stacked hg ho hat hok
 have out : ∀ b, b < W.heap.size → ¬ S' b → ¬ (S' b ∨ v1.ownBlock = some b) := fun b hb hn h => (far b h).elim hn (fun x => by omega)
 refine ⟨⟨_, _, I', fun b h => ?_, out _ M.fr.head.lt a1, out _ M.fr.held.lt a2, fun b e => out _ (M.fr.lt_at b e) (a3 b e)⟩, ?_, M.fr.kept K a1 a3 a2, M.n1, M.n2, M.n3⟩
 ·rcases far b h with h | h
  ·exact hs b h
  ·exact .inr (Nat.le_trans M.kept.size h)
 ·refine M.kept.trans (K.mono fun b h => ?_)
  rcases hs b h with h2 | h2
  ·exact .inl h2
  ·exact .inr ⟨h2, I.lt b h⟩
end Making
end Go.Proofs.Ytpphpcmbpbppoaa.Mach
end
section
namespace Go.Proofs.Ytpphpcmbpbppoaa.Mach
open Go.RowKit Go.Proofs.YtpphpcmbpbppoaaW.PrintWords Go.Proofs.YtpphpcmbpbppoaaW.PrintLast Go.Proofs.YtpphpcmbpbppoaaW.PrintMore
open Go.Proofs.Ytpphpcmbpbppoaa.Calm
open Go.Proofs.Ytpphpcmbpbppoaa.PMirFuel (S30 S57 S34 S37 S40 S43 S45 S48 k30 k57 k34 k37 k40 k43 k45 k48 rd_T30 rd_T57 rd_T34 rd_T37 rd_T40 rd_T43 rd_T45 rd_T48 at_T30 at_T57 at_T34 at_T40 at_T45 at_T48)
set_option linter.unusedVariables false
set_option linter.unusedSimpArgs false
inductive ResC where
 | ok (st : St) (held : List Bool) (out : List Int)
 | halt (k c : Int) (st : St)
def CPost (G : Glob) (S T : Nat → Prop) (F : Fr) (r : ResC) (w : World) (e : Ending) (w' : World) : Prop :=
 Kept (fun b => S b ∨ T b) w w' ∧ match r with
  | .ok st' held out => ∃ v, e = .returned v ∧ w'.ownsRow 0 3 1 v out.length (nums .i64 out) ∧ (∀ x, x ∈ out → x ≤ 9223372036854775807) ∧
    ∃ S' L', (∀ b, S' b → S b ∨ w.heap.size ≤ b) ∧ In G S' L' { F with held := held } st' w' ∧ ∀ b, v.ownBlock = some b → ¬ S' b ∧ w.heap.size ≤ b
  | .halt k c st' => (∃ ch, e = .panicked ch ∧ HaltCh ch k c) ∧ ∃ S' L' x', (∀ b, S' b → S b ∨ w.heap.size ≤ b) ∧ Rep S' G.m L' x' st' w'
theorem In.swap {G : Glob} {S : Nat → Prop} {L : Lay} {F F2 : Fr} {st : St} {w : World} (I : In G S L F st w) (H : FrameIs w F2) (o1 : ¬ S F2.xb) (o2 : ∀ b, F2.atv.ownBlock = some b → ¬ S b) (o3 : ¬ S F2.hb) (g3 : G.w0.heap.size ≤ F2.hb) :
  In G S L F2 st (w.setCell ⟨G.m, 11, none⟩ (.pointer (some ⟨F2.xb, 0, none⟩))) :=
 ⟨I.rep.set_x _, I.lA, I.lc, I.ln, I.base.setCell (I.ge _ I.rep.ownM) _, I.ge, I.inp, I.inc,
  H.setCell (fun e => o1 (e ▸ I.rep.ownM)) (fun b hb e => o2 b hb (e ▸ I.rep.ownM)) (fun e => o3 (e ▸ I.rep.ownM)) _, o1, o2, o3, g3, fun b h => by simpa [World.setCell] using I.lt b h⟩
end Go.Proofs.Ytpphpcmbpbppoaa.Mach
end
