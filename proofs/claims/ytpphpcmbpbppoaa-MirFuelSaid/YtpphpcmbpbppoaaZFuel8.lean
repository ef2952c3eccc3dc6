/- Steps toward the law Fuel, merged from several texts (some of them began as the kit's print). No condition. -/
import Derived.Laws.Panics
import Derived.Test.YtpphpcmbpbppoaaZFuel7
section
namespace Go.Proofs.Ytpphpcmbpbppoaa.Mach
open Go.RowKit Go.Proofs.YtpphpcmbpbppoaaW.PrintWords Go.Proofs.YtpphpcmbpbppoaaW.PrintLast Go.Proofs.YtpphpcmbpbppoaaW.PrintMore
open Go.Proofs.Ytpphpcmbpbppoaa.Calm
open Go.Proofs.Ytpphpcmbpbppoaa.PMirFuel (S30 S57 S34 S37 S40 S43 S45 S48 k30 k57 k34 k37 k40 k43 k45 k48 rd_T30 rd_T57 rd_T34 rd_T37 rd_T40 rd_T43 rd_T45 rd_T48 at_T30 at_T57 at_T34 at_T40 at_T45 at_T48)
set_option linter.unusedVariables false
set_option linter.unusedSimpArgs false
theorem list_panic {P : Program} {ops : Array Oper} {Q : Exit → Act → World → Prop} {a : Act} {w w' : World} {rest : List Oper} {o : Oper} {v : Value} (hg : o.guard = none) (hr : (execOp a.eval o).run P w = .halt (.panic v) w') (h : Q (.panic [{ v, recovered := false }]) a w') : wpList P ops Q (o :: rest) a w := by
 refine wpList_step fun K hK => ?_
 rw [if_pos (by unfold Region.wanted; rw [hg])]
 unfold Oper.wp
 rw [hr, Oper.upon_panic]
 exact h
theorem bounds8 : Try.prog.rt.boundsError = 8 := by kernel_rfl
theorem el35 : Try.prog.underlying 35 = some (.slice (Try.prog.elem 35)) := by kernel_rfl
theorem idx_out (A : Option Addr) (cap : Nat) (w : World) : ∃ pv, (Instr.indexAt 35 (.slice A 0 cap) (.int .i64 0)).run Try.prog w = .halt (.panic (.iface 8 pv)) w.drew := by
 rw [← bounds8]
 cases A with
 | some a =>
  rw [run_indexAt_slice (P := Try.prog) (h := el35), if_neg (by omega)]
  unfold boundsPanic
  rw [if_pos (by rfl)]
  simp [runtimePanic, goPanic, go_sem]
 | none =>
  have e : (Instr.indexAt 35 (.slice none 0 cap) (.int .i64 0)).run Try.prog w = (boundsPanic .i64 0 0 .index).run Try.prog w := by
   simp [Instr.indexAt, run_underlying el35, asIntOf]
  rw [e]
  unfold boundsPanic
  rw [if_pos (by rfl)]
  simp [runtimePanic, goPanic, go_sem]
theorem haltCh_rt (pv : Value) : HaltCh [{ v := .iface 8 pv, recovered := false }] 4 0 := .inr ⟨rfl, rfl, 8, pv, by decide, rfl⟩
def dloopP (f : St → Int → Res) (a sz : Int) : Nat → Int → St → Res
 | 0, _, st => .ok st
 | m + 1, i, st => match f st (wrap64 (a + wrap64 (wrap64 (4 * sz) * i))) with
  | .ok st' => dloopP f a sz m (i + 1) st'
  | .halt k c st' => .halt k c st'
def dropP : S37 → St → Int → Res
 | ⟨k, s, n, es⟩, st, a =>
  if tyCopyP ⟨k, s, n, es⟩ = true then .ok st
  else if k = 11 then match locate st a with
   | none => .halt 4 0 st
   | some l => match es with
    | [] => .halt 4 0 st
    | e :: _ => match dropP e st (rdL st l) with
     | .ok st' => freeP st' (rdL st l)
     | .halt k c st' => .halt k c st'
  else if k = 10 then match es with
   | [] => .halt 4 0 st
   | e :: _ => dloopP (dropP e) a (tyWordsP e).1 n.toNat 0 st
  else .ok st
def tyOk : S37 → Prop
 | ⟨_, _, n, es⟩ => n ≤ 9223372036854775807 ∧ match es with
  | [] => True
  | e :: _ => tyOk e
def DropOK (t : S37) : Prop := ∀ (G : Glob) (S : Nat → Prop) (L : Lay) (F : Fr) (st : St) (w : World) (a : Int) (A3 : Option Addr) (c3 : Nat), In G S L F st w → k37.C G.w0 A3 t.f3.length t.f3 → t.f3.length ≤ c3 → a ≤ 9223372036854775807 →
 Calls Try.prog 120 #[.pointer (some ⟨G.m, 0, none⟩), .agg #[.int .i64 t.f0, .string t.f1, .int .i64 t.f2, .slice A3 t.f3.length c3], .int .i64 a] w (ResPost G S L F (dropP t st a) w)
set_option maxRecDepth 100000 in
set_option maxHeartbeats 1000000 in
theorem drop_step (k : Int) (s : ByteArray) (n : Int) (es : List S37) (hn : n ≤ 9223372036854775807) (IH : 0 < es.length → DropOK (rd_T37 es 0)) : DropOK ⟨k, s, n, es⟩ := by
 intro G S L F st w a A3 c3 I H hl ha
 have hu37 := Try.underlying37
 have HIH := Aside0.mk IH
 have HH := Aside0.mk H
 clear IH H
 change es.length ≤ c3 at hl
 change Calls Try.prog 120 #[.pointer (some ⟨G.m, 0, none⟩), .agg #[.int .i64 k, .string s, .int .i64 n, .slice A3 es.length c3], .int .i64 a] w (ResPost G S L F (dropP ⟨k, s, n, es⟩ st a) w)
 have HH' : Aside0 (k37.C G.w0 A3 es.length es) := HH
 clear HH
 go_enter Try.func120, Try.ntmps120
 go_wp2
 obtain ⟨V, eV⟩ : ∃ V, w.alloc (Obj.cells #[.int .i64 k, .string s, .int .i64 n, .slice A3 es.length c3] 37) = V := ⟨_, rfl⟩
 have qV : Below w.heap.size w V := eV ▸ below_alloc (Below.refl _ _) _
 have mV : Has V w.heap.size #[.int .i64 k, .string s, .int .i64 n, .slice A3 es.length c3] 37 := by rw [← eV]; exact Has.new w _ 37
 rw [eV]
 clear eV
 obtain ⟨tb, htb⟩ : ∃ b, w.heap.size = b := ⟨_, rfl⟩
 have hns : ¬ S tb := fun h => by have := I.lt _ h; omega
 have HNS := Aside0.mk hns
 rw [htb] at mV ⊢
 clear htb hns
 obtain ⟨W, eW⟩ : ∃ Z, V.drew = Z := ⟨_, rfl⟩
 have mW : Has W tb #[.int .i64 k, .string s, .int .i64 n, .slice A3 es.length c3] 37 := eW ▸ mV.drewN 1
 have qW : Below w.heap.size w W := eW ▸ below_drew qV
 have IW := I.below qW
 have cW : W.cell? ⟨G.m, 0, none⟩ = some (.slice none 0 0) := IW.rep.head.cell 0
 have HHW := Kd.C_below HH'.out IW.base
 refine region_mix [.h 0, .h 1, .h 2, .h 3, .h 4, .c 5, .h 6] (fun w' => w'.cell? ⟨G.m, 0, none⟩ = some (.slice none 0 0) ∧ w'.cell? ⟨tb, 0, none⟩ = some (.int .i64 k) ∧ w'.cell? ⟨tb, 1, none⟩ = some (.string s) ∧ w'.cell? ⟨tb, 2, none⟩ = some (.int .i64 n) ∧ w'.cell? ⟨tb, 3, none⟩ = some (.slice A3 es.length c3)) (by kernel_rfl) (by kernel_rfl) (eW.symm ▸ ⟨cW, mW.cell 0, mW.cell 1, mW.cell 2, mW.cell 3⟩) ?hq ?_
 case hq =>
  intro c a1 a2 w1 hd h
  simp +zetaDelta only [Exit.then, Exit.inBlock, bodyPost] at h ⊢
  exact ⟨hd.symm.trans h.1, h.2⟩
 rw [eW]
 clear eW
 refine mix_h (by rfl) (by rfl) (by rfl) ?_
 apply Exists.intro
 apply And.intro
 ·rintro w' ⟨k0, k1, k2, k3, k4⟩
  apply VR.mk
  go_simp
  with_reducible rfl
 simp only [List.setIfInBounds_toArray, List.set_cons_zero, List.set_cons_succ]
 refine mix_h (by rfl) (by rfl) (by rfl) ?_
 apply Exists.intro
 apply And.intro
 ·rintro w' ⟨k0, k1, k2, k3, k4⟩
  apply VR.mk
  go_simp
  with_reducible rfl
 simp only [List.setIfInBounds_toArray, List.set_cons_zero, List.set_cons_succ]
 refine mix_h (by rfl) (by rfl) (by rfl) ?_
 apply Exists.intro
 apply And.intro
 ·rintro w' ⟨k0, k1, k2, k3, k4⟩
  apply VR.mk
  go_simp
  with_reducible rfl
 simp only [List.setIfInBounds_toArray, List.set_cons_zero, List.set_cons_succ]
 refine mix_h (by rfl) (by rfl) (by rfl) ?_
 apply Exists.intro
 apply And.intro
 ·rintro w' ⟨k0, k1, k2, k3, k4⟩
  apply VR.mk
  go_simp
  with_reducible rfl
 simp only [List.setIfInBounds_toArray, List.set_cons_zero, List.set_cons_succ]
 refine mix_h (by rfl) (by rfl) (by rfl) ?_
 apply Exists.intro
 apply And.intro
 ·rintro w' ⟨k0, k1, k2, k3, k4⟩
  apply VR.mk
  go_simp
  with_reducible rfl
 simp only [List.setIfInBounds_toArray, List.set_cons_zero, List.set_cons_succ]
 refine mix_call (by rfl) (by rfl) (by rfl) (ER.go (by go_simp; with_reducible exact ⟨rfl, rfl⟩)) ?_
 refine (copy_nil ⟨k, s, n, es⟩ A3 c3 W HHW hl).mono ?_
 rintro e V1 ⟨rfl, b1⟩
 have m1 := mW.belowS b1
 have q1 := below_then qW qW.size b1
 have I1 := IW.below b1
 have c1 : V1.cell? ⟨G.m, 0, none⟩ = some (.slice none 0 0) := I1.rep.head.cell 0
 refine .inl ⟨_, rfl, ⟨c1, m1.cell 0, m1.cell 1, m1.cell 2, m1.cell 3⟩, ?_⟩
 simp only [List.setIfInBounds_toArray, List.set_cons_zero, List.set_cons_succ]
 refine mix_h (by rfl) (by rfl) (by rfl) ?_
 apply Exists.intro
 apply And.intro
 ·rintro w' ⟨k0, k1, k2, k3, k4⟩
  apply VR.mk
  go_simp
  with_reducible rfl
 simp only [List.setIfInBounds_toArray, List.set_cons_zero, List.set_cons_succ]
 refine mix_nil ?_
 have II := Aside0.mk I1
 have MM := Aside0.mk m1
 have QQ := Aside0.mk q1
 have II0 := Aside0.mk I
 clear I IW I1 m1 mW mV q1 qW qV cW c1 b1 HHW
 cases hcp : tyCopyP ⟨k, s, n, es⟩ with
 | true =>
  have HP : dropP ⟨k, s, n, es⟩ st a = .ok st := by unfold dropP; rw [if_pos hcp]
  clear hcp
  go_wp2
  refine bodyPost_end (results_none rfl _ _ _) rfl ?_
  exact ResPost.ok_ HP (Kept.of_below QQ.out) II.out
 | false =>
  have hnc : ¬ tyCopyP ⟨k, s, n, es⟩ = true := by rw [hcp]; decide
  have z0 := MM.out.cell 0
  have z1 := MM.out.cell 1
  have z2 := MM.out.cell 2
  have z3 := MM.out.cell 3
  simp only [List.getElem?_toArray, List.getElem?_cons_zero, List.getElem?_cons_succ] at z0 z1 z2 z3
  have HNC := Aside0.mk hnc
  clear hcp hnc
  by_cases k11 : k = 11
  ·subst k11
   cases hloc : locate st a with
   | none =>
    have HP := Aside0.mk (show dropP ⟨11, s, n, es⟩ st a = .halt 4 0 st by unfold dropP; rw [if_neg HNC.out, if_pos rfl, hloc])
    have HL := Aside0.mk hloc
    clear hloc
    go_wp2_with (go_at_call 98; refine (cell_bad II.out.rep ha HL.out).mono ?_; rintro e w2 ⟨rfl, hb⟩)
    exact ⟨rfl, ResPost.halt_ HP.out ((Kept.of_below QQ.out).below hb) (II.out.below hb).rep⟩
   | some l =>
    have HL := Aside0.mk hloc
    clear hloc
    by_cases hlen : es.length = 0
    ·have HP := Aside0.mk (show dropP ⟨11, s, n, es⟩ st a = .halt 4 0 st by
      obtain rfl := List.length_eq_zero_iff.1 hlen
      unfold dropP; rw [if_neg HNC.out, if_pos rfl, HL.out])
     go_wp2_with (first | (go_at_call 98; refine (cell_ok II.out.rep ha HL.out).mono ?_; rintro e w2 ⟨rfl, hb⟩; have hd := ((II.out.below hb).rep.load HL.out).1; have y3 := pwcb hb z3) | ((with_reducible refine gate_dst (N := 29) rfl ?_); refine Hold.out ?_))
     refine ⟨?_⟩
     obtain ⟨pv, hpv⟩ := idx_out A3 c3 w2
     refine list_panic (v := .iface 8 pv) (w' := w2.drew) rfl (by unfold execOp; go_simp) ?_
     have HI := II.out.below hb
     have HKp := (Kept.of_below (S := S) QQ.out).below hb
     clear hpv y3
     go_wp2_with fail
     exact ⟨rfl, ResPost.halt_ch HP.out (haltCh_rt pv) (HKp.drewN 1) (HI.drewN 1).rep⟩
    ·have hpos : 0 < es.length := by omega
     obtain ⟨ad, E3, d3, eA, r0, r1, r2, r3, rl, rg⟩ := PMirFuel.at_T37 HH'.out 0 (by omega) (by omega)
     rw [show ad.add ((0 : Int).toNat * 4) = ad by simp [Addr.add]] at r0 r1 r2 r3
     subst eA
     replace rg := Aside0.mk rg
     have hstep : dropP ⟨11, s, n, es⟩ st a = (match dropP (rd_T37 es 0) st (rdL st l) with | .ok st' => freeP st' (rdL st l) | .halt k c st' => .halt k c st') := by
      cases es with
      | nil => exact absurd hpos (Nat.lt_irrefl 0)
      | cons e r => conv => lhs; unfold dropP
                    rw [if_neg HNC.out, if_pos rfl, HL.out]; rfl
     cases hr : dropP (rd_T37 es 0) st (rdL st l) with
     | halt k' c' st' =>
      have HP := Aside0.mk (show dropP ⟨11, s, n, es⟩ st a = .halt k' c' st' by rw [hstep, hr])
      have HR := Aside0.mk hr
      clear hr hstep
      go_wp2_with (first | (go_at_call 98; refine (cell_ok II.out.rep ha HL.out).mono ?_; rintro e w2 ⟨rfl, hb⟩; have HI := II.out.below hb; have HK2 := (Kept.of_below (S := S) QQ.out).below hb; have hd := (HI.rep.load HL.out).1; have y3 := pwcb hb z3; have y4 := pwcb HI.base r0; have y5 := pwcb HI.base r1; have y6 := pwcb HI.base r2; have y7 := pwcb HI.base r3; have II2 := Aside0.mk HI; have KK2 := Aside0.mk HK2; clear HI HK2) | (go_at_call 120; refine (HIH.out hpos G S L F st w2 (rdL st l) E3 d3 II2.out rg.out rl (II.out.rep.rd_le l)).mono ?_; intro e w3 hp; rw [HR.out] at hp; obtain ⟨K, ⟨ch, rfl, hc⟩, x', R⟩ := hp))
      exact ⟨rfl, ResPost.halt_ch HP.out hc (KK2.out.then_ K) R⟩
     | ok st1 =>
      have HR := Aside0.mk hr
      cases hf : freeP st1 (rdL st l) with
      | halt k' c' st' =>
       have HP := Aside0.mk (show dropP ⟨11, s, n, es⟩ st a = .halt k' c' st' by rw [hstep, hr]; exact hf)
       have HF := Aside0.mk hf
       clear hr hstep hf
       go_wp2_with (first | (go_at_call 98; refine (cell_ok II.out.rep ha HL.out).mono ?_; rintro e w2 ⟨rfl, hb⟩; have HI := II.out.below hb; have HK2 := (Kept.of_below (S := S) QQ.out).below hb; have hd := (HI.rep.load HL.out).1; have y3 := pwcb hb z3; have y4 := pwcb HI.base r0; have y5 := pwcb HI.base r1; have y6 := pwcb HI.base r2; have y7 := pwcb HI.base r3; have II2 := Aside0.mk HI; have KK2 := Aside0.mk HK2; clear HI HK2) | (go_at_call 120; refine (HIH.out hpos G S L F st w2 (rdL st l) E3 d3 II2.out rg.out rl (II.out.rep.rd_le l)).mono ?_; intro e w3 hp; rw [HR.out] at hp; obtain ⟨K, rfl, I3⟩ := hp) | (go_at_call 102; refine (mfree I3 (rdL st l)).mono ?_; intro e w4 hp; rw [HF.out] at hp; obtain ⟨K4, ⟨ch, rfl, hc⟩, x', R⟩ := hp))
       exact ⟨rfl, ResPost.halt_ch HP.out hc ((KK2.out.then_ K).then_ K4) R⟩
      | ok st2 =>
       have HP := Aside0.mk (show dropP ⟨11, s, n, es⟩ st a = .ok st2 by rw [hstep, hr]; exact hf)
       have HF := Aside0.mk hf
       clear hr hstep hf
       go_wp2_with (first | (go_at_call 98; refine (cell_ok II.out.rep ha HL.out).mono ?_; rintro e w2 ⟨rfl, hb⟩; have HI := II.out.below hb; have HK2 := (Kept.of_below (S := S) QQ.out).below hb; have hd := (HI.rep.load HL.out).1; have y3 := pwcb hb z3; have y4 := pwcb HI.base r0; have y5 := pwcb HI.base r1; have y6 := pwcb HI.base r2; have y7 := pwcb HI.base r3; have II2 := Aside0.mk HI; have KK2 := Aside0.mk HK2; clear HI HK2) | (go_at_call 120; refine (HIH.out hpos G S L F st w2 (rdL st l) E3 d3 II2.out rg.out rl (II.out.rep.rd_le l)).mono ?_; intro e w3 hp; rw [HR.out] at hp; obtain ⟨K, rfl, I3⟩ := hp) | (go_at_call 102; refine (mfree I3 (rdL st l)).mono ?_; intro e w4 hp; rw [HF.out] at hp; obtain ⟨K4, rfl, I4⟩ := hp))
       refine bodyPost_end (results_none rfl _ _ _) rfl ?_
       exact ResPost.ok_ HP.out ((KK2.out.then_ K).then_ K4) I4
  have d11 : decide (k = 11) = false := decide_eq_false k11
  by_cases k10 : k = 10
  ·subst k10
   clear d11
   by_cases hlen : es.length = 0
   ·have HP := Aside0.mk (show dropP ⟨10, s, n, es⟩ st a = .halt 4 0 st by
     obtain rfl := List.length_eq_zero_iff.1 hlen
     unfold dropP; rw [if_neg HNC.out, if_neg (by decide), if_pos rfl])
    go_wp2
    refine CalmD.region_doomed (fun w' => w'.cell? ⟨G.m, 0, none⟩ = some (.slice none 0 0) ∧ w'.cell? ⟨tb, 3, none⟩ = some (.slice A3 0 c3) ∧ Aside0 (Below V1.heap.size V1 w')) (fun ch w' => (∃ pv, ch = [{ v := .iface 8 pv, recovered := false }]) ∧ Below V1.heap.size V1 w') 6 [0, 1, 2, 3, 4, 5] (by kernel_rfl) (by kernel_rfl) (by kernel_rfl) ⟨(II.out.drewN 1).rep.head.cell 0, by rw [← hlen]; exact z3, ⟨below_drew (Below.refl _ _)⟩⟩ ?_ ?_
    ·rintro ch a1 w' hdf ⟨⟨pv, rfl⟩, hb⟩
     exact ⟨hdf, ResPost.halt_ch HP.out (haltCh_rt pv) ((Kept.of_below QQ.out).below hb) (II.out.below hb).rep⟩
    ·skip
     repeat (
      refine CalmD.walk_ex (by rfl) (by rfl) (by rfl) ?_
      apply Exists.intro
      apply And.intro
      ·rintro w' ⟨k1, k2, kb⟩
       apply CalmD.calm_value
       go_simp
       with_reducible rfl
      simp only [List.setIfInBounds_toArray, List.set_cons_zero, List.set_cons_succ])
     refine CalmD.walk_doom (by rfl) (by rfl) ?_
     rintro w' ⟨k1, k2, kb⟩
     obtain ⟨pv, hpv⟩ := idx_out A3 c3 w'
     refine CalmD.doom_panic (v := .iface 8 pv) (w' := w'.drew) (by unfold execOp; go_simp) ⟨⟨pv, rfl⟩, below_drew kb.out⟩
   ·have hpos : 0 < es.length := by omega
    obtain ⟨ad, E3, d3, eA, r0, r1, r2, r3, rl, rg⟩ := PMirFuel.at_T37 HH'.out 0 (by omega) (by omega)
    rw [show ad.add ((0 : Int).toNat * 4) = ad by simp [Addr.add]] at r0 r1 r2 r3
    subst eA
    replace rg := Aside0.mk rg
    have HP := Aside0.mk (show dropP ⟨10, s, n, es⟩ st a = dloopP (dropP (rd_T37 es 0)) a (tyWordsP (rd_T37 es 0)).1 n.toNat 0 st by
     cases es with
     | nil => exact absurd hpos (Nat.lt_irrefl 0)
     | cons e r => conv => lhs; unfold dropP
                   rw [if_neg HNC.out, if_neg (by decide), if_pos rfl]; rfl)
    go_wp2
    obtain ⟨W0, eW0⟩ : ∃ Z, V1.drew = Z := ⟨_, rfl⟩
    have IW : In G S L F st W0 := eW0 ▸ II.out.drewN 1
    have mW : Has W0 tb #[.int .i64 10, .string s, .int .i64 n, .slice (some ad) es.length c3] 37 := eW0 ▸ MM.out.drewN 1
    have qW : Below w.heap.size w W0 := eW0 ▸ below_drew QQ.out
    have cW : W0.cell? ⟨G.m, 0, none⟩ = some (.slice none 0 0) := IW.rep.head.cell 0
    refine region_mix [.h 0, .h 1, .h 2, .h 3, .h 4, .h 5, .h 6, .h 7, .c 8, .h 9, .h 10, .h 11, .h 12, .h 13] (fun w' => w'.cell? ⟨G.m, 0, none⟩ = some (.slice none 0 0) ∧ w'.cell? ⟨tb, 3, none⟩ = some (.slice (some ad) es.length c3) ∧ w'.cell? ad = some (.int .i64 (rd_T37 es 0).f0) ∧ w'.cell? ⟨ad.block, ad.off + 1, none⟩ = some (.string (rd_T37 es 0).f1) ∧ w'.cell? ⟨ad.block, ad.off + 2, none⟩ = some (.int .i64 (rd_T37 es 0).f2) ∧ w'.cell? ⟨ad.block, ad.off + 3, none⟩ = some (.slice E3 (rd_T37 es 0).f3.length d3)) (by kernel_rfl) (by kernel_rfl) (eW0.symm ▸ ⟨cW, mW.cell 3, pwcb IW.base r0, pwcb IW.base r1, pwcb IW.base r2, pwcb IW.base r3⟩) ?hq2 ?_
    case hq2 =>
     intro c a1 a2 w1 hd h
     simp +zetaDelta only [Exit.then, Exit.inBlock, bodyPost] at h ⊢
     exact ⟨hd.symm.trans h.1, h.2⟩
    rw [eW0]
    clear eW0 z0 z1 z2 z3
    refine mix_h (by rfl) (by rfl) (by rfl) ?_
    apply Exists.intro
    apply And.intro
    ·rintro w' ⟨k0, k1, k2, k3, k4, k5⟩
     apply VR.mk
     go_simp
     with_reducible rfl
    simp only [List.setIfInBounds_toArray, List.set_cons_zero, List.set_cons_succ]
    refine mix_h (by rfl) (by rfl) (by rfl) ?_
    apply Exists.intro
    apply And.intro
    ·rintro w' ⟨k0, k1, k2, k3, k4, k5⟩
     apply VR.mk
     go_simp
     with_reducible rfl
    simp only [List.setIfInBounds_toArray, List.set_cons_zero, List.set_cons_succ]
    refine mix_h (by rfl) (by rfl) (by rfl) ?_
    apply Exists.intro
    apply And.intro
    ·rintro w' ⟨k0, k1, k2, k3, k4, k5⟩
     apply VR.mk
     go_simp
     with_reducible rfl
    simp only [List.setIfInBounds_toArray, List.set_cons_zero, List.set_cons_succ]
    refine mix_h (by rfl) (by rfl) (by rfl) ?_
    apply Exists.intro
    apply And.intro
    ·rintro w' ⟨k0, k1, k2, k3, k4, k5⟩
     apply VR.mk
     go_simp
     with_reducible rfl
    simp only [List.setIfInBounds_toArray, List.set_cons_zero, List.set_cons_succ]
    refine mix_h (by rfl) (by rfl) (by rfl) ?_
    apply Exists.intro
    apply And.intro
    ·rintro w' ⟨k0, k1, k2, k3, k4, k5⟩
     apply VR.mk
     go_simp
     with_reducible rfl
    simp only [List.setIfInBounds_toArray, List.set_cons_zero, List.set_cons_succ]
    refine mix_h (by rfl) (by rfl) (by rfl) ?_
    apply Exists.intro
    apply And.intro
    ·rintro w' ⟨k0, k1, k2, k3, k4, k5⟩
     apply VR.mk
     go_simp
     with_reducible rfl
    simp only [List.setIfInBounds_toArray, List.set_cons_zero, List.set_cons_succ]
    refine mix_h (by rfl) (by rfl) (by rfl) ?_
    apply Exists.intro
    apply And.intro
    ·rintro w' ⟨k0, k1, k2, k3, k4, k5⟩
     apply VR.mk
     go_simp
     with_reducible rfl
    simp only [List.setIfInBounds_toArray, List.set_cons_zero, List.set_cons_succ]
    refine mix_h (by rfl) (by rfl) (by rfl) ?_
    apply Exists.intro
    apply And.intro
    ·rintro w' ⟨k0, k1, k2, k3, k4, k5⟩
     apply VR.mk
     go_simp
     with_reducible rfl
    simp only [List.setIfInBounds_toArray, List.set_cons_zero, List.set_cons_succ]
    refine mix_call (by rfl) (by rfl) (by rfl) (ER.go (by go_simp; with_reducible exact ⟨rfl, rfl⟩)) ?_
    refine (words_nil (rd_T37 es 0) E3 d3 W0 (Kd.C_below rg.out IW.base) rl).mono ?_
    rintro e V2 ⟨rfl, b2⟩
    have I2 := IW.below b2
    have m2 := mW.belowS b2
    have q2 := below_then qW qW.size b2
    have c2 : V2.cell? ⟨G.m, 0, none⟩ = some (.slice none 0 0) := I2.rep.head.cell 0
    refine .inl ⟨_, rfl, ⟨c2, m2.cell 3, pwcb I2.base r0, pwcb I2.base r1, pwcb I2.base r2, pwcb I2.base r3⟩, ?_⟩
    simp only [List.setIfInBounds_toArray, List.set_cons_zero, List.set_cons_succ]
    refine mix_h (by rfl) (by rfl) (by rfl) ?_
    apply Exists.intro
    apply And.intro
    ·rintro w' ⟨k0, k1, k2, k3, k4, k5⟩
     apply VR.mk
     go_simp
     with_reducible rfl
    simp only [List.setIfInBounds_toArray, List.set_cons_zero, List.set_cons_succ]
    refine mix_h (by rfl) (by rfl) (by rfl) ?_
    apply Exists.intro
    apply And.intro
    ·rintro w' ⟨k0, k1, k2, k3, k4, k5⟩
     apply VR.mk
     go_simp
     with_reducible rfl
    simp only [List.setIfInBounds_toArray, List.set_cons_zero, List.set_cons_succ]
    refine mix_h (by rfl) (by rfl) (by rfl) ?_
    apply Exists.intro
    apply And.intro
    ·rintro w' ⟨k0, k1, k2, k3, k4, k5⟩
     apply VR.mk
     go_simp
     with_reducible rfl
    simp only [List.setIfInBounds_toArray, List.set_cons_zero, List.set_cons_succ]
    refine mix_h (by rfl) (by rfl) (by rfl) ?_
    apply Exists.intro
    apply And.intro
    ·rintro w' ⟨k0, k1, k2, k3, k4, k5⟩
     apply VR.mk
     go_simp
     with_reducible rfl
    simp only [List.setIfInBounds_toArray, List.set_cons_zero, List.set_cons_succ]
    refine mix_h (by rfl) (by rfl) (by rfl) ?_
    apply Exists.intro
    apply And.intro
    ·rintro w' ⟨k0, k1, k2, k3, k4, k5⟩
     apply VR.mk
     go_simp
     with_reducible rfl
    simp only [List.setIfInBounds_toArray, List.set_cons_zero, List.set_cons_succ]
    refine mix_nil ?_
    have z2 := m2.cell 2
    simp only [List.getElem?_toArray, List.getElem?_cons_zero, List.getElem?_cons_succ] at z2
    have HI := Aside0.mk I2
    have HM := Aside0.mk m2
    have HK := Aside0.mk (Kept.of_below (S := S) q2)
    clear IW mW qW cW I2 m2 q2 c2 b2
    obtain ⟨sz, hsz⟩ : ∃ z, (tyWordsP (rd_T37 es 0)).1 = z := ⟨_, rfl⟩
    rw [hsz] at HP
    have HL : Aside0 (dloopP (dropP (rd_T37 es 0)) a sz (n - 0).toNat 0 st = dloopP (dropP (rd_T37 es 0)) a sz n.toNat 0 st) := ⟨by rw [Int.sub_zero]⟩
    generalize dloopP (dropP (rd_T37 es 0)) a sz n.toNat 0 st = R at *
    rw [hsz]
    clear hsz
    go_wp2
    go_loopw [54] (fun v54 wr => ∃ (i : Int) (st' : St), v54 = .int .i64 i ∧ 0 ≤ i ∧ (i ≤ n ∨ i = 0) ∧ Aside0 (dloopP (dropP (rd_T37 es 0)) a sz (n - i).toNat i st' = R) ∧ Aside0 (In G S L F st' wr) ∧ Aside0 (Has wr tb #[.int .i64 10, .string s, .int .i64 n, .slice (some ad) es.length c3] 37) ∧ Aside0 (Kept S w wr)) (fun v54 _ => (n - intOf v54).toNat)
    case atStart => exact ⟨0, st, rfl, by omega, by omega, HL, HI, HM, HK⟩
    case round =>
     clear HL HI HM HK
     obtain ⟨i, st', rfl, hi0, hin, HL, HI, HM, HK⟩ := hrel
     have z3 := HM.out.cell 3
     simp only [List.getElem?_toArray, List.getElem?_cons_zero, List.getElem?_cons_succ] at z3
     have y4 := pwcb HI.out.base r0
     have y5 := pwcb HI.out.base r1
     have y6 := pwcb HI.out.base r2
     have y7 := pwcb HI.out.base r3
     have HD := Aside0.mk (HIH.out hpos)
     unfold DropOK at HD
     by_cases hlt : i < n
     ·have hd : decide (i < n) = true := decide_eq_true hlt
      have hstep := HL.out
      rw [show (n - i).toNat = (n - (i + 1)).toNat + 1 by omega] at hstep
      unfold dloopP at hstep
      cases hr : dropP (rd_T37 es 0) st' (wrap64 (a + wrap64 (wrap64 (4 * sz) * i))) with
      | halt k' c' st2 =>
       rw [hr] at hstep
       have HS := Aside0.mk (HP.out.trans hstep.symm)
       have HR := Aside0.mk hr
       clear hr hstep
       go_wp2_with (go_at_call 120; (with_reducible refine (HD.out G S L F st' wr (wrap64 (a + wrap64 (wrap64 (4 * sz) * i))) E3 d3 HI.out rg.out rl (wrap64_le _)).mono ?_); intro e w3 hp; rw [HR.out] at hp; obtain ⟨K, ⟨ch, rfl, hc⟩, x', Rp⟩ := hp)
       exact ⟨rfl, ResPost.halt_ch HS.out hc (HK.out.then_ K) Rp⟩
      | ok st2 =>
       rw [hr] at hstep
       have HL' := Aside0.mk hstep
       have HR := Aside0.mk hr
       clear hr hstep
       go_wp2_with (go_at_call 120; (with_reducible refine (HD.out G S L F st' wr (wrap64 (a + wrap64 (wrap64 (4 * sz) * i))) E3 d3 HI.out rg.out rl (wrap64_le _)).mono ?_); intro e w3 hp; rw [HR.out] at hp; obtain ⟨K, rfl, I3⟩ := hp; have HI3 := Aside0.mk I3; have HM3 := Aside0.mk (K.has HM.out HNS.out); have HK3 := Aside0.mk (HK.out.then_ K); clear I3 K)
       exact ⟨⟨i + 1, st2, rfl, by omega, by omega, HL', HI3, HM3, HK3⟩, by simp [intOf]; omega⟩
     ·have hd : decide (i < n) = false := decide_eq_false hlt
      have hR := HL.out
      rw [show (n - i).toNat = 0 by omega] at hR
      have HS := Aside0.mk (HP.out.trans hR.symm)
      clear hR z3 y4 y5 y6 y7
      go_wp2
      refine bodyPost_end (results_none rfl _ _ _) rfl ?_
      exact ResPost.ok_ HS.out HK.out HI.out
  have d10 : decide (k = 10) = false := decide_eq_false k10
  have HP := Aside0.mk (show dropP ⟨k, s, n, es⟩ st a = .ok st by unfold dropP; rw [if_neg HNC.out, if_neg k11, if_neg k10])
  by_cases k9 : k = 9
  ·subst k9
   have cm := Aside0.mk (show V1.cell? ⟨G.m, 0, none⟩ = some (.slice none 0 0) from II.out.rep.head.cell 0)
   clear d11 d10
   go_wp2_with (go_at_call 137; with_reducible refine (parts_nil G.m 9 s n (.slice A3 es.length c3) a V1 cm.out).mono ?_; rintro e w2 ⟨rfl, hb⟩)
   refine bodyPost_end (results_none rfl _ _ _) rfl ?_
   exact ResPost.ok_ HP.out ((Kept.of_below QQ.out).below hb) (II.out.below hb)
  ·have d9 : decide (k = 9) = false := decide_eq_false k9
   go_wp2
   refine bodyPost_end (results_none rfl _ _ _) rfl ?_
   exact ResPost.ok_ HP.out (Kept.of_below QQ.out) II.out
theorem drop_ok : ∀ t : S37, tyOk t → DropOK t
 | ⟨k, s, n, []⟩ => fun h => drop_step k s n [] h.1 (fun h => absurd h (Nat.lt_irrefl 0))
 | ⟨k, s, n, e :: r⟩ => fun h => drop_step k s n (e :: r) h.1 (fun _ => drop_ok e h.2)
def idropP (st : St) (F : Fr) (s : S40) : Res :=
 match plP st F s.f4 with
 | none => .halt 4 0 st
 | some a => dropP s.f8 st a
set_option maxRecDepth 100000 in
set_option maxHeartbeats 8000000 in
theorem instr_drop {G : Glob} {S : Nat → Prop} {L : Lay} {F : Fr} {st : St} {w : World} (I : In G S L F st w) {p : Addr} {s : S40} {A7 A9 A15 A16 A17 : Option Addr} {c7 c9 c15 c16 c17 : Nat} (H : IA w p s A7 c7 A9 c9 A15 c15 A16 c16 A17 c17) (hop : s.f0 = 9) (hp : PlIn F s.f4) (h37 : k37.C G.w0 A15 s.f8.f3.length s.f8.f3) (ht : tyOk s.f8) :
  Calls Try.prog 103 #[.pointer (some ⟨G.m, 0, none⟩), .pointer (some p)] w (BigPost G S F ((idropP st F s).big F.held) w) := by
 have II := Aside0.mk I
 have HH := Aside0.mk H
 have h0 := H.h0
 rw [hop] at h0
 have h6 := H.h6
 have h7 := H.h7
 have h12 := H.h12
 have h13 := H.h13
 have h14 := H.h14
 have h15 := H.h15
 have HT := Aside0.mk h37
 have HY := Aside0.mk ht
 clear h37 ht
 cases hv : plP st F s.f4 with
 | none =>
  have HR := Aside0.mk (show (idropP st F s).big F.held = .halt 4 0 st by unfold idropP; rw [hv]; rfl)
  obtain ⟨W, hW⟩ : ∃ W, w.drew = W := ⟨_, rfl⟩
  have bW : Below w.heap.size w W := hW ▸ below_drew (Below.refl _ _)
  have IW := Aside0.mk (II.out.below bW)
  have HW := Aside0.mk hW
  have BW := Aside0.mk bW
  have q6 := pwcb BW.out h6
  have q7 := pwcb BW.out h7
  have q12 := pwcb BW.out h12
  have q13 := pwcb BW.out h13
  have q14 := pwcb BW.out h14
  have q15 := pwcb BW.out h15
  have HP4 := Aside0.mk hv
  clear hv
  have HG7 := Aside0.mk (Kd.C_below HH.out.g7 BW.out)
  clear I H hop hW bW h6 h7 h12 h13 h14 h15
  go_enter Try.func103, Try.ntmps103
  go_wp2
  refine region_doomed (fun w' => w'.cell? ⟨p.block, p.off + 6, none⟩ = some (.int .i64 s.f4.f0) ∧ w'.cell? ⟨p.block, p.off + 7, none⟩ = some (.slice A7 s.f4.f1.length c7) ∧ w'.cell? ⟨p.block, p.off + 12, none⟩ = some (.int .i64 s.f8.f0) ∧ w'.cell? ⟨p.block, p.off + 13, none⟩ = some (.string s.f8.f1) ∧ w'.cell? ⟨p.block, p.off + 14, none⟩ = some (.int .i64 s.f8.f2) ∧ w'.cell? ⟨p.block, p.off + 15, none⟩ = some (.slice A15 s.f8.f3.length c15) ∧ Aside0 (Below W.heap.size W w'))
   (fun ch w' => ch = [{ v := .iface 95 (.agg #[.int .i64 4, .int .i64 0]), recovered := false }] ∧ Below W.heap.size W w') 10 [0, 1, 2, 3, 4, 5, 6, 7, 8, 9] (by kernel_rfl) (by kernel_rfl) (by kernel_rfl) (by rw [HW.out]; exact ⟨q6, q7, q12, q13, q14, q15, ⟨Below.refl _ _⟩⟩) ?_ ?_
  ·rintro ch a w' hdf ⟨rfl, hb⟩
   exact ⟨hdf, BigPost.halt_ HR.out (below_then BW.out BW.out.size hb) (IW.out.rep.below hb)⟩
  ·skip
   repeat (
    refine walk_ex (by rfl) (by rfl) (by rfl) ?_
    apply Exists.intro
    apply And.intro
    ·rintro w' ⟨k1, k2, k3, k4, k5, k6, kb⟩
     apply calm_value
     go_simp
     with_reducible rfl
    simp only [List.setIfInBounds_toArray, List.set_cons_zero, List.set_cons_succ])
   refine walk_doom (by rfl) (by rfl) ?_
   rintro w' ⟨k1, k2, k3, k4, k5, k6, kb⟩
   apply doom_call
   ·go_simp
    with_reducible exact ⟨rfl, rfl⟩
   ·refine (place_bad (IW.out.below kb.out) s.f4 A7 c7 hp (Kd.C_below HG7.out kb.out) HH.out.l7 HP4.out).mono ?_
    rintro e w2 ⟨rfl, hb⟩
    exact ⟨_, rfl, rfl, below_then kb.out kb.out.size hb⟩
 | some a =>
  have hres : idropP st F s = dropP s.f8 st a := by unfold idropP; rw [hv]
  rw [hres]
  have HP4 := Aside0.mk hv
  have HLA := Aside0.mk (plP_le I hv)
  obtain ⟨W, hW⟩ : ∃ W, w.drew = W := ⟨_, rfl⟩
  have bW : Below w.heap.size w W := hW ▸ below_drew (Below.refl _ _)
  have IW := Aside0.mk (II.out.below bW)
  have HW := Aside0.mk hW
  have BW := Aside0.mk bW
  have q6 := pwcb BW.out h6
  have q7 := pwcb BW.out h7
  have q12 := pwcb BW.out h12
  have q13 := pwcb BW.out h13
  have q14 := pwcb BW.out h14
  have q15 := pwcb BW.out h15
  have HG7 := Aside0.mk (Kd.C_below HH.out.g7 BW.out)
  clear hv hres
  clear I H hop hW bW h6 h7 h12 h13 h14 h15
  go_enter Try.func103, Try.ntmps103
  go_wp2
  refine region_last (fun w' => w'.cell? ⟨p.block, p.off + 6, none⟩ = some (.int .i64 s.f4.f0) ∧ w'.cell? ⟨p.block, p.off + 7, none⟩ = some (.slice A7 s.f4.f1.length c7) ∧ w'.cell? ⟨p.block, p.off + 12, none⟩ = some (.int .i64 s.f8.f0) ∧ w'.cell? ⟨p.block, p.off + 13, none⟩ = some (.string s.f8.f1) ∧ w'.cell? ⟨p.block, p.off + 14, none⟩ = some (.int .i64 s.f8.f2) ∧ w'.cell? ⟨p.block, p.off + 15, none⟩ = some (.slice A15 s.f8.f3.length c15) ∧ Aside0 (Below W.heap.size W w')) 11 (by kernel_rfl) (by kernel_rfl) (by kernel_rfl) (by rw [HW.out]; exact ⟨q6, q7, q12, q13, q14, q15, ⟨Below.refl _ _⟩⟩) ?_
  simp only [List.range_succ, List.range_zero, List.nil_append, List.cons_append, List.singleton_append]
  repeat (
   refine walk_ex (by rfl) (by rfl) (by rfl) ?_
   apply Exists.intro
   apply And.intro
   ·rintro w' ⟨k1, k2, k3, k4, k5, k6, kb⟩
    apply calm_value
    go_simp
    with_reducible rfl
   simp only [List.setIfInBounds_toArray, List.set_cons_zero, List.set_cons_succ])
  refine walk_ex (by rfl) (by rfl) (by rfl) ?_
  apply Exists.intro
  apply And.intro
  ·rintro w' ⟨k1, k2, k3, k4, k5, k6, kb⟩
   apply calm_call
   ·go_simp
    with_reducible exact ⟨rfl, rfl⟩
   ·refine (place_ok (IW.out.below kb.out) s.f4 A7 c7 hp (Kd.C_below HG7.out kb.out) HH.out.l7 HP4.out).mono ?_
    rintro e w2 ⟨rfl, hb⟩
    exact .inl ⟨rfl, ⟨pwcb hb k1, pwcb hb k2, pwcb hb k3, pwcb hb k4, pwcb hb k5, pwcb hb k6, ⟨below_then kb.out kb.out.size hb⟩⟩⟩
  simp only [List.setIfInBounds_toArray, List.set_cons_zero, List.set_cons_succ]
  repeat (
   refine walk_ex (by rfl) (by rfl) (by rfl) ?_
   apply Exists.intro
   apply And.intro
   ·rintro w' ⟨k1, k2, k3, k4, k5, k6, kb⟩
    apply calm_value
    go_simp
    with_reducible rfl
   simp only [List.setIfInBounds_toArray, List.set_cons_zero, List.set_cons_succ])
  refine walk_fin (by rfl) (by rfl) ?_
  rintro w' ⟨k1, k2, k3, k4, k5, k6, kb⟩ hdf
  have KB := kb
  clear k1 k2 k3 k4 k5 k6 kb
  go_wp2_with (go_at_call 120; refine (drop_ok s.f8 HY.out G S L F st _ a A15 c15 (IW.out.below KB.out) HT.out HH.out.l15 HLA.out).mono ?_; intro e w2 hp; have HP := Aside0.mk (BigPost.of_res (ResPost.trans (Kept.of_below (below_then BW.out BW.out.size KB.out)) hp)); clear hp)
  all_goals first | exact bodyPost_end (results_none rfl _ _ _) rfl (BigPost.norm HP.out) | exact ⟨rfl, HP.out⟩ | exact (BigPost.not_out HP.out).elim
def iclearP (st : St) (F : Fr) (s : S40) : Res2 :=
 if F.held.getD s.f1.toNat false = true then (dropP s.f8 st (rd F.at_ s.f1)).big (F.held.set s.f1.toNat false) else .ok st F.held
theorem clearPost {G : Glob} {S : Nat → Prop} {L : Lay} {F : Fr} {r : Res} {r2 : Res2} {held : List Bool} {w w1 w' : World} {e : Ending} (h2 : r2 = r.big held) (K : Kept (fun b => S b ∨ b = F.hb) w w1) (h : ResPost G S L { F with held := held } r w1 e w') : BigPost G S F r2 w e w' := by
 subst h2
 have K2 : Kept (fun b => S b ∨ b = F.hb) w w' := K.then_ (h.1.mono fun _ x => .inl x)
 cases r with
 | ok st => exact ⟨K2, h.2.1, S, L, fun _ x => .inl x, h.2.2⟩
 | halt k c st => obtain ⟨_, hc, x', R⟩ := h; exact ⟨K2, hc, S, L, x', fun _ x => .inl x, R⟩
set_option maxRecDepth 100000 in
set_option maxHeartbeats 8000000 in
theorem instr_clear {G : Glob} {S : Nat → Prop} {L : Lay} {F : Fr} {st : St} {w : World} (I : In G S L F st w) {p : Addr} {s : S40} {A7 A9 A15 A16 A17 : Option Addr} {c7 c9 c15 c16 c17 : Nat} (H : IA w p s A7 c7 A9 c9 A15 c15 A16 c16 A17 c17) (hop : s.f0 = 12) (H0 : IA G.w0 p s A7 c7 A9 c9 A15 c15 A16 c16 A17 c17) (d0 : 0 ≤ s.f1) (d1 : s.f1 < F.held.length) (d2 : s.f1 < F.at_.length) (ht : tyOk s.f8) :
  Calls Try.prog 103 #[.pointer (some ⟨G.m, 0, none⟩), .pointer (some p)] w (BigPost G S F (iclearP st F s) w) := by
 have II := Aside0.mk I
 have HH := Aside0.mk H
 have h0 := H.h0
 rw [hop] at h0
 have h1 := H.h1
 have HY := Aside0.mk ht
 have HH0 := Aside0.mk H0
 clear ht
 obtain ⟨W, hW⟩ : ∃ W, w.drew = W := ⟨_, rfl⟩
 have bW : Below w.heap.size w W := hW ▸ below_drew (Below.refl _ _)
 have IW := Aside0.mk (II.out.below bW)
 have c11 := IW.out.c11
 have f3 := IW.out.f3
 have hc : W.cell? ⟨F.hb, s.f1.toNat, none⟩ = some (.bool (F.held.getD s.f1.toNat false)) := by rw [IW.out.fr.held.cell, heldA_get _ _ (by omega)]
 have q1 := pwcb bW h1
 have BW := Aside0.mk bW
 have HW := Aside0.mk hW
 clear I H hop bW hW h1 H0
 cases hh : F.held.getD s.f1.toNat false with
 | false =>
  rw [hh] at hc
  have HR := Aside0.mk (show iclearP st F s = .ok st F.held by unfold iclearP; rw [hh, if_neg (by decide)])
  clear hh
  go_enter Try.func103, Try.ntmps103
  go_wp2
  refine region_calm (fun w' => w'.cell? ⟨p.block, p.off + 1, none⟩ = some (.int .i64 s.f1) ∧ w'.cell? ⟨G.m, 11, none⟩ = some (.pointer (some ⟨F.xb, 0, none⟩)) ∧ w'.cell? ⟨F.xb, 3, none⟩ = some (.slice (some ⟨F.hb, 0, none⟩) F.held.length F.held.length) ∧ w'.cell? ⟨F.hb, s.f1.toNat, none⟩ = some (.bool false) ∧ Aside0 (Below W.heap.size W w'))
   (fun _ _ => False) (by kernel_rfl) (by kernel_rfl) (by kernel_rfl) (by rw [HW.out]; exact ⟨q1, c11, f3, hc, ⟨Below.refl _ _⟩⟩) (fun _ _ _ _ h => h.elim) ?_
  simp only [List.length_cons, List.length_nil, Nat.reduceAdd, List.range_succ, List.range_zero, List.nil_append, List.cons_append, List.singleton_append]
  repeat (
   refine walk_ex (by rfl) (by rfl) (by rfl) ?_
   apply Exists.intro
   apply And.intro
   ·rintro w' ⟨k1, k2, k3, k4, kb⟩
    apply calm_value
    go_simp
    with_reducible rfl
   simp only [List.setIfInBounds_toArray, List.set_cons_zero, List.set_cons_succ])
  refine walk_nil ?_
  rintro w' ⟨k1, k2, k3, k4, kb⟩
  have IX := Aside0.mk (IW.out.below kb.out)
  have KB := kb
  clear k1 k2 k3 k4 kb c11 f3 hc q1
  go_wp2
  exact bodyPost_end (results_none rfl _ _ _) rfl (BigPost.ok_ (L := L) HR.out ((Kept.of_below (below_then BW.out BW.out.size KB.out)).mono (S := fun _ => False) fun _ x => x.elim) (fun b x => .inl x) IX.out)
 | true =>
  rw [hh] at hc
  have HR := Aside0.mk (show iclearP st F s = (dropP s.f8 st (rd F.at_ s.f1)).big (F.held.set s.f1.toNat false) by unfold iclearP; rw [hh, if_pos rfl])
  clear hh
  go_enter Try.func103, Try.ntmps103
  go_wp2
  refine region_calm (fun w' => w'.cell? ⟨p.block, p.off + 1, none⟩ = some (.int .i64 s.f1) ∧ w'.cell? ⟨G.m, 11, none⟩ = some (.pointer (some ⟨F.xb, 0, none⟩)) ∧ w'.cell? ⟨F.xb, 3, none⟩ = some (.slice (some ⟨F.hb, 0, none⟩) F.held.length F.held.length) ∧ w'.cell? ⟨F.hb, s.f1.toNat, none⟩ = some (.bool true) ∧ Aside0 (Below W.heap.size W w'))
   (fun _ _ => False) (by kernel_rfl) (by kernel_rfl) (by kernel_rfl) (by rw [HW.out]; exact ⟨q1, c11, f3, hc, ⟨Below.refl _ _⟩⟩) (fun _ _ _ _ h => h.elim) ?_
  simp only [List.length_cons, List.length_nil, Nat.reduceAdd, List.range_succ, List.range_zero, List.nil_append, List.cons_append, List.singleton_append]
  repeat (
   refine walk_ex (by rfl) (by rfl) (by rfl) ?_
   apply Exists.intro
   apply And.intro
   ·rintro w' ⟨k1, k2, k3, k4, kb⟩
    apply calm_value
    go_simp
    with_reducible rfl
   simp only [List.setIfInBounds_toArray, List.set_cons_zero, List.set_cons_succ])
  refine walk_nil ?_
  rintro w' ⟨k1, k2, k3, k4, kb⟩
  have IX := Aside0.mk (IW.out.below kb.out)
  have BX := Aside0.mk (below_then BW.out BW.out.size kb.out)
  clear k1 k2 k3 k4 kb c11 f3 hc q1 IW HW BW
  clear W
  go_wp2
  obtain ⟨V, hV⟩ : ∃ V, w'.drew = V := ⟨_, rfl⟩
  have bV : Below w'.heap.size w' V := hV ▸ below_drew (Below.refl _ _)
  have IV := Aside0.mk (IX.out.below bV)
  have BV := Aside0.mk (below_then BX.out BX.out.size bV)
  have HV := Aside0.mk hV
  have c11 := IV.out.c11
  have f3 := IV.out.f3
  have hc : V.cell? ⟨F.hb, s.f1.toNat, none⟩ = some (.bool (F.held.getD s.f1.toNat false)) := by rw [IV.out.fr.held.cell, heldA_get _ _ (by omega)]
  have q1 := pwcb IV.out.base HH0.out.h1
  clear hV bV IX BX
  refine region_last (fun w' => w'.cell? ⟨p.block, p.off + 1, none⟩ = some (.int .i64 s.f1) ∧ w'.cell? ⟨G.m, 11, none⟩ = some (.pointer (some ⟨F.xb, 0, none⟩)) ∧ w'.cell? ⟨F.xb, 3, none⟩ = some (.slice (some ⟨F.hb, 0, none⟩) F.held.length F.held.length) ∧ w'.cell? ⟨F.hb, s.f1.toNat, none⟩ = some (.bool (F.held.getD s.f1.toNat false)) ∧ Aside0 (Below V.heap.size V w')) 12 (by kernel_rfl) (by kernel_rfl) (by kernel_rfl) (by rw [HV.out]; exact ⟨q1, c11, f3, hc, ⟨Below.refl _ _⟩⟩) ?_
  simp only [List.range_succ, List.range_zero, List.nil_append, List.cons_append, List.singleton_append]
  repeat (
   refine walk_ex (by rfl) (by rfl) (by rfl) ?_
   apply Exists.intro
   apply And.intro
   ·rintro w2 ⟨k1, k2, k3, k4, kb⟩
    apply calm_value
    go_simp
    with_reducible rfl
   simp only [List.setIfInBounds_toArray, List.set_cons_zero, List.set_cons_succ])
  refine walk_fin (by rfl) (by rfl) ?_
  rintro w2 ⟨k1, k2, k3, k4, kb⟩ hdf
  have IX := Aside0.mk (IV.out.below kb.out)
  have BX := Aside0.mk (below_then BV.out BV.out.size kb.out)
  have hfz := IX.out.fr.held.frozen s.f1.toNat
  have KX := Aside0.mk (((Kept.of_below BX.out).mono (S := fun _ => False) fun _ x => x.elim).setCell (S := fun b => S b ∨ b = F.hb) (a := ⟨F.hb, s.f1.toNat, none⟩) (.inr rfl) (.bool false))
  have IZ0 := Aside0.mk (IX.out.held s.f1.toNat false)
  clear k1 k2 k3 kb c11 f3 hc q1 IV HV BV BX hdf
  go_wp2
  obtain ⟨Z, hZ⟩ : ∃ Z, (w2.setCell ⟨F.hb, s.f1.toNat, none⟩ (.bool false)).drew = Z := ⟨_, rfl⟩
  have bZ : Below (w2.setCell ⟨F.hb, s.f1.toNat, none⟩ (.bool false)).heap.size (w2.setCell ⟨F.hb, s.f1.toNat, none⟩ (.bool false)) Z := hZ ▸ below_drew (Below.refl _ _)
  have IZ := Aside0.mk (IZ0.out.below bZ)
  have KZ := Aside0.mk (KX.out.below bZ)
  have HZ := Aside0.mk hZ
  have c11 := IZ.out.c11
  have f1 := IZ.out.f1
  obtain ⟨g, cap, hat, hc⟩ := IZ.out.at_cell s.f1 d0 d2
  change F.atv = _ at hat
  have HA := Aside0.mk hat
  change Z.cell? ⟨F.xb, 1, none⟩ = some F.atv at f1
  rw [hat] at f1
  change Z.cell? ⟨g, s.f1.toNat, none⟩ = some (.int .i64 (rd F.at_ s.f1)) at hc
  have q1 := pwcb IZ.out.base HH0.out.h1
  have q12 := pwcb IZ.out.base HH0.out.h12
  have q13 := pwcb IZ.out.base HH0.out.h13
  have q14 := pwcb IZ.out.base HH0.out.h14
  have q15 := pwcb IZ.out.base HH0.out.h15
  have HRD := Aside0.mk (IZ.out.fr.rd_le s.f1)
  clear hZ bZ IX IZ0 KX hat hfz
  refine region_last (fun w' => w'.cell? ⟨p.block, p.off + 1, none⟩ = some (.int .i64 s.f1) ∧ w'.cell? ⟨p.block, p.off + 12, none⟩ = some (.int .i64 s.f8.f0) ∧ w'.cell? ⟨p.block, p.off + 13, none⟩ = some (.string s.f8.f1) ∧ w'.cell? ⟨p.block, p.off + 14, none⟩ = some (.int .i64 s.f8.f2) ∧ w'.cell? ⟨p.block, p.off + 15, none⟩ = some (.slice A15 s.f8.f3.length c15) ∧ w'.cell? ⟨G.m, 11, none⟩ = some (.pointer (some ⟨F.xb, 0, none⟩)) ∧ w'.cell? ⟨F.xb, 1, none⟩ = some (.slice (some ⟨g, 0, none⟩) F.at_.length cap) ∧ w'.cell? ⟨g, s.f1.toNat, none⟩ = some (.int .i64 (rd F.at_ s.f1)) ∧ Aside0 (Below Z.heap.size Z w')) 18 (by kernel_rfl) (by kernel_rfl) (by kernel_rfl) (by rw [HZ.out]; exact ⟨q1, q12, q13, q14, q15, c11, f1, hc, ⟨Below.refl _ _⟩⟩) ?_
  simp only [List.range_succ, List.range_zero, List.nil_append, List.cons_append, List.singleton_append]
  repeat (
   refine walk_ex (by rfl) (by rfl) (by rfl) ?_
   apply Exists.intro
   apply And.intro
   ·rintro w3 ⟨k1, k2, k3, k4, k5, k6, k7, k8, kb⟩
    apply calm_value
    go_simp
    with_reducible rfl
   simp only [List.setIfInBounds_toArray, List.set_cons_zero, List.set_cons_succ])
  refine walk_fin (by rfl) (by rfl) ?_
  rintro w3 ⟨k1, k2, k3, k4, k5, k6, k7, k8, kb⟩ hdf
  have KB := kb
  clear k1 k2 k3 k4 k5 k6 k7 k8 kb c11 f1 hc q1 q12 q13 q14 q15
  go_wp2_with (go_at_call 120; refine (drop_ok s.f8 HY.out G S L { F with held := F.held.set s.f1.toNat false } st _ (rd F.at_ s.f1) A15 c15 (IZ.out.below KB.out) HH0.out.g15 HH0.out.l15 HRD.out).mono ?_; intro e w4 hp; have HP := Aside0.mk (clearPost HR.out (KZ.out.below KB.out) hp); clear hp)
  all_goals first | exact bodyPost_end (results_none rfl _ _ _) rfl (BigPost.norm HP.out) | exact ⟨rfl, HP.out⟩ | exact (BigPost.not_out HP.out).elim
def findL : List S48 → ByteArray → Int → Int
 | [], _, _ => -1
 | f :: r, t, i => if f.f0.toList = t.toList then i else findL r t (i + 1)
def findP (l : List S48) (t : ByteArray) : Int := findL l t 0
theorem find_l (l : List S48) (t : ByteArray) (hl : l.length < 4611686018427387904) : ∀ (k i : Nat), i ≤ l.length → l.length - i < k → PMirFuel.mir_find.l0 k l t (l.length : Int) (i : Int) = some (findL (l.drop i) t i) := by
 intro k
 induction k with
 | zero => intro i _ h; omega
 | succ k ih =>
  intro i hi hk
  unfold PMirFuel.mir_find.l0
  by_cases hlt : i < l.length
  ·rw [if_pos (by omega), if_pos (by omega), if_pos (by omega), List.drop_eq_getElem_cons hlt]
   have e : rd_T48 l (i : Int) = l[i] := by simp [rd_T48, List.getD_eq_getElem?_getD, hlt]
   rw [e]
   show _ = some (if l[i].f0.toList = t.toList then (i : Int) else findL (l.drop (i + 1)) t (i + 1))
   split
   ·rfl
   ·rw [show wrap64 ((i : Int) + 1) = ((i + 1 : Nat) : Int) by unfold wrap64; omega, ih (i + 1) (by omega) (by omega)]
    push_cast
    rfl
  ·rw [if_neg (by omega), List.drop_of_length_le (by omega)]
   rfl
theorem find_f (l : List S48) (t : ByteArray) (hl : l.length < 4611686018427387904) : PMirFuel.mir_find.f (l.length + 1) l t = some (findP l t) := by
 have := find_l l t hl (l.length + 1) 0 (by omega) (by omega)
 simpa [PMirFuel.mir_find.f, findP] using this
theorem findL_bounds (l : List S48) (t : ByteArray) : ∀ i : Int, findL l t i = -1 ∨ (i ≤ findL l t i ∧ findL l t i < i + l.length) := by
 induction l with
 | nil => intro i; exact .inl rfl
 | cons f r ih =>
  intro i
  unfold findL
  split
  ·exact .inr ⟨by omega, by simp; omega⟩
  ·rcases ih (i + 1) with h | h
   ·exact .inl h
   ·exact .inr ⟨by omega, by simp; omega⟩
theorem findP_bounds (l : List S48) (t : ByteArray) : findP l t = -1 ∨ (0 ≤ findP l t ∧ findP l t < l.length) := by
 simpa [findP] using findL_bounds l t 0
def instr0P (st : St) (F : Fr) (s : S40) : Res2 :=
 if s.f0 = 1 then (isetP st F s).big F.held
 else if s.f0 = 2 then (ibinP st F s).big F.held
 else if s.f0 = 3 then (iloadP st F s).big F.held
 else if s.f0 = 4 then (istoreP st F s).big F.held
 else if s.f0 = 5 then (icopyP st F s).big F.held
 else if s.f0 = 6 then (iaddrP st F s).big F.held
 else if s.f0 = 7 then (allocP st F s.f6 s.f1).big F.held
 else if s.f0 = 8 then (ifreeP st F s).big F.held
 else if s.f0 = 10 then igiveP st F s true
 else if s.f0 = 11 then igiveP st F s false
 else if s.f0 = 13 then iprintP st F s
 else if s.f0 = 14 then ireadP st F s
 else if s.f0 = 9 then (idropP st F s).big F.held
 else if s.f0 = 12 then iclearP st F s
 else .halt 4 0 st
def settleP (st : St) (F : Fr) : List Int → List Int → Res
 | _, [] => .ok st
 | [], _ :: _ => .halt 4 0 st
 | d :: ds, v :: vs => match setP st F d v with
  | .ok st' => settleP st' F ds vs
  | .halt k c st' => .halt k c st'
abbrev Runs := St → List Int → List Bool → S48 → ResC
def putP (zs vs : List Int) : List Int := vs.take zs.length ++ zs.drop vs.length
def enterP (st : St) (f : S48) (vs : List Int) : St :=
 { st with stack := st.stack ++ putP (List.replicate (need f.f1) 0) vs, calls := st.calls + 1, depth := if f.f4 = true then st.depth else st.depth + 1 }
def leaveP (n : Nat) (f : S48) (st : St) : St :=
 { st with calls := st.calls - 1, depth := if f.f4 = true then st.depth else st.depth - 1, stack := st.stack.take n }
def callP (X : Runs) (st : St) (held : List Bool) (f : S48) (vs : List Int) : ResC :=
 if 392 ≤ st.calls ∨ (f.f4 = false ∧ 48 ≤ st.depth) then .halt 2 0 st
 else match X (enterP st f vs) (frameAt st.stack.length f.f1) (List.replicate f.f1.length false) f with
  | .ok st' _ out => .ok (leaveP st.stack.length f st') held out
  | .halt k c st' => .halt k c st'
def icallP (X : Runs) (l : List S48) (st : St) (F : Fr) (s : S40) : Res2 :=
 match allP st F s.f9 with
 | none => .halt 4 0 st
 | some vs => match callP X st F.held (rd_T48 l (findP l s.f7)) vs with
  | .ok st' _ out => (settleP st' F s.f10 out).big F.held
  | .halt k c st' => .halt k c st'
def instrP (X : Runs) (l : List S48) (st : St) (F : Fr) (s : S40) : Res2 :=
 if s.f0 = 15 then icallP X l st F s else instr0P st F s
def pf (at_ : List Int) (held : List Bool) : Fr := ⟨0, ⟨0, 0, none⟩, .slice none 0 0, 0, at_, 0, held⟩
inductive ResT where
 | go (b : Int)
 | out (vs : List Int)
 | halt (k c : Int)
def termP (st : St) (F : Fr) (t : S43) : ResT :=
 if t.f0 = 3 then (match allP st F t.f4 with
  | none => .halt 4 0
  | some vs => .out vs)
 else if t.f0 = 4 then .halt 1 101
 else if t.f0 = 2 then (match operandP st F t.f1 with
  | none => .halt 4 0
  | some v => .go (if v = 0 then t.f3 else t.f2))
 else .go t.f2
def tick (st : St) : St := { st with steps := st.steps + 1 }
def exec (l : List S48) : Nat → St → List Int → List Bool → S48 → Int → Nat → ResC
 | 0, st, _, _, _, _, _ => .halt 0 0 st
 | n + 1, st, at_, held, f, b, i =>
  if st.fuel ≤ st.steps then .halt 0 0 st
  else if i < (rd_T45 f.f5 b).f0.length then
   (match instrP (fun st at_ held f => exec l n st at_ held f 0 0) l (tick st) (pf at_ held) (rd_T40 (rd_T45 f.f5 b).f0 (i : Int)) with
    | .ok st' held' => exec l n st' at_ held' f b (i + 1)
    | .halt k c st' => .halt k c st')
  else (match termP (tick st) (pf at_ held) (rd_T45 f.f5 b).f1 with
   | .go b' => exec l n (tick st) at_ held f b' 0
   | .out vs => .ok (tick st) held vs
   | .halt k c => .halt k c (tick st))
theorem operandP_pf (st : St) (F : Fr) (o : S30) : operandP st (pf F.at_ F.held) o = operandP st F o := rfl
theorem setP_pf (st : St) (F : Fr) (d v : Int) : setP st (pf F.at_ F.held) d v = setP st F d v := rfl
theorem stepP_pf (st : St) (F : Fr) (a : Int) (s : S57) : stepP st (pf F.at_ F.held) a s = stepP st F a s := rfl
theorem placeP_pf (st : St) (F : Fr) (xs : List S57) : ∀ a, placeP st (pf F.at_ F.held) a xs = placeP st F a xs := by
 induction xs with
 | nil => intro a; rfl
 | cons x r ih =>
  intro a
  show (stepP st (pf F.at_ F.held) a x).bind (fun a' => placeP st (pf F.at_ F.held) a' r) = (stepP st F a x).bind (fun a' => placeP st F a' r)
  rw [stepP_pf]
  congr 1
  funext a'
  exact ih a'
theorem plP_pf (st : St) (F : Fr) (p : S34) : plP st (pf F.at_ F.held) p = plP st F p := placeP_pf st F _ _
theorem allP_pf (st : St) (F : Fr) (xs : List S30) : allP st (pf F.at_ F.held) xs = allP st F xs := by
 induction xs with
 | nil => rfl
 | cons x r ih => simp only [allP, ih, operandP_pf]
theorem settleP_pf (F : Fr) (vs : List Int) : ∀ (ds : List Int) (st : St), settleP st (pf F.at_ F.held) ds vs = settleP st F ds vs := by
 induction vs with
 | nil => intro ds st; cases ds <;> rfl
 | cons v r ih =>
  intro ds st
  cases ds with
  | nil => rfl
  | cons d ds =>
   simp only [settleP, setP_pf, ih]
theorem instr0P_pf (st : St) (F : Fr) (s : S40) : instr0P st (pf F.at_ F.held) s = instr0P st F s := by
 simp only [instr0P, isetP, ibinP, iloadP, istoreP, icopyP, iaddrP, allocP, ifreeP, igiveP, iprintP, ireadP, idropP, iclearP, operandP_pf, setP_pf, plP_pf]
 rfl
theorem instrP_pf (X : Runs) (l : List S48) (st : St) (F : Fr) (s : S40) : instrP X l st (pf F.at_ F.held) s = instrP X l st F s := by
 simp only [instrP, icallP, instr0P_pf, allP_pf, settleP_pf]
 rfl
theorem termP_pf (st : St) (F : Fr) (t : S43) : termP st (pf F.at_ F.held) t = termP st F t := by
 simp only [termP, allP_pf, operandP_pf]
def up (d : Int) (st : St) : St := { st with fuel := st.fuel + d }
def Res.up (d : Int) : Res → Res
 | .ok st => .ok (Mach.up d st)
 | .halt k c st => .halt k c (Mach.up d st)
def Res2.up (d : Int) : Res2 → Res2
 | .ok st h => .ok (Mach.up d st) h
 | .halt k c st => .halt k c (Mach.up d st)
def Res.st : Res → St
 | .ok st => st
 | .halt _ _ st => st
def Res2.st : Res2 → St
 | .ok st _ => st
 | .halt _ _ st => st
def ResC.st : ResC → St
 | .ok st _ _ => st
 | .halt _ _ st => st
theorem locate_up (d : Int) (st : St) : locate (up d st) = locate st := rfl
theorem rdL_up (d : Int) (st : St) : rdL (up d st) = rdL st := by funext l; cases l <;> rfl
theorem wrL_up (d : Int) (st : St) (l : Loc) (v : Int) : wrL (up d st) l v = up d (wrL st l v) := by cases l <;> rfl
theorem operandP_up (d : Int) (st : St) (F : Fr) (o : S30) : operandP (up d st) F o = operandP st F o := by
 unfold operandP; rw [locate_up, rdL_up]
theorem setP_up (d : Int) (st : St) (F : Fr) (x v : Int) : setP (up d st) F x v = (setP st F x v).up d := by
 unfold setP; rw [locate_up]
 cases locate st (rd F.at_ x) with
 | none => rfl
 | some l => exact congrArg Res.ok (wrL_up d st l v)
theorem stepP_up (d : Int) (st : St) (F : Fr) (a : Int) (s : S57) : stepP (up d st) F a s = stepP st F a s := by
 unfold stepP; simp only [locate_up, rdL_up]
theorem placeP_up (d : Int) (st : St) (F : Fr) : ∀ (xs : List S57) (a : Int), placeP (up d st) F a xs = placeP st F a xs
 | [], _ => rfl
 | s :: r, a => by
  unfold placeP
  rw [stepP_up]
  exact congrArg _ (funext fun b => placeP_up d st F r b)
theorem plP_up (d : Int) (st : St) (F : Fr) (p : S34) : plP (up d st) F p = plP st F p := placeP_up d st F _ _
theorem allP_up (d : Int) (st : St) (F : Fr) : ∀ xs : List S30, allP (up d st) F xs = allP st F xs
 | [] => rfl
 | o :: r => by
  unfold allP
  rw [operandP_up, allP_up d st F r]
theorem readP_up (d : Int) (st : St) (a : Int) : ∀ (m i : Nat), readP (up d st) a m i = readP st a m i
 | 0, _ => rfl
 | m + 1, i => by
  unfold readP
  rw [locate_up, rdL_up, readP_up d st a m (i + 1)]
theorem writeP_up (d : Int) (a : Int) : ∀ (vs : List Int) (st : St) (i : Nat), writeP (up d st) a vs i = (writeP st a vs i).up d
 | [], _, _ => rfl
 | v :: r, st, i => by
  unfold writeP
  rw [locate_up]
  cases locate st (wrap64 (a + 4 * (i : Int))) with
  | none => rfl
  | some l => simp only [wrL_up]; exact writeP_up d a r _ _
theorem settleP_up (d : Int) (F : Fr) : ∀ (vs ds : List Int) (st : St), settleP (up d st) F ds vs = (settleP st F ds vs).up d
 | [], ds, st => by cases ds <;> rfl
 | v :: r, [], st => rfl
 | v :: r, x :: ds, st => by
  unfold settleP
  rw [setP_up]
  cases setP st F x v with
  | ok st' => exact settleP_up d F r ds st'
  | halt k c st' => rfl
theorem freeP_up (d : Int) (st : St) (a : Int) : freeP (up d st) a = (freeP st a).up d := by
 unfold freeP
 show (match hfree st.used a with | some us => _ | none => _) = _
 cases hfree st.used a <;> rfl
theorem dloopP_up (d : Int) {f : St → Int → Res} (hf : ∀ st a, f (up d st) a = (f st a).up d) (a sz : Int) : ∀ (m : Nat) (i : Int) (st : St), dloopP f a sz m i (up d st) = (dloopP f a sz m i st).up d
 | 0, _, _ => rfl
 | m + 1, i, st => by
  unfold dloopP
  rw [hf]
  cases f st (wrap64 (a + wrap64 (wrap64 (4 * sz) * i))) with
  | ok st' => exact dloopP_up d hf a sz m _ _
  | halt k c st' => rfl
theorem dropP_up (d : Int) : ∀ (t : S37) (st : St) (a : Int), dropP t (up d st) a = (dropP t st a).up d
 | ⟨k, s, n, []⟩, st, a => by
  unfold dropP
  rw [locate_up]
  by_cases h1 : tyCopyP ⟨k, s, n, []⟩ = true
  ·rw [if_pos h1, if_pos h1]; rfl
  rw [if_neg h1, if_neg h1]
  by_cases h2 : k = 11
  ·rw [if_pos h2, if_pos h2]
   cases locate st a <;> rfl
  rw [if_neg h2, if_neg h2]
  by_cases h3 : k = 10
  ·rw [if_pos h3, if_pos h3]; rfl
  rw [if_neg h3, if_neg h3]; rfl
 | ⟨k, s, n, e :: r⟩, st, a => by
  unfold dropP
  rw [locate_up]
  by_cases h1 : tyCopyP ⟨k, s, n, e :: r⟩ = true
  ·rw [if_pos h1, if_pos h1]; rfl
  rw [if_neg h1, if_neg h1]
  by_cases h2 : k = 11
  ·rw [if_pos h2, if_pos h2]
   cases locate st a with
   | none => rfl
   | some l =>
    simp only [rdL_up]
    rw [dropP_up d e st (rdL st l)]
    cases dropP e st (rdL st l) with
    | ok st' => exact freeP_up d st' _
    | halt k c st' => rfl
  rw [if_neg h2, if_neg h2]
  by_cases h3 : k = 10
  ·rw [if_pos h3, if_pos h3]
   exact dloopP_up d (fun st a => dropP_up d e st a) _ _ _ _ _
  rw [if_neg h3, if_neg h3]; rfl
theorem big_up (d : Int) (r : Res) (h : List Bool) : (r.up d).big h = (r.big h).up d := by cases r <;> rfl
theorem isetP_up (d : Int) (st : St) (F : Fr) (s : S40) : isetP (up d st) F s = (isetP st F s).up d := by
 unfold isetP; rw [operandP_up]
 cases operandP st F s.f2 with
 | none => rfl
 | some v => exact setP_up _ _ _ _ _
theorem ibinP_up (d : Int) (st : St) (F : Fr) (s : S40) : ibinP (up d st) F s = (ibinP st F s).up d := by
 unfold ibinP; rw [operandP_up, operandP_up]
 cases operandP st F s.f2 with
 | none => rfl
 | some v => cases operandP st F s.f3 with
  | none => rfl
  | some u => exact setP_up _ _ _ _ _
theorem iloadP_up (d : Int) (st : St) (F : Fr) (s : S40) : iloadP (up d st) F s = (iloadP st F s).up d := by
 unfold iloadP; rw [plP_up, locate_up, rdL_up]
 cases plP st F s.f4 with
 | none => rfl
 | some v => simp only; cases locate st v with
  | none => rfl
  | some u => exact setP_up _ _ _ _ _
theorem istoreP_up (d : Int) (st : St) (F : Fr) (s : S40) : istoreP (up d st) F s = (istoreP st F s).up d := by
 unfold istoreP; rw [plP_up, locate_up, operandP_up]
 cases plP st F s.f4 with
 | none => rfl
 | some v => simp only; cases locate st v with
  | none => rfl
  | some u => simp only; cases operandP st F s.f2 with
   | none => rfl
   | some z => exact congrArg Res.ok (wrL_up d st u z)
theorem icopyP_up (d : Int) (st : St) (F : Fr) (s : S40) : icopyP (up d st) F s = (icopyP st F s).up d := by
 unfold icopyP; rw [plP_up, plP_up]
 cases plP st F s.f4 with
 | none => rfl
 | some v => simp only; cases plP st F s.f5 with
  | none => rfl
  | some u =>
   simp only
   unfold copyP; rw [readP_up]
   cases readP st u s.f6.toNat 0 with
   | none => rfl
   | some l => exact writeP_up _ _ _ _ _
theorem iaddrP_up (d : Int) (st : St) (F : Fr) (s : S40) : iaddrP (up d st) F s = (iaddrP st F s).up d := by
 unfold iaddrP; rw [plP_up]
 cases plP st F s.f4 with
 | none => rfl
 | some v => exact setP_up _ _ _ _ _
theorem allocP_up (d : Int) (st : St) (F : Fr) (n x : Int) : allocP (up d st) F n x = (allocP st F n x).up d := by
 unfold allocP
 show (match firstFree st.used (clsOf n) with | none => _ | some i => _) = _
 cases firstFree st.used (clsOf n) with
 | none => rfl
 | some i => exact setP_up d { st with used := setUsed st.used (clsOf n) i true } F x _
theorem ifreeP_up (d : Int) (st : St) (F : Fr) (s : S40) : ifreeP (up d st) F s = (ifreeP st F s).up d := by
 unfold ifreeP; rw [operandP_up]
 cases operandP st F s.f2 with
 | none => rfl
 | some v => exact freeP_up _ _ _
theorem iprintP_up (d : Int) (st : St) (F : Fr) (s : S40) : iprintP (up d st) F s = (iprintP st F s).up d := by
 unfold iprintP; rw [operandP_up]
 cases operandP st F s.f2 <;> rfl
theorem ireadP_up (d : Int) (st : St) (F : Fr) (s : S40) : ireadP (up d st) F s = (ireadP st F s).up d := by
 unfold ireadP
 show (match st.input with | [] => _ | n :: r => _) = _
 cases st.input with
 | nil => simp only [setP_up, big_up]
 | cons n r =>
  have e := setP_up d { st with input := r } F s.f1 (w32 n)
  simp only
  rw [← big_up, ← e]; rfl
theorem idropP_up (d : Int) (st : St) (F : Fr) (s : S40) : idropP (up d st) F s = (idropP st F s).up d := by
 unfold idropP; rw [plP_up]
 cases plP st F s.f4 with
 | none => rfl
 | some v => exact dropP_up _ _ _ _
theorem iclearP_up (d : Int) (st : St) (F : Fr) (s : S40) : iclearP (up d st) F s = (iclearP st F s).up d := by
 unfold iclearP
 by_cases h : F.held.getD s.f1.toNat false = true
 ·rw [if_pos h, if_pos h, dropP_up, big_up]
 ·rw [if_neg h, if_neg h]; rfl
theorem igiveP_up (d : Int) (st : St) (F : Fr) (s : S40) (b : Bool) : igiveP (up d st) F s b = (igiveP st F s b).up d := rfl
theorem halt_up (d : Int) (k c : Int) (st : St) : Res2.halt k c (up d st) = (Res2.halt k c st).up d := rfl
theorem instr0P_up (d : Int) (st : St) (F : Fr) (s : S40) : instr0P (up d st) F s = (instr0P st F s).up d := by
 unfold instr0P
 simp only [isetP_up, ibinP_up, iloadP_up, istoreP_up, icopyP_up, iaddrP_up, allocP_up, ifreeP_up, igiveP_up, iprintP_up, ireadP_up, idropP_up, iclearP_up, big_up, halt_up, apply_ite (Res2.up d)]
theorem termP_up (d : Int) (st : St) (F : Fr) (t : S43) : termP (up d st) F t = termP st F t := by
 unfold termP; rw [allP_up, operandP_up]
structure E0 (st st' : St) : Prop where
 fuel : st'.fuel = st.fuel
 steps : st'.steps = st.steps
 print : st'.print = st.print
theorem E0.refl (st : St) : E0 st st := ⟨rfl, rfl, rfl⟩
theorem E0.trans {a b c : St} (h : E0 a b) (k : E0 b c) : E0 a c := ⟨k.1.trans h.1, k.2.trans h.2, k.3.trans h.3⟩
theorem wrL_e0 (st : St) (l : Loc) (v : Int) : E0 st (wrL st l v) := by cases l <;> exact ⟨rfl, rfl, rfl⟩
theorem setP_e0 (st : St) (F : Fr) (x v : Int) : E0 st (setP st F x v).st := by
 unfold setP
 cases locate st (rd F.at_ x) with
 | none => exact .refl _
 | some l => exact wrL_e0 _ _ _
theorem writeP_e0 (a : Int) : ∀ (vs : List Int) (st : St) (i : Nat), E0 st (writeP st a vs i).st
 | [], _, _ => .refl _
 | v :: r, st, i => by
  unfold writeP
  cases locate st (wrap64 (a + 4 * (i : Int))) with
  | none => exact .refl _
  | some l => exact (wrL_e0 st l v).trans (writeP_e0 a r _ _)
theorem settleP_e0 (F : Fr) : ∀ (vs ds : List Int) (st : St), E0 st (settleP st F ds vs).st
 | [], ds, st => by cases ds <;> exact .refl _
 | v :: r, [], st => .refl _
 | v :: r, x :: ds, st => by
  have h := setP_e0 st F x v
  unfold settleP
  cases e : setP st F x v with
  | ok st' => rw [e] at h; exact E0.trans h (settleP_e0 F r ds st')
  | halt k c st' => rw [e] at h; exact h
theorem freeP_e0 (st : St) (a : Int) : E0 st (freeP st a).st := by
 unfold freeP; cases hfree st.used a <;> exact ⟨rfl, rfl, rfl⟩
theorem dloopP_e0 {f : St → Int → Res} (hf : ∀ st a, E0 st (f st a).st) (a sz : Int) : ∀ (m : Nat) (i : Int) (st : St), E0 st (dloopP f a sz m i st).st
 | 0, _, _ => .refl _
 | m + 1, i, st => by
  have h := hf st (wrap64 (a + wrap64 (wrap64 (4 * sz) * i)))
  unfold dloopP
  cases e : f st (wrap64 (a + wrap64 (wrap64 (4 * sz) * i))) with
  | ok st' => rw [e] at h; exact E0.trans h (dloopP_e0 hf a sz m _ _)
  | halt k c st' => rw [e] at h; exact h
theorem dropP_e0 : ∀ (t : S37) (st : St) (a : Int), E0 st (dropP t st a).st
 | ⟨k, s, n, []⟩, st, a => by
  unfold dropP
  by_cases h1 : tyCopyP ⟨k, s, n, []⟩ = true
  ·rw [if_pos h1]; exact .refl _
  rw [if_neg h1]
  by_cases h2 : k = 11
  ·rw [if_pos h2]
   cases locate st a <;> exact .refl _
  rw [if_neg h2]
  by_cases h3 : k = 10
  ·rw [if_pos h3]; exact .refl _
  rw [if_neg h3]; exact .refl _
 | ⟨k, s, n, e :: r⟩, st, a => by
  unfold dropP
  split
  ·exact .refl _
  ·split
   ·split
    ·exact .refl _
    ·rename_i l _
     have h := dropP_e0 e st (rdL st l)
     simp only
     cases e1 : dropP e st (rdL st l) with
     | ok st' => rw [e1] at h; exact E0.trans h (freeP_e0 _ _)
     | halt k c st' => rw [e1] at h; exact h
   ·split
    ·exact dloopP_e0 (fun st a => dropP_e0 e st a) _ _ _ _ _
    ·exact .refl _
structure Ex (st st' : St) : Prop where
 fuel : st'.fuel = st.fuel
 steps : st.steps ≤ st.fuel → st'.steps ≤ st.fuel
 print : st.print <+: st'.print
theorem Ex.refl (st : St) : Ex st st := ⟨rfl, id, List.prefix_refl _⟩
theorem Ex.trans {a b c : St} (h : Ex a b) (k : Ex b c) : Ex a c :=
 ⟨k.fuel.trans h.fuel, fun x => h.fuel ▸ k.steps (h.fuel.symm ▸ h.steps x), h.print.trans k.print⟩
theorem E0.ex {a b : St} (h : E0 a b) : Ex a b := ⟨h.fuel, fun x => h.steps.symm ▸ x, h.print ▸ List.prefix_refl _⟩
theorem big_st (r : Res) (h : List Bool) : (r.big h).st = r.st := by cases r <;> rfl
theorem ex_ite {st : St} {c : Prop} [Decidable c] {a b : Res2} (h1 : Ex st a.st) (h2 : Ex st b.st) : Ex st (if c then a else b).st := by
 by_cases h : c
 ·rw [if_pos h]; exact h1
 ·rw [if_neg h]; exact h2
theorem ex_big {st : St} {r : Res} {h : List Bool} (k : E0 st r.st) : Ex st (r.big h).st := by rw [big_st]; exact k.ex
theorem instr0P_ex (st : St) (F : Fr) (s : S40) : Ex st (instr0P st F s).st := by
 unfold instr0P
 repeat' apply ex_ite
 ·refine ex_big ?_
  unfold isetP; split
  ·exact .refl _
  ·exact setP_e0 _ _ _ _
 ·refine ex_big ?_
  unfold ibinP; repeat' split
  all_goals first | exact .refl _ | exact setP_e0 _ _ _ _
 ·refine ex_big ?_
  unfold iloadP; repeat' split
  all_goals first | exact .refl _ | exact setP_e0 _ _ _ _
 ·refine ex_big ?_
  unfold istoreP; repeat' split
  all_goals first | exact .refl _ | exact wrL_e0 _ _ _
 ·refine ex_big ?_
  unfold icopyP copyP; repeat' split
  all_goals first | exact .refl _ | exact writeP_e0 _ _ _ _
 ·refine ex_big ?_
  unfold iaddrP; split
  ·exact .refl _
  ·exact setP_e0 _ _ _ _
 ·refine ex_big ?_
  unfold allocP; split
  ·exact .refl _
  ·refine E0.trans ?_ (setP_e0 _ _ _ _)
   exact ⟨rfl, rfl, rfl⟩
 ·refine ex_big ?_
  unfold ifreeP; split
  ·exact .refl _
  ·exact freeP_e0 _ _
 ·exact .refl _
 ·exact .refl _
 ·unfold iprintP; split
  ·exact .refl _
  ·exact ⟨rfl, id, List.prefix_append _ _⟩
 ·unfold ireadP; split
  ·exact ex_big (setP_e0 _ _ _ _)
  ·refine ex_big (E0.trans ?_ (setP_e0 _ _ _ _))
   exact ⟨rfl, rfl, rfl⟩
 ·refine ex_big ?_
  unfold idropP; split
  ·exact .refl _
  ·exact dropP_e0 _ _ _
 ·exact ex_big (dropP_e0 _ _ _)
 ·exact .refl _
 ·exact .refl _
theorem callP_ex {X : Runs} (hX : ∀ st at_ held f, Ex st (X st at_ held f).st) (st : St) (held : List Bool) (f : S48) (vs : List Int) : Ex st (callP X st held f vs).st := by
 unfold callP
 split
 ·exact .refl _
 ·have h := hX (enterP st f vs) (frameAt st.stack.length f.f1) (List.replicate f.f1.length false) f
  cases e : X (enterP st f vs) (frameAt st.stack.length f.f1) (List.replicate f.f1.length false) f with
  | ok st' h' o => rw [e] at h; exact ⟨h.fuel, h.steps, h.print⟩
  | halt k c st' => rw [e] at h; exact ⟨h.fuel, h.steps, h.print⟩
theorem icallP_ex {X : Runs} (hX : ∀ st at_ held f, Ex st (X st at_ held f).st) (l : List S48) (st : St) (F : Fr) (s : S40) : Ex st (icallP X l st F s).st := by
 unfold icallP
 split
 ·exact .refl _
 ·rename_i vs _
  have h := callP_ex hX st F.held (rd_T48 l (findP l s.f7)) vs
  cases e : callP X st F.held (rd_T48 l (findP l s.f7)) vs with
  | ok st' h' o =>
   rw [e] at h
   exact Ex.trans h (ex_big (settleP_e0 _ _ _ _))
  | halt k c st' => rw [e] at h; exact h
theorem instrP_ex {X : Runs} (hX : ∀ st at_ held f, Ex st (X st at_ held f).st) (l : List S48) (st : St) (F : Fr) (s : S40) : Ex st (instrP X l st F s).st := by
 unfold instrP
 exact ex_ite (icallP_ex hX l st F s) (instr0P_ex st F s)
theorem tick_ex {st : St} (h : ¬ st.fuel ≤ st.steps) : Ex st (tick st) := ⟨rfl, fun _ => by simp only [tick]; omega, List.prefix_refl _⟩
theorem exec_ex (l : List S48) : ∀ (n : Nat) (st : St) (at_ : List Int) (held : List Bool) (f : S48) (b : Int) (i : Nat), Ex st (exec l n st at_ held f b i).st
 | 0, _, _, _, _, _, _ => .refl _
 | n + 1, st, at_, held, f, b, i => by
  unfold exec
  by_cases h0 : st.fuel ≤ st.steps
  ·rw [if_pos h0]; exact .refl _
  rw [if_neg h0]
  by_cases h1 : i < (rd_T45 f.f5 b).f0.length
  ·rw [if_pos h1]
   have h := instrP_ex (X := fun st at_ held f => exec l n st at_ held f 0 0) (fun st at_ held f => exec_ex l n st at_ held f 0 0) l (tick st) (pf at_ held) (rd_T40 (rd_T45 f.f5 b).f0 (i : Int))
   cases e : instrP (fun st at_ held f => exec l n st at_ held f 0 0) l (tick st) (pf at_ held) (rd_T40 (rd_T45 f.f5 b).f0 (i : Int)) with
   | ok st' h' => rw [e] at h; exact (tick_ex h0).trans (Ex.trans h (exec_ex l n _ _ _ _ _ _))
   | halt k c st' => rw [e] at h; exact (tick_ex h0).trans h
  ·rw [if_neg h1]
   cases termP (tick st) (pf at_ held) (rd_T45 f.f5 b).f1 with
   | go b' => exact (tick_ex h0).trans (exec_ex l n _ _ _ _ _ _)
   | out vs => exact tick_ex h0
   | halt k c => exact tick_ex h0
structure Rel (d : Int) (R R' : ResC) : Prop where
 ok : ∀ st h o, R = .ok st h o → R' = .ok (up d st) h o
 halt : ∀ k c st, R = .halt k c st → k ≠ 0 → R' = .halt k c (up d st)
 pr : R.st.print <+: R'.st.print
structure Rel2 (d : Int) (R R' : Res2) : Prop where
 ok : ∀ st h, R = .ok st h → R' = .ok (up d st) h
 halt : ∀ k c st, R = .halt k c st → k ≠ 0 → R' = .halt k c (up d st)
 pr : R.st.print <+: R'.st.print
theorem Rel2.of_up (d : Int) (r : Res2) : Rel2 d r (r.up d) := by
 refine ⟨fun st h e => by rw [e]; rfl, fun k c st e _ => by rw [e]; rfl, ?_⟩
 cases r <;> exact List.prefix_refl _
theorem Rel.same_ok (d : Int) (st : St) (h : List Bool) (o : List Int) : Rel d (.ok st h o) (.ok (up d st) h o) :=
 ⟨fun st' h' o' e => by injection e with e1 e2 e3; subst e1 e2 e3; rfl, fun _ _ _ e => (nomatch e), List.prefix_refl _⟩
theorem Rel.same_halt (d : Int) (k c : Int) (st : St) : Rel d (.halt k c st) (.halt k c (up d st)) :=
 ⟨fun _ _ _ e => (nomatch e), fun k' c' st' e _ => by injection e with e1 e2 e3; subst e1 e2 e3; rfl, List.prefix_refl _⟩
theorem callP_rel {d : Int} {X X' : Runs} (hX : ∀ st at_ held f, Rel d (X st at_ held f) (X' (up d st) at_ held f)) (st : St) (held : List Bool) (f : S48) (vs : List Int) :
  Rel d (callP X st held f vs) (callP X' (up d st) held f vs) := by
 unfold callP
 show Rel d _ (if 392 ≤ st.calls ∨ (f.f4 = false ∧ 48 ≤ st.depth) then _ else _)
 by_cases hc : 392 ≤ st.calls ∨ (f.f4 = false ∧ 48 ≤ st.depth)
 ·rw [if_pos hc, if_pos hc]; exact .same_halt _ _ _ _
 rw [if_neg hc, if_neg hc]
 have h : Rel d (X (enterP st f vs) (frameAt st.stack.length f.f1) (List.replicate f.f1.length false) f) (X' (enterP (up d st) f vs) (frameAt (up d st).stack.length f.f1) (List.replicate f.f1.length false) f) := hX _ _ _ _
 revert h
 generalize X (enterP st f vs) (frameAt st.stack.length f.f1) (List.replicate f.f1.length false) f = R
 generalize X' (enterP (up d st) f vs) (frameAt (up d st).stack.length f.f1) (List.replicate f.f1.length false) f = R'
 intro h
 cases R with
 | ok st1 h1 o1 => rw [h.ok _ _ _ rfl]; exact .same_ok _ _ _ _
 | halt k c st1 =>
  refine ⟨fun _ _ _ e => (nomatch e), fun k' c' st' e hk => ?_, ?_⟩
  ·injection e with e1 e2 e3; subst e1 e2 e3; rw [h.halt _ _ _ rfl hk]
  ·have := h.pr
   cases R' <;> exact this
theorem icallP_rel {d : Int} {X X' : Runs} (hX : ∀ st at_ held f, Rel d (X st at_ held f) (X' (up d st) at_ held f)) (l : List S48) (st : St) (F : Fr) (s : S40) :
  Rel2 d (icallP X l st F s) (icallP X' l (up d st) F s) := by
 unfold icallP
 rw [allP_up]
 cases allP st F s.f9 with
 | none => exact .of_up d (.halt 4 0 st)
 | some vs =>
  have h := callP_rel hX st F.held (rd_T48 l (findP l s.f7)) vs
  simp only
  revert h
  generalize callP X st F.held (rd_T48 l (findP l s.f7)) vs = R
  generalize callP X' (up d st) F.held (rd_T48 l (findP l s.f7)) vs = R'
  intro h
  cases R with
  | ok st1 h1 o1 =>
   rw [h.ok _ _ _ rfl]
   simp only [settleP_up, big_up]
   exact .of_up _ _
  | halt k c st1 =>
   refine ⟨fun _ _ e => (nomatch e), fun k' c' st' e hk => ?_, ?_⟩
   ·injection e with e1 e2 e3; subst e1 e2 e3; rw [h.halt _ _ _ rfl hk]
   ·have hp := h.pr
    cases R' with
    | ok st2 h2 o2 => exact hp.trans (ex_big (h := F.held) (settleP_e0 F o2 s.f10 st2)).print
    | halt k2 c2 st2 => exact hp
theorem instrP_rel {d : Int} {X X' : Runs} (hX : ∀ st at_ held f, Rel d (X st at_ held f) (X' (up d st) at_ held f)) (l : List S48) (st : St) (F : Fr) (s : S40) :
  Rel2 d (instrP X l st F s) (instrP X' l (up d st) F s) := by
 unfold instrP
 by_cases h : s.f0 = 15
 ·rw [if_pos h, if_pos h]; exact icallP_rel hX l st F s
 ·rw [if_neg h, if_neg h, instr0P_up]; exact .of_up _ _
theorem exec_rel (l : List S48) {d : Int} (hd : 0 ≤ d) : ∀ (n m : Nat), n ≤ m → ∀ (st : St) (at_ : List Int) (held : List Bool) (f : S48) (b : Int) (i : Nat),
  Rel d (exec l n st at_ held f b i) (exec l m (up d st) at_ held f b i)
 | 0, m, _, st, at_, held, f, b, i =>
  ⟨fun _ _ _ e => (nomatch e), fun k c st' e hk => by injection e with e1 e2 e3; exact absurd e1.symm hk, (exec_ex l m (up d st) at_ held f b i).print⟩
 | n + 1, m, hnm, st, at_, held, f, b, i => by
  by_cases h0 : st.fuel ≤ st.steps
  ·have e : exec l (n + 1) st at_ held f b i = .halt 0 0 st := by unfold exec; rw [if_pos h0]
   rw [e]
   exact ⟨fun _ _ _ e => (nomatch e), fun k c st' e hk => by injection e with e1 e2 e3; exact absurd e1.symm hk, (exec_ex l m (up d st) at_ held f b i).print⟩
  obtain ⟨m, rfl⟩ : ∃ m', m = m' + 1 := ⟨m - 1, by omega⟩
  have h0' : ¬ (up d st).fuel ≤ (up d st).steps := by show ¬ st.fuel + d ≤ st.steps; omega
  unfold exec
  rw [if_neg h0, if_neg h0']
  by_cases h1 : i < (rd_T45 f.f5 b).f0.length
  ·rw [if_pos h1, if_pos h1]
   have h : Rel2 d (instrP (fun st at_ held f => exec l n st at_ held f 0 0) l (tick st) (pf at_ held) (rd_T40 (rd_T45 f.f5 b).f0 (i : Int))) (instrP (fun st at_ held f => exec l m st at_ held f 0 0) l (tick (up d st)) (pf at_ held) (rd_T40 (rd_T45 f.f5 b).f0 (i : Int))) :=
    instrP_rel (fun st at_ held f => exec_rel l hd n m (by omega) st at_ held f 0 0) l (tick st) (pf at_ held) _
   revert h
   generalize instrP (fun st at_ held f => exec l n st at_ held f 0 0) l (tick st) (pf at_ held) (rd_T40 (rd_T45 f.f5 b).f0 (i : Int)) = R
   generalize instrP (fun st at_ held f => exec l m st at_ held f 0 0) l (tick (up d st)) (pf at_ held) (rd_T40 (rd_T45 f.f5 b).f0 (i : Int)) = R'
   intro h
   cases R with
   | ok st1 h1 =>
    rw [h.ok _ _ rfl]
    exact exec_rel l hd n m (by omega) _ _ _ _ _ _
   | halt k c st1 =>
    refine ⟨fun _ _ _ e => (nomatch e), fun k' c' st' e hk => ?_, ?_⟩
    ·injection e with e1 e2 e3; subst e1 e2 e3; rw [h.halt _ _ _ rfl hk]
    ·have hp := h.pr
     cases R' with
     | ok st2 h2 => exact hp.trans (exec_ex l m _ _ _ _ _ _).print
     | halt k2 c2 st2 => exact hp
  ·rw [if_neg h1, if_neg h1]
   have e : termP (tick (up d st)) (pf at_ held) (rd_T45 f.f5 b).f1 = termP (tick st) (pf at_ held) (rd_T45 f.f5 b).f1 := termP_up d (tick st) _ _
   rw [e]
   cases termP (tick st) (pf at_ held) (rd_T45 f.f5 b).f1 with
   | go b' => exact exec_rel l hd n m (by omega) (tick st) _ _ _ _ _
   | out vs => exact .same_ok d (tick st) _ _
   | halt k c => exact .same_halt d k c (tick st)
structure Pm (c : Int) (st st' : St) : Prop where
 le : (st'.print.length : Int) - st.print.length ≤ st'.steps - st.steps + c
theorem Pm.trans {c d : Int} {x y z : St} (h : Pm c x y) (k : Pm d y z) : Pm (c + d) x z := ⟨by have := h.le; have := k.le; omega⟩
theorem E0.pm {a b : St} (h : E0 a b) : Pm 0 a b := by have h2 := h.steps; have h3 := h.print; exact ⟨by rw [h2, h3]; omega⟩
theorem Pm.one {a b : St} (h : Pm 0 a b) : Pm 1 a b := ⟨by have := h.le; omega⟩
theorem pm_ite {st : St} {c : Prop} [Decidable c] {a b : Res2} (h1 : Pm 1 st a.st) (h2 : Pm 1 st b.st) : Pm 1 st (if c then a else b).st := by
 by_cases h : c
 ·rw [if_pos h]; exact h1
 ·rw [if_neg h]; exact h2
theorem pm_of {st : St} {r : Res2} (h : r.st.steps = st.steps) (h2 : (r.st.print.length : Int) ≤ st.print.length + 1) : Pm 1 st r.st := ⟨by omega⟩
theorem instr0P_steps (st : St) (F : Fr) (s : S40) : Pm 1 st (instr0P st F s).st := by
 have e0 : ∀ {r : Res} {h : List Bool}, E0 st r.st → Pm 1 st (r.big h).st := fun k => by rw [big_st]; exact k.pm.one
 have rr : Pm 1 st st := (E0.refl st).pm.one
 unfold instr0P
 repeat' apply pm_ite
 ·refine e0 ?_
  unfold isetP; split
  ·exact .refl _
  ·exact setP_e0 _ _ _ _
 ·refine e0 ?_
  unfold ibinP; repeat' split
  all_goals first | exact .refl _ | exact setP_e0 _ _ _ _
 ·refine e0 ?_
  unfold iloadP; repeat' split
  all_goals first | exact .refl _ | exact setP_e0 _ _ _ _
 ·refine e0 ?_
  unfold istoreP; repeat' split
  all_goals first | exact .refl _ | exact wrL_e0 _ _ _
 ·refine e0 ?_
  unfold icopyP copyP; repeat' split
  all_goals first | exact .refl _ | exact writeP_e0 _ _ _ _
 ·refine e0 ?_
  unfold iaddrP; split
  ·exact .refl _
  ·exact setP_e0 _ _ _ _
 ·refine e0 ?_
  unfold allocP; split
  ·exact .refl _
  ·refine E0.trans ?_ (setP_e0 _ _ _ _)
   exact ⟨rfl, rfl, rfl⟩
 ·refine e0 ?_
  unfold ifreeP; split
  ·exact .refl _
  ·exact freeP_e0 _ _
 ·exact rr
 ·exact rr
 ·unfold iprintP; split
  ·exact rr
  ·exact pm_of rfl (by simp [Res2.st])
 ·unfold ireadP; split
  ·exact e0 (setP_e0 _ _ _ _)
  ·refine e0 (E0.trans ?_ (setP_e0 _ _ _ _))
   exact ⟨rfl, rfl, rfl⟩
 ·refine e0 ?_
  unfold idropP; split
  ·exact .refl _
  ·exact dropP_e0 _ _ _
 ·exact e0 (dropP_e0 _ _ _)
 ·exact rr
 ·exact rr
theorem callP_pm {X : Runs} (hX : ∀ st at_ held f, Pm 0 st (X st at_ held f).st) (st : St) (held : List Bool) (f : S48) (vs : List Int) : Pm 0 st (callP X st held f vs).st := by
 unfold callP
 split
 ·exact (E0.refl _).pm
 ·have h := hX (enterP st f vs) (frameAt st.stack.length f.f1) (List.replicate f.f1.length false) f
  cases e : X (enterP st f vs) (frameAt st.stack.length f.f1) (List.replicate f.f1.length false) f with
  | ok st' h' o => rw [e] at h; exact ⟨h.le⟩
  | halt k c st' => rw [e] at h; exact ⟨h.le⟩
theorem instrP_pm {X : Runs} (hX : ∀ st at_ held f, Pm 0 st (X st at_ held f).st) (l : List S48) (st : St) (F : Fr) (s : S40) : Pm 1 st (instrP X l st F s).st := by
 unfold instrP
 refine pm_ite ?_ (instr0P_steps st F s)
 unfold icallP
 split
 ·exact (E0.refl _).pm.one
 ·rename_i vs _
  have h := callP_pm hX st F.held (rd_T48 l (findP l s.f7)) vs
  cases e : callP X st F.held (rd_T48 l (findP l s.f7)) vs with
  | ok st' h' o =>
   rw [e] at h
   have h2 := (settleP_e0 F o s.f10 st').pm
   simp only [big_st]
   have h3 : Pm 0 st st' := h
   exact Pm.one (h3.trans h2)
  | halt k c st' => rw [e] at h; exact Pm.one h
theorem exec_pm (l : List S48) : ∀ (n : Nat) (st : St) (at_ : List Int) (held : List Bool) (f : S48) (b : Int) (i : Nat), Pm 0 st (exec l n st at_ held f b i).st
 | 0, _, _, _, _, _, _ => (E0.refl _).pm
 | n + 1, st, at_, held, f, b, i => by
  have tk : ∀ {s2 : St}, Pm 1 (tick st) s2 → Pm 0 st s2 := fun h => ⟨by have := h.le; simp only [tick] at this; omega⟩
  have tk0 : Pm 1 (tick st) (tick st) := (E0.refl _).pm.one
  unfold exec
  by_cases h0 : st.fuel ≤ st.steps
  ·rw [if_pos h0]; exact (E0.refl _).pm
  rw [if_neg h0]
  by_cases h1 : i < (rd_T45 f.f5 b).f0.length
  ·rw [if_pos h1]
   have h := instrP_pm (X := fun st at_ held f => exec l n st at_ held f 0 0) (fun st at_ held f => exec_pm l n st at_ held f 0 0) l (tick st) (pf at_ held) (rd_T40 (rd_T45 f.f5 b).f0 (i : Int))
   cases e : instrP (fun st at_ held f => exec l n st at_ held f 0 0) l (tick st) (pf at_ held) (rd_T40 (rd_T45 f.f5 b).f0 (i : Int)) with
   | ok st' h' =>
    rw [e] at h
    have h2 := exec_pm l n st' at_ h' f b (i + 1)
    have h3 := tk h
    have h4 : Pm 0 st st' := h3
    exact h4.trans h2
   | halt k c st' => rw [e] at h; exact tk h
  ·rw [if_neg h1]
   cases termP (tick st) (pf at_ held) (rd_T45 f.f5 b).f1 with
   | go b' =>
    have h2 := exec_pm l n (tick st) at_ held f b' 0
    have h3 := tk tk0
    exact h3.trans h2
   | out vs => exact tk tk0
   | halt k c => exact tk tk0
end Go.Proofs.Ytpphpcmbpbppoaa.Mach
end
section
namespace Go.Proofs.Ytpphpcmbpbppoaa.Mach
open Go.RowKit Go.Proofs.YtpphpcmbpbppoaaW.PrintWords Go.Proofs.YtpphpcmbpbppoaaW.PrintLast Go.Proofs.YtpphpcmbpbppoaaW.PrintMore
open Go.Proofs.Ytpphpcmbpbppoaa.Calm
open Go.Proofs.Ytpphpcmbpbppoaa.PMirFuel (S30 S57 S34 S37 S40 S43 S45 S48 k30 k57 k34 k37 k40 k43 k45 k48 rd_T30 rd_T57 rd_T34 rd_T37 rd_T40 rd_T43 rd_T45 rd_T48 at_T30 at_T57 at_T34 at_T40 at_T45 at_T48)
set_option linter.unusedVariables false
set_option linter.unusedSimpArgs false
theorem num_zeros {ops : Array Oper} {rest : List Oper} {o : Oper} {a : Act} {Q : Exit → Act → World → Prop} {W : World} (hgd : o.guard = none) (s x : Operand)
  (ho : o.op = .call { callee := .builtin .append, args := #[s, x], argTypes := #[23, 3] }) (v : Value) (xs : List Int) (n : Int) (hs : a.eval s = v) (hx : a.eval x = .int .i64 n)
  (HO : W.ownsRow 0 3 1 v xs.length (nums .i64 xs)) (h0 : 0 ≤ n) (hl : (xs.length + n.toNat) * 8 ≤ 140737488355328)
  (h : ∀ v1 w1, w1.ownsRow 0 3 1 v1 (xs ++ List.replicate n.toNat 0).length (nums .i64 (xs ++ List.replicate n.toNat 0)) → W.grownBy w1 v.ownBlock → (v1.ownBlock = v.ownBlock ∨ ∃ b, v1.ownBlock = some b ∧ W.heap.size ≤ b) → wpList Try.prog ops Q rest (a.put o.dst v1) w1) :
  wpList Try.prog ops Q (o :: rest) a W :=
 Kd.R_append_zeros (Kd.int .i64) (w0 := W) 0 hgd s x 23 3 3 (.int .i64 0) 8 ho Try.underlying23 Try.underlying3 info3 rfl (by decide) (by decide) v xs 0 n (fun _ => True) hs hx rfl (fun _ _ => trivial)
  (Kd.R_of_own HO (fun _ _ => trivial)) h0 (Below.refl 0 W) (Nat.zero_le _) hl
  (fun v1 w1 hr _ hg hat => h v1 w1 (Kd.own_of_R hr) hg hat)
theorem info3x : ∃ i, Try.prog.info? 3 = some i ∧ i.zero = some (.int .i64 0) ∧ i.size = 1 ∧ i.bytes = 8 := by
 obtain ⟨i, hi, h⟩ := Option.map_eq_some_iff.1 info3
 simp only [Prod.mk.injEq] at h
 exact ⟨i, hi, h.1, h.2.1, h.2.2⟩
theorem Making.after {G : Glob} {S : Nat → Prop} {F F2 : Fr} {st : St} {w W w1 : World} (M : Making G S F F2 st w W) {v : Value} (hc : W.cell? ⟨G.m, 6, none⟩ = some v) (hg : W.grownBy w1 F2.atv.ownBlock) :
  w1.cell? ⟨F2.xb, 1, none⟩ = some F2.atv ∧ w1.frozen? ⟨F2.xb, 1, none⟩ = false ∧ w1.cell? ⟨G.m, 6, none⟩ = some v := by
 have nt : ∀ {b : Nat} {cs : Array Value} {t : TypeId}, Has W b cs t → t ≠ 3 → F2.atv.ownBlock ≠ some b := fun hb ht e => by
  obtain ⟨cur, hc⟩ := Rep.has_own M.fr.row e
  exact hb.ne hc ht rfl
 have hx := M.fr.head.of_block (grown_new hg _ M.fr.head.lt (nt M.fr.head (by decide)))
 refine ⟨by rw [hx.cell]; rfl, hx.frozen 1, ?_⟩
 obtain ⟨S', L', I, hs, a1, a2, a3⟩ := M.inn
 rw [← hc]
 exact World.cell?_of_block (grown_new hg _ I.rep.head.lt (fun e => a3 _ e I.rep.ownM))
theorem made_held (n : Nat) : madeCells #[Value.bool false] n = heldA (List.replicate n false) := by
 apply Array.ext
 ·simp [size_madeCells, heldA]
 ·intro i h1 h2
  simp [madeCells, heldA, Nat.mod_one]
theorem Making.start {G : Glob} {S : Nat → Prop} {L : Lay} {F : Fr} {st : St} {w : World} (I : In G S L F st w) (q : Addr) (n : Nat) :
  Making G S F ⟨w.heap.size + 1, q, .slice none 0 0, w.heap.size, [], st.stack.length, List.replicate n false⟩ { st with stack := st.stack ++ List.replicate 0 0 } w
   (((w.alloc (Obj.cells (madeCells #[Value.bool false] n) 4)).alloc (Obj.cells #[.pointer (some q), .slice none 0 0, .int .i64 st.stack.length, .slice (some ⟨w.heap.size, 0, none⟩) n n] 135)).drew) := by
 have no : ∀ b, w.heap.size ≤ b → ¬ S b := fun b h hS => by have := I.lt b hS; omega
 refine ⟨⟨S, L, ?_, fun b h => .inl h, no _ (by simp), no _ (by simp), fun b e => by simp [Value.ownBlock] at e⟩, (((Kept.refl S w).alloc _).alloc _).drewN 1, ?_, by simp, by simp, fun b e => by simp [Value.ownBlock] at e⟩
 ·have e0 : ({ st with stack := st.stack ++ List.replicate 0 0 } : St) = st := by simp
  rw [e0]
  exact ((I.alloc (Obj.cells (madeCells #[Value.bool false] n) 4)).alloc (Obj.cells #[.pointer (some q), .slice none 0 0, .int .i64 st.stack.length, .slice (some ⟨w.heap.size, 0, none⟩) n n] 135)).drewN 1
 ·refine ⟨?_, own_nil _ _ _ _, ?_, by simp⟩
  ·have h := Has.new (w.alloc (Obj.cells (madeCells #[Value.bool false] n) 4)) #[.pointer (some q), .slice none 0 0, .int .i64 st.stack.length, .slice (some ⟨w.heap.size, 0, none⟩) n n] 135
   rw [show (w.alloc (Obj.cells (madeCells #[Value.bool false] n) 4)).heap.size = w.heap.size + 1 by simp] at h
   simp only [List.length_replicate]
   exact h.drewN 1
  ·rw [← made_held]
   exact ((Has.new w _ 4).alloc _).drewN 1
theorem Making.base {G : Glob} {S : Nat → Prop} {F F2 : Fr} {st : St} {w W : World} (M : Making G S F F2 st w W) : Below G.w0.heap.size G.w0 W := by
 obtain ⟨S', L', I, _⟩ := M.inn
 exact I.base
theorem int_at {w : World} {A : Option Addr} {xs : List Int} (h : (Kd.int .i64).C w A xs.length xs) (i : Int) (h0 : 0 ≤ i) (h1 : i < xs.length) : ∃ ad, A = some ad ∧ w.cell? (ad.add i.toNat) = some (.int .i64 (rd xs i)) := by
 obtain ⟨ad, c, e, _, hK, hc⟩ := Kd.C_get h 0 i h0 h1
 obtain rfl : c = [.int .i64 (xs.getD i.toNat 0)] := hK
 refine ⟨ad, e, ?_⟩
 have := hc 0 _ rfl
 rw [show i.toNat * (Kd.int .i64).sz + 0 = i.toNat from by show i.toNat * 1 + 0 = i.toNat; omega] at this
 exact this
structure ArgsAt (S : Nat → Prop) (w : World) (av : Value) (vs : List Int) : Prop where
 own : w.ownsRow 0 3 1 av vs.length (nums .i64 vs)
 out : ∀ b, av.ownBlock = some b → ¬ S b
 ok : ∀ v, v ∈ vs → v ≤ 9223372036854775807
theorem ArgsAt.kept {S : Nat → Prop} {w w' : World} {av : Value} {vs : List Int} (H : ArgsAt S w av vs) (K : Kept S w w') : ArgsAt S w' av vs :=
 ⟨Rep.row_of_block H.own (fun b e => K.block b ((Rep.has_own H.own e).elim fun _ h => h.lt) (H.out b e)), H.out, H.ok⟩
theorem putP_nil (zs : List Int) : putP zs [] = zs := by simp [putP]
theorem Making.copied {G : Glob} {S : Nat → Prop} {F F2 : Fr} {st : St} {w W : World} {k : Nat} (M : Making G S F F2 { st with stack := st.stack ++ List.replicate k 0 } w W) {aa : Option Addr} {ca : Nat} {vs : List Int} (V : ArgsAt S W (.slice aa vs.length ca) vs) (hvn : vs.length ≤ k)
  {S' : Nat → Prop} {L' : Lay} (I : In G S' L' F { st with stack := st.stack ++ List.replicate k 0 } W) (hs : ∀ b, S' b → S b ∨ w.heap.size ≤ b) (a1 : ¬ S' F2.xb) (a2 : ¬ S' F2.hb) (a3 : ∀ b, F2.atv.ownBlock = some b → ¬ S' b) {As : Option Addr} {cs : Nat} (hsv : L'.sv = .slice As (st.stack.length + k) cs)
  (dp : Option Addr) (hdp : ∀ g, As = some ⟨g, 0, none⟩ → ¬ cs = st.stack.length → dp = some ⟨g, st.stack.length, none⟩) :
  (nums .i64 vs = [] → Making G S F F2 { st with stack := st.stack ++ putP (List.replicate k 0) vs } w W) ∧
  (∀ v ∈ nums .i64 vs, v.oneCell' = true) ∧
  (nums .i64 vs ≠ [] → ∃ g off ad cur t, dp = some ⟨g, off, none⟩ ∧ aa = some ad ∧ W.heap[g]? = some (.cells cur t (0, 0)) ∧ (∀ j v, (nums .i64 vs)[j]? = some v → W.cell? (ad.add j) = some v) ∧ off + (nums .i64 vs).length ≤ cur.size ∧
   Making G S F F2 { st with stack := st.stack ++ putP (List.replicate k 0) vs } w (W.setRow g (cur.toList.take off ++ (nums .i64 vs ++ cur.toList.drop (off + (nums .i64 vs).length))).toArray)) := by
 refine ⟨fun h => ?_, ?_, fun h => ?_⟩
 ·have : vs = [] := by simpa [nums] using h
  subst this
  rw [putP_nil]
  exact M
 ·intro v hv
  obtain ⟨x, _, rfl⟩ : ∃ x, x ∈ vs ∧ Value.int .i64 x = v := by simpa [nums] using hv
  rfl
 ·have hv0 : vs ≠ [] := fun e => h (by rw [e]; rfl)
  have hvl : 0 < vs.length := List.length_pos_iff.2 hv0
  obtain ⟨As', cs', hsv', hle, hcm, hrow⟩ := own_form I.rep.stk
  have hlk : (st.stack ++ List.replicate k (0 : Int)).length = st.stack.length + k := by simp
  obtain ⟨g, cur, rfl, hg, hsz, htk⟩ := hrow (by show 0 < (st.stack ++ List.replicate k (0 : Int)).length; omega)
  have hsv2 := hsv'
  rw [hsv] at hsv'
  have hle2 : (st.stack ++ List.replicate k (0 : Int)).length ≤ cs' := hle
  rw [hlk] at hle2
  obtain ⟨rfl, rfl⟩ : As = some ⟨g, 0, none⟩ ∧ cs = cs' := by injection hsv' with e1 _ e2; exact ⟨e1, e2⟩
  obtain ⟨ga, rfl, _, hsrc⟩ := own_src V.own rfl hv0
  have hnl : (nums .i64 vs).length = vs.length := by simp [nums]
  refine ⟨g, st.stack.length, _, cur, 3, hdp g rfl (by omega), rfl, hg, hsrc, by rw [hnl, hsz]; omega, ?_⟩
  have hput := own_put (w := W) (vs := vs) hg hle hcm hsz htk st.stack.length (by rw [show ({ st with stack := st.stack ++ List.replicate k 0 } : St).stack.length = st.stack.length + k from hlk]; omega)
  have e1 : (st.stack ++ List.replicate k (0 : Int)).take st.stack.length ++ (vs ++ (st.stack ++ List.replicate k (0 : Int)).drop (st.stack.length + vs.length)) = st.stack ++ putP (List.replicate k 0) vs := by
   rw [List.take_left, List.drop_append]
   simp [putP, List.take_of_length_le hvn]
  have e1' : ({ st with stack := st.stack ++ List.replicate k 0 } : St).stack.take st.stack.length ++ (vs ++ ({ st with stack := st.stack ++ List.replicate k 0 } : St).stack.drop (st.stack.length + vs.length)) = st.stack ++ putP (List.replicate k 0) vs := e1
  rw [e1'] at hput
  have hl2 : (st.stack ++ putP (List.replicate k 0) vs).length = (st.stack ++ List.replicate k (0 : Int)).length := by simp [putP]; omega
  refine M.rowed (xs := st.stack ++ putP (List.replicate k 0) vs) hl2 ?_ I hs a1 a2 a3 ?_ ?_
  ·intro v hv
   rcases List.mem_append.1 hv with h | h
   ·exact I.rep.okS v (List.mem_append_left _ h)
   ·rcases List.mem_append.1 h with h | h
    ·exact V.ok v (List.mem_of_mem_take h)
    ·have := (List.mem_replicate.1 (List.mem_of_mem_drop h)).2; omega
  ·rw [hsv2]; exact grown_setRow _ _ _
  ·rw [hsv2, hl2]; exact hput
structure Left (G : Glob) (S : Nat → Prop) (F2 : Fr) (w w7 : World) (st7 : St) (h7 : List Bool) (out : List Int) (v : Value) (S7 : Nat → Prop) (L7 : Lay) : Prop where
 kept : Kept S w w7
 hs : ∀ b, S7 b → S b ∨ w.heap.size ≤ b
 inn : In G S7 L7 { F2 with held := h7 } st7 w7
 own : w7.ownsRow 0 3 1 v out.length (nums .i64 out)
 ok : ∀ x, x ∈ out → x ≤ 9223372036854775807
 far : ∀ b, v.ownBlock = some b → ¬ S7 b ∧ w.heap.size ≤ b
theorem CPost.left {G : Glob} {S S5 : Nat → Prop} {L : Lay} {F F2 : Fr} {st : St} {w w6 w7 : World} {r : ResC} {e : Ending} (I : In G S L F st w) (K6 : Kept S w w6) (hs5 : ∀ b, S5 b → S b ∨ w.heap.size ≤ b) (n2 : w.heap.size ≤ F2.hb) (lt2 : F2.hb < w6.heap.size) (lt5 : ∀ b, S5 b → b < w6.heap.size)
  (C : CPost G S5 (fun b => b = F2.hb) F2 r w6 e w7) :
  (∃ st7 h7 out v S7 L7, r = .ok st7 h7 out ∧ e = .returned v ∧ Left G S F2 w w7 st7 h7 out v S7 L7) ∨ (∃ k c st7 ch, r = .halt k c st7 ∧ e = .panicked ch ∧ CPost G S (fun _ => False) F (.halt k c st7) w e w7) := by
 have K7 : Kept S w w7 := K6.trans (C.1.mono fun b h => by
  rcases h with h | h
  ·rcases hs5 b h with h2 | h2
   ·exact .inl h2
   ·exact .inr ⟨h2, lt5 b h⟩
  ·subst h; exact .inr ⟨n2, lt2⟩)
 have hs7 : ∀ {S7 : Nat → Prop}, (∀ b, S7 b → S5 b ∨ w6.heap.size ≤ b) → ∀ b, S7 b → S b ∨ w.heap.size ≤ b := fun h b hb => by
  rcases h b hb with h2 | h2
  ·exact hs5 b h2
  ·exact .inr (Nat.le_trans K6.size h2)
 cases r with
 | ok st7 h7 out =>
  obtain ⟨_, v, rfl, ho, hk, S7, L7, h, I7, far⟩ := C
  exact .inl ⟨st7, h7, out, v, S7, L7, rfl, rfl, K7, hs7 h, I7, ho, hk, fun b hb => ⟨(far b hb).1, Nat.le_trans K6.size (far b hb).2⟩⟩
 | halt k c st7 =>
  obtain ⟨_, ⟨ch, rfl, hc⟩, S7, L7, x', h, R⟩ := C
  exact .inr ⟨k, c, st7, ch, rfl, rfl, K7.mono fun b h => .inl h, ⟨ch, rfl, hc⟩, S7, L7, x', hs7 h, R⟩
namespace Left
variable {G : Glob} {S S7 : Nat → Prop} {L L7 : Lay} {F F2 : Fr} {st st7 : St} {w w7 : World} {h7 : List Bool} {out : List Int} {v : Value}
theorem back (H : Left G S F2 w w7 st7 h7 out v S7 L7) (I : In G S L F st w) : In G S7 L7 F st7 (w7.setCell ⟨G.m, 11, none⟩ (.pointer (some ⟨F.xb, 0, none⟩))) := by
 have no : ∀ b, b < w.heap.size → ¬ S b → ¬ S7 b := fun b hb hn h => (H.hs b h).elim hn (fun x => by omega)
 exact H.inn.swap (I.fr.kept H.kept I.o1 I.o2 I.o3) (no _ I.fr.head.lt I.o1) (fun b e => no _ (I.fr.lt_at b e) (I.o2 b e)) (no _ I.fr.held.lt I.o3) I.g3
end Left
theorem addr_at (g n : Nat) : Option.map (fun x : Addr => x.add n) (some ⟨g, 0, none⟩) = some ⟨g, n, none⟩ := by
 by_cases h : n = 0
 ·subst h; rfl
 ·simp [Addr.add, h]
theorem info3s : (Try.prog.info? 3).map (·.size) = some 1 := by kernel_rfl
structure EntersOk (G : Glob) (q : Addr) (f : S48) (st : St) (vs : List Int) (X : Runs) : Prop where
 run : ∀ S' L' F2 w', In G S' L' F2 (enterP st f vs) w' → F2.at_ = frameAt st.stack.length f.f1 → F2.held = List.replicate f.f1.length false → F2.fp = q →
  Calls Try.prog 55 #[.pointer (some ⟨G.m, 0, none⟩), .pointer (some q)] w' (CPost G S' (fun b => b = F2.hb) F2 (X (enterP st f vs) (frameAt st.stack.length f.f1) (List.replicate f.f1.length false) f) w')
 back : ∀ st' h out, X (enterP st f vs) (frameAt st.stack.length f.f1) (List.replicate f.f1.length false) f = .ok st' h out → st'.calls = (enterP st f vs).calls ∧ st'.depth = (enterP st f vs).depth ∧ st'.stack.length = (enterP st f vs).stack.length
set_option maxRecDepth 100000 in
set_option maxHeartbeats 8000000 in
theorem call_quiet {G : Glob} {S : Nat → Prop} {L : Lay} {F : Fr} {st : St} {w : World} (I : In G S L F st w) {q : Addr} {f : S48} {A1 A5 : Option Addr} {c1 c5 : Nat} (M : MA G.w0 q f A1 c1 A5 c5) (hl : f.f1.length < 100000) (hN : st.stack.length + need f.f1 < 1099511627776)
  (h0 : ∀ k, k ∈ f.f1 → 0 ≤ k) {av : Value} {vs : List Int} (V : ArgsAt S w av vs) (hvn : vs.length ≤ need f.f1) (hq : f.f4 = true)
  (h1 : st.calls < 392) (hc0 : 0 ≤ st.calls) (hd0 : 0 ≤ st.depth) {X : Runs} (B : EntersOk G q f st vs X) :
  Calls Try.prog 29 #[.pointer (some ⟨G.m, 0, none⟩), .pointer (some q), av] w (CPost G S (fun _ => False) F (callP X st F.held f vs) w) := by
 obtain ⟨aa, ca, rfl, hca, _⟩ := own_form V.own
 have AV := Aside0.mk V
 have BB := Aside0.mk B
 clear V B
 have c10 := I.rep.c10
 have c9 := I.rep.c9
 have c11 := I.c11
 have c6 := I.rep.c6
 have q1 := pwcb I.base M.h1
 have q4 := pwcb I.base M.h4
 rw [hq] at q4
 obtain ⟨As, cs, hsv, _⟩ := own_reads I.rep.stk
 rw [hsv] at c6
 have d1 : decide (st.calls ≥ 392) = false := by simp; omega
 have d0 : (0 : Int) ≤ f.f1.length := by omega
 have II := Aside0.mk I
 have MM := Aside0.mk M
 have HH0 := Aside0.mk h0
 have hmk := print_make_of (P := Try.prog) 126 4 (.bool false) 1 Try.underlying126 info4 rfl (by omega) f.f1.length (by omega)
 have HF : Aside0 (F.xb < w.heap.size ∧ (∀ b, F.atv.ownBlock = some b → b < w.heap.size) ∧ F.hb < w.heap.size) := ⟨I.fr.head.lt, I.fr.lt_at, I.fr.held.lt⟩
 have HS := Aside0.mk I.base.size
 have HLT := Aside0.mk I.lt
 clear I M h0
 go_enter Try.func29, Try.ntmps29
 go_wp2
 go_region_held_law (fun w' => w'.cell? ⟨G.m, 6, none⟩ = some (.slice As st.stack.length cs) ∧ w'.cell? ⟨q.block, q.off + 1, none⟩ = some (.slice A1 f.f1.length c1)) (go_keep) (fail)
 have MK := Aside0.mk (Making.start II.out q f.f1.length)
 generalize ((w.alloc (Obj.cells (madeCells #[Value.bool false] f.f1.length) 4)).alloc (Obj.cells #[.pointer (some q), .slice none 0 0, .int .i64 st.stack.length, .slice (some ⟨w.heap.size, 0, none⟩) f.f1.length f.f1.length] 135)).drew = W1 at MK ⊢
 have q1' := pwcb MK.out.base MM.out.h1
 go_wp2
 go_loopw [10, 55] (fun _ v wr => ∃ i : Int, v = .int .i64 i ∧ 0 ≤ i ∧ i ≤ f.f1.length ∧ Aside0 (∃ atv, Making G S F ⟨w.heap.size + 1, q, atv, w.heap.size, frameAt st.stack.length (f.f1.take i.toNat), st.stack.length, List.replicate f.f1.length false⟩ { st with stack := st.stack ++ List.replicate (need (f.f1.take i.toNat)) 0 } w wr)) (fun _ v _ => f.f1.length - (intOf v).toNat)
 case atStart => exact ⟨0, rfl, by omega, by omega, ⟨_, MK.out⟩⟩
 case round =>
  obtain ⟨i, rfl, hi0, hi1, atv, MK0⟩ := hrel
  have MKr := Aside0.mk MK0
  clear MK0
  by_cases hlt : i < f.f1.length
  ·obtain ⟨S', L', I', hs, a1, a2, a3⟩ := MKr.out.inn
   obtain ⟨As', cs', hsv', _⟩ := own_reads I'.rep.stk
   obtain ⟨N, hNe⟩ : ∃ N, st.stack.length + need (f.f1.take i.toNat) = N := ⟨_, rfl⟩
   have hN1 : N < 1099511627776 := by have := need_take f.f1 i.toNat; omega
   have c6r : wr.cell? ⟨G.m, 6, none⟩ = some (.slice As' N cs') := by
    have := I'.rep.c6
    rw [hsv'] at this
    simpa [hNe] using this
   have cx : wr.cell? ⟨w.heap.size + 1, 1, none⟩ = some atv := by rw [MKr.out.fr.head.cell]; rfl
   obtain ⟨ad, e1, hn⟩ := int_at (Kd.C_below MM.out.g1 I'.base) i hi0 hlt
   have II' := Aside0.mk I'
   clear I' hsv'
   subst e1
   have MA := Aside0.mk (MKr.out.below (below_drew (below_alloc (Below.refl _ wr) (Obj.cells #[.int .i64 (1048576 + 4 * (N : Int))] 3))))
   have C6A := Aside0.mk (pwcb (below_drew (below_alloc (Below.refl _ wr) (Obj.cells #[.int .i64 (1048576 + 4 * (N : Int))] 3))) c6r)
   have hwA : IntKind.i64.wrap (4 * (N : Int)) = 4 * (N : Int) := by rw [IntKind.wrap_i64]; omega
   have hwB : IntKind.i64.wrap (1048576 + 4 * (N : Int)) = 1048576 + 4 * (N : Int) := by rw [IntKind.wrap_i64]; omega
   have hgm : G.m ≠ w.heap.size + 1 := fun e => a1 (e ▸ II'.out.rep.ownM)
   have hgm' : w.heap.size + 1 ≠ G.m := Ne.symm hgm
   obtain ⟨i3, hi3, hz3, hs3, hb3⟩ := info3x
   go_wp2
   refine region_heads 12 14 (fun w' => w'.cell? ⟨w.heap.size + 1, 1, none⟩ = some atv ∧ w'.cell? ⟨G.m, 6, none⟩ = some (.slice As' N cs')) (by kernel_rfl) (by kernel_rfl) (by kernel_rfl) ⟨cx, c6r⟩ (by intro c a a' w1 hd h; simp +zetaDelta only [Exit.then, Exit.inBlock, bodyPost] at h ⊢; simpa [hd] using h) ?_
   simp only [List.length_cons, List.length_nil, Nat.reduceAdd, List.range_succ, List.range_zero, List.nil_append, List.cons_append, List.singleton_append]
   repeat (
    refine heads_ex (by rfl) (by rfl) (by rfl) ?_
    apply Exists.intro
    apply And.intro
    ·rintro w' ⟨k1, k2⟩
     apply VR.mk
     go_simp
     with_reducible rfl
    simp only [List.setIfInBounds_toArray, List.set_cons_zero, List.set_cons_succ])
   refine heads_nil ?_
   refine chain_value (v := .slice (some ⟨wr.heap.size, 0, none⟩) 1 1) (w' := (wr.alloc (Obj.cells #[.int .i64 (1048576 + 4 * (N : Int))] 3)).drew) (by rfl) (by rfl) ?_ ⟨?_, C6A.out⟩ ?_
   ·go_simp
   ·rw [MA.out.fr.head.cell]; rfl
   simp only [List.setIfInBounds_toArray, List.set_cons_zero, List.set_cons_succ]
   refine chain_ex (by rfl) ?_
   refine wp_append_lies _ (.tmp 63) (.tmp 71) 23 (by rfl) 0 3 i3 (.int .i64 0) 1 8 Try.underlying23 hi3 hz3 hs3 hb3 rfl (by omega) atv (frameAt st.stack.length (f.f1.take i.toNat)).length (nums .i64 (frameAt st.stack.length (f.f1.take i.toNat))) (by rfl) MA.out.fr.row ⟨wr.heap.size, 0, none⟩ 1 1 [.int .i64 (1048576 + 4 * (N : Int))] (by rfl) (by rfl) (World.news_of_block (heap_alloc_new wr _)) (by intro u hu; simp at hu; subst hu; rfl) (by omega) (by rw [frameAt_length]; simp [maxLen]; omega) (by rw [frameAt_length]; simp; omega) (Nat.zero_le _) (wr.heap.size + 1) (by simp) ?_
   intro g cap w3 ho3 hg hor hlt3
   obtain ⟨kx1, kx2, kx3⟩ := MA.out.after C6A.out hg
   refine ⟨⟨kx1, kx3⟩, chain_done ?_⟩
   have hl4 : (frameAt st.stack.length (f.f1.take i.toNat) ++ [1048576 + 4 * (N : Int)]).length = (frameAt st.stack.length (f.f1.take i.toNat)).length + 1 := by simp
   have ho4 : w3.ownsRow 0 3 1 (.slice (some ⟨g, 0, none⟩) ((frameAt st.stack.length (f.f1.take i.toNat)).length + 1) cap) (frameAt st.stack.length (f.f1.take i.toNat) ++ [1048576 + 4 * (N : Int)]).length (nums .i64 (frameAt st.stack.length (f.f1.take i.toNat) ++ [1048576 + 4 * (N : Int)])) := by
    rw [hl4]
    simpa [nums] using ho3
   have hat4 : (Value.slice (some ⟨g, 0, none⟩) ((frameAt st.stack.length (f.f1.take i.toNat)).length + 1) cap).ownBlock = atv.ownBlock ∨ ∃ b, (Value.slice (some ⟨g, 0, none⟩) ((frameAt st.stack.length (f.f1.take i.toNat)).length + 1) cap).ownBlock = some b ∧ ((wr.alloc (Obj.cells #[.int .i64 (1048576 + 4 * (N : Int))] 3)).drew).heap.size ≤ b := by
    rcases hor with h | h
    ·exact .inl h.symm
    ·exact .inr ⟨g, rfl, by simp [h]⟩
   have hok4 : ∀ v, v ∈ frameAt st.stack.length (f.f1.take i.toNat) ++ [1048576 + 4 * (N : Int)] → v ≤ 9223372036854775807 := by
    intro v hv
    rcases List.mem_append.1 hv with h | h
    ·have := frameAt_le _ _ v h; omega
    ·obtain rfl : v = 1048576 + 4 * (N : Int) := by simpa using h
     omega
   have MB := Aside0.mk (MA.out.placed HF.out HS.out hg ho4 hat4 hok4)
   obtain ⟨S2, L2, I2, hs2, b1, b2, b3⟩ := MB.out.inn
   have hsv2 : L2.sv = .slice As' N cs' := by
    have h := I2.rep.c6
    have h2 := kx3
    rw [World.cell?_setCell_far _ _ _ _ (Ne.symm hgm)] at h
    exact Option.some.inj (h.symm.trans h2)
   have hso := I2.rep.stk
   rw [hsv2] at hso
   have IB := Aside0.mk I2
   have HSO := Aside0.mk hso
   have hlk : (st.stack ++ List.replicate (need (f.f1.take i.toNat)) (0 : Int)).length = N := by simp [hNe]
   have hk0 : 0 ≤ rd f.f1 i := by
    have h3 : rd f.f1 i ∈ f.f1 := by
     have : i.toNat < f.f1.length := by omega
     simp only [rd, List.getD_eq_getElem?_getD, List.getElem?_eq_getElem this, Option.getD_some]
     exact List.getElem_mem _
    exact HH0.out _ h3
   have hnd : need (f.f1.take (i.toNat + 1)) = need (f.f1.take i.toNat) + (rd f.f1 i).toNat := by
    rw [take_next _ _ (by omega), need_append, show ((i.toNat : Nat) : Int) = i by omega]
    simp [need]
   have hnl := need_take f.f1 (i.toNat + 1)
   clear I2 hso ho3 ho4 hat4 hok4
   go_wp2_with (at_builtin; refine num_zeros (by rfl) (.tmp 79) (.tmp 80) (by rfl) (.slice As' N cs') (st.stack ++ List.replicate (need (f.f1.take i.toNat)) 0) (rd f.f1 i) (by rfl) (by rfl) HSO.out hk0 (by rw [hlk]; omega) ?_; intro v4 w5 ho5 hg5 hat5; have hg6 := (show World.grownBy _ w5 L2.sv.ownBlock from hsv2 ▸ hg5); obtain ⟨k6, f6⟩ := IB.out.m6 hg6; rw [hsv2] at k6; obtain ⟨A4, c4, rfl, _⟩ := own_reads ho5)
   have hok5 : ∀ v, v ∈ st.stack ++ List.replicate (need (f.f1.take i.toNat)) (0 : Int) ++ List.replicate (rd f.f1 i).toNat 0 → v ≤ 9223372036854775807 := by
    intro v hv
    rcases List.mem_append.1 hv with h | h
    ·exact IB.out.rep.okS v h
    ·have := (List.mem_replicate.1 h).2; omega
   have MC := MB.out.stacked IB.out hs2 b1 b2 b3 hg6 ho5 (by rw [hsv2]; exact hat5) hok5
   have nx : (i + 1).toNat = i.toNat + 1 := by omega
   have e1 : frameAt st.stack.length (f.f1.take (i + 1).toNat) = frameAt st.stack.length (f.f1.take i.toNat) ++ [1048576 + 4 * (N : Int)] := by
    rw [nx, take_next _ _ (by omega), frameAt_append, hNe]
   have e2 : st.stack ++ List.replicate (need (f.f1.take (i + 1).toNat)) (0 : Int) = st.stack ++ List.replicate (need (f.f1.take i.toNat)) (0 : Int) ++ List.replicate (rd f.f1 i).toNat 0 := by
    rw [nx, hnd, ← List.replicate_append_replicate, List.append_assoc]
   have e3 : (st.stack ++ List.replicate (need (f.f1.take i.toNat)) (0 : Int) ++ List.replicate (rd f.f1 i).toNat (0 : Int)).length = st.stack.length + (need (f.f1.take i.toNat) + (rd f.f1 i).toNat) := by simp [Nat.add_assoc]
   rw [e3] at MC
   have MD := Aside0.mk MC
   clear MC
   go_roundw
   case measure => simp [intOf]; omega
   case rel =>
    refine ⟨i + 1, by go_num, by omega, by omega, ⟨.slice (some ⟨g, 0, none⟩) ((frameAt st.stack.length (f.f1.take i.toNat)).length + 1) cap, ?_⟩⟩
    rw [e1, e2]
    exact MD.out
  ·have hd : decide (i < (f.f1.length : Int)) = false := decide_eq_false hlt
   have htk : f.f1.take i.toNat = f.f1 := List.take_of_length_le (by omega)
   rw [htk] at MKr
   obtain ⟨S', L', I', hs, a1, a2, a3⟩ := MKr.out.inn
   have cx2 : wr.cell? ⟨w.heap.size + 1, 2, none⟩ = some (.int .i64 st.stack.length) := by rw [MKr.out.fr.head.cell]; rfl
   have hlk : (st.stack ++ List.replicate (need f.f1) (0 : Int)).length = st.stack.length + need f.f1 := by simp
   obtain ⟨As, cs, hsv', hle, hcm, hrow⟩ := own_form I'.rep.stk
   rw [hlk] at hsv' hle hrow
   have s1 : (st.stack.length : Int) ≤ (st.stack.length : Int) + (need f.f1 : Int) := by omega
   have s2 : (0 : Int) ≤ st.stack.length := by omega
   have c6r : wr.cell? ⟨G.m, 6, none⟩ = some (.slice As (st.stack.length + need f.f1) cs) := by
    have := I'.rep.c6
    rw [hsv'] at this
    exact this
   have AV' := Aside0.mk (AV.out.kept MKr.out.kept)
   have II' := Aside0.mk I'
   have HROW := Aside0.mk hrow
   have HSV' := Aside0.mk hsv'
   clear I' hrow hsv'
   go_wp2
   refine region_heads 10 10 (fun w' => w'.cell? ⟨w.heap.size + 1, 2, none⟩ = some (.int .i64 st.stack.length) ∧ w'.cell? ⟨G.m, 6, none⟩ = some (.slice As (st.stack.length + need f.f1) cs)) (by kernel_rfl) (by kernel_rfl) (by kernel_rfl) ⟨cx2, c6r⟩ (by intro c a a' w1 hd h; simp +zetaDelta only [Exit.then, Exit.inBlock, bodyPost] at h ⊢; simpa [hd] using h) ?_
   simp only [List.length_cons, List.length_nil, Nat.reduceAdd, List.range_succ, List.range_zero, List.nil_append, List.cons_append, List.singleton_append]
   repeat (
    refine heads_ex (by rfl) (by rfl) (by rfl) ?_
    apply Exists.intro
    apply And.intro
    ·rintro w' ⟨k1, k2⟩
     apply VR.mk
     go_simp
     with_reducible rfl
    simp only [List.setIfInBounds_toArray, List.set_cons_zero, List.set_cons_succ])
   refine heads_nil (chain_done ?_)
   have MKD := Aside0.mk (MKr.out.below (below_drew (Below.refl _ wr)))
   have CP := Aside0.mk (MKD.out.copied (AV'.out.kept (Kept.of_below (below_drew (Below.refl _ wr)))) hvn (II'.out.drewN 1) hs a1 a2 a3 HSV'.out (if cs = st.stack.length then As else Option.map (fun x => x.add st.stack.length) As) (by intro g h hn; subst h; rw [if_neg hn]; exact addr_at g _))
   have hcl : (nums .i64 vs).length = Nat.min vs.length (need f.f1) := by simp [nums, Nat.min_def]; omega
   generalize (if cs = st.stack.length then As else Option.map (fun x => x.add st.stack.length) As) = dp at CP ⊢
   have hqm : q.block ≠ G.m := fun e => by
    have h3 := World.block_lt_of_cell? _ _ MM.out.h1
    have h4 := II.out.ge _ II.out.rep.ownM
    simp at h3
    omega
   clear cx2 c6r
   refine wpList_copy_two (by rfl) (.tmp 93) (.tmp 94) 23 23 (by rfl) 3 Try.underlying23 info3s dp aa (need f.f1) (cs - st.stack.length) vs.length ca (by rfl) (by rfl) (nums .i64 vs) hcl (fun w' => Making G S F _ _ w w') CP.out.1 CP.out.2.1 CP.out.2.2 ?_
   go_wp2_with (intro w5 MZ0; have MZ := Aside0.mk MZ0; clear MZ0; obtain ⟨S5, L5, I5, hs5, b1, b2, b3⟩ := MZ.out.inn; have k10 := I5.rep.c10; have k9 := I5.rep.c9; have k11 := I5.c11; have z10 := I5.rep.fz 10; have z9 := I5.rep.fz 9; have z11 := I5.rep.fz 11; have k4 := pwcb I5.base MM.out.h4; rw [hq] at k4; have IE := Aside0.mk I5; clear I5)
   have hgm : G.m ≠ w.heap.size + 1 := fun e => b1 (e ▸ IE.out.rep.ownM)
   have hgm' : w.heap.size + 1 ≠ G.m := Ne.symm hgm
   have FR6 := (MZ.out.fr.setCell (a := ⟨G.m, 10, none⟩) hgm' (fun b e h => b3 b e (h ▸ IE.out.rep.ownM)) (fun (e : w.heap.size = G.m) => b2 (e ▸ IE.out.rep.ownM)) (.int .i64 (st.calls + 1)))
   have IN6 := Aside0.mk ((IE.out.set_calls (st.calls + 1)).swap FR6 b1 b3 b2 HS.out)
   have KP6 := Aside0.mk ((MZ.out.kept.setCell (a := ⟨G.m, 10, none⟩) II.out.rep.ownM (.int .i64 (st.calls + 1))).setCell (a := ⟨G.m, 11, none⟩) II.out.rep.ownM (.pointer (some ⟨w.heap.size + 1, 0, none⟩)))
   have hen : enterP st f vs = { st with stack := st.stack ++ putP (List.replicate (need f.f1) 0) vs, calls := st.calls + 1 } := by simp [enterP, hq]
   have BR := Aside0.mk (BB.out.run S5 L5 _ _ (by rw [hen]; exact IN6.out) rfl rfl rfl)
   clear FR6
   go_wp2_with (go_at_call 55; refine BR.out.mono ?_; intro e w7 hC; rcases CPost.left II.out KP6.out hs5 (Nat.le_refl _) (FrameIs.held IN6.out.fr).lt IN6.out.lt hC with ⟨st7, h7, out7, v7, S7, L7, hr, rfl, hL⟩ | ⟨k7, c7, st7, ch, hr, rfl, hP⟩; have LF := Aside0.mk hL; have hb := BB.out.back _ _ _ hr; rw [hen] at hb; obtain ⟨hb1, hb2, hb3⟩ := hb; have y10 := hL.inn.rep.c10; rw [hb1] at y10; have y9 := hL.inn.rep.c9; rw [hb2] at y9; have y4 := pwcb hL.inn.base MM.out.h4; rw [hq] at y4; have x10 := hL.inn.rep.fz 10; have x9 := hL.inn.rep.fz 9; have x11 := hL.inn.rep.fz 11; have yx := hL.inn.f2; have y11 := hL.inn.c11; obtain ⟨A7, C7, hs7, hle7, hcm7, hrow7⟩ := own_form hL.inn.rep.stk; have y6 := hL.inn.rep.c6; rw [hs7] at y6; clear hL hC)
   ·have I8 := Aside0.mk ((LF.out.back II.out).set_calls st.calls)
    have K8 := Aside0.mk ((LF.out.kept.setCell (a := ⟨G.m, 11, none⟩) II.out.rep.ownM (.pointer (some ⟨F.xb, 0, none⟩))).setCell (a := ⟨G.m, 10, none⟩) II.out.rep.ownM (.int .i64 st.calls))
    have z6 : ((w7.setCell ⟨G.m, 11, none⟩ (.pointer (some ⟨F.xb, 0, none⟩))).setCell ⟨G.m, 10, none⟩ (.int .i64 st.calls)).cell? ⟨G.m, 6, none⟩ = some (.slice A7 st7.stack.length C7) := by rw [I8.out.rep.c6, hs7]
    have zx : ((w7.setCell ⟨G.m, 11, none⟩ (.pointer (some ⟨F.xb, 0, none⟩))).setCell ⟨G.m, 10, none⟩ (.int .i64 st.calls)).cell? ⟨w.heap.size + 1, 2, none⟩ = some (.int .i64 st.stack.length) := by
     rw [World.cell?_setCell_far _ _ _ _ hgm, World.cell?_setCell_far _ _ _ _ hgm]; exact yx
    have OW := Aside0.mk (show ((w7.setCell ⟨G.m, 11, none⟩ (.pointer (some ⟨F.xb, 0, none⟩))).setCell ⟨G.m, 10, none⟩ (.int .i64 st.calls)).ownsRow 0 3 1 v7 out7.length (nums .i64 out7) from Rep.row_of_block LF.out.own (fun b e => by
     have hbm : b ≠ G.m := fun h => (LF.out.far b e).1 (h ▸ LF.out.inn.rep.ownM)
     rw [Below.heap_setCell _ _ _ _ hbm, Below.heap_setCell _ _ _ _ hbm]))
    generalize (w7.setCell ⟨G.m, 11, none⟩ (.pointer (some ⟨F.xb, 0, none⟩))).setCell ⟨G.m, 10, none⟩ (.int .i64 st.calls) = w8 at I8 K8 z6 zx OW ⊢
    have hb3' : st.stack.length ≤ st7.stack.length := by rw [hb3]; simp
    have t1 : (st.stack.length : Int) ≤ C7 := by omega
    have t2 : (0 : Int) ≤ st.stack.length := by omega
    clear hrow7
    refine region_last (fun w' => w'.cell? ⟨G.m, 6, none⟩ = some (.slice A7 st7.stack.length C7) ∧ w'.cell? ⟨w.heap.size + 1, 2, none⟩ = some (.int .i64 st.stack.length) ∧ Aside0 (Below w8.drew.heap.size w8.drew w')) 12 (by kernel_rfl) (by kernel_rfl) (by kernel_rfl) ⟨z6, zx, ⟨Below.refl _ _⟩⟩ ?_
    simp only [List.range_succ, List.range_zero, List.nil_append, List.cons_append, List.singleton_append]
    repeat (
     refine walk_ex (by rfl) (by rfl) (by rfl) ?_
     apply Exists.intro
     apply And.intro
     ·rintro w' ⟨k1, k2, kb⟩
      apply calm_value
      go_simp
      with_reducible rfl
     simp only [List.setIfInBounds_toArray, List.set_cons_zero, List.set_cons_succ])
    refine walk_fin (by rfl) (by rfl) ?_
    rintro w' ⟨k1, k2, kb⟩ hdf
    have I9 := Aside0.mk ((I8.out.drewN 1).below kb.out)
    have K9 := Aside0.mk ((K8.out.drewN 1).below kb.out)
    have f6 := I9.out.rep.fz 6
    have KB := kb
    clear k2 kb z6 zx
    go_wp2
    go_ret
    have hcp : callP X st F.held f vs = .ok (leaveP st.stack.length f st7) F.held out7 := by
     unfold callP
     rw [if_neg (by simp [hq]; omega), hr]
    have hlv : leaveP st.stack.length f st7 = { st7 with calls := st.calls, stack := st7.stack.take st.stack.length } := by simp [leaveP, hq, hb1]
    rw [hcp, hlv]
    have hbm : ∀ b, v7.ownBlock = some b → b ≠ G.m := fun b e h => (LF.out.far b e).1 (h ▸ LF.out.inn.rep.ownM)
    exact ⟨(K9.out.setCell (a := ⟨G.m, 6, none⟩) II.out.rep.ownM _).mono (fun b h => .inl h), v7, rfl, Rep.row_of_block OW.out (fun b e => (Below.heap_setCell _ _ _ _ (hbm b e)).trans (KB.out.block b ((Rep.has_own OW.out e).elim fun _ h => h.lt))), LF.out.ok, S7, _, LF.out.hs, I9.out.cut st.stack.length hb3' hs7, fun b e => LF.out.far b e⟩
   ·have hcp : callP X st F.held f vs = .halt k7 c7 st7 := by
     unfold callP
     rw [if_neg (by simp [hq]; omega), hr]
    exact ⟨rfl, by rw [hcp]; exact hP⟩
end Go.Proofs.Ytpphpcmbpbppoaa.Mach
end
