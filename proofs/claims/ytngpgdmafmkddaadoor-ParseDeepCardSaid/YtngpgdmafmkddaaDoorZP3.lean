/- Steps toward the laws of the parser (P), merged from several texts (some of them began as the kit's print). No condition. -/
import Derived.Maps.AppendAt
import Derived.Deep.DeepCutAuto
import Derived.Recover
import Derived.Defers
import Derived.Tactics2
import Derived.Laws.Pointers
import Derived.Test.YtngpgdmafmkddaaDoorZP2
section
namespace Go.Proofs.YtngpgdmafmkddaaDoor.Par
open Go.RowKit Go.Proofs.YtngpgdmafmkddaaDoorW.PrintWords Go.Proofs.YtngpgdmafmkddaaDoorW.PrintLast Go.Proofs.YtngpgdmafmkddaaDoorW.PrintMore
open Go.Proofs.YtngpgdmafmkddaaDoor.PParseBlanks (S35 S25 S27 k35 k25 k27 rd_T35 rd_T25 rd_T27 at_T35 at_T25 at_T27)
set_option linter.unusedVariables false
set_option linter.unusedSimpArgs false
def PlainlyOK (n : Nat) : Prop := ∀ (g : Nat) (e d : Int) (l : List S35) (w : World), 0 ≤ d → d < 60 → PS w g l e → plainlyP e n d l ≠ .out →
 Calls Tryd.prog 77 #[.pointer (some ⟨g, 0, none⟩), .int .i64 d] w (PPost g e (fun w' v (x : S27 × Bool) => ∃ u, v = .tuple #[u, .bool x.2] ∧ VE w.heap.size w' u x.1) (plainlyP e n d l) w)
set_option maxRecDepth 100000 in
set_option maxHeartbeats 4000000 in
theorem plainly_ok {n : Nat} (HT : TreeOK n) : PlainlyOK (n + 1) := by
 intro g e d l w h0 h1 HP hne
 unfold TreeOK at HT
 have hu27 := Tryd.underlying27
 have B0 := below_alloc (Below.refl w.heap.size w) (Obj.cells #[.int .i64 0, .int .i64 0, .int .i64 0, .string ⟨#[]⟩, .slice none 0 0, .slice none 0 0, .int .i64 0, .string ⟨#[]⟩, .int .i64 0, .slice none 0 0] 27)
 have HPS := HP.below B0
 obtain ⟨A0, c0, HP0⟩ := HP
 have hgw : g < w.heap.size := HP0.has.lt
 obtain ⟨A1, c1, HP1⟩ := HPS
 have HP1 := Aside0.mk HP1
 have HTT := Aside0.mk HT
 have B0 := Aside0.mk B0
 have HR0 := Aside0.mk (Has.new w #[.int .i64 0, .int .i64 0, .int .i64 0, .string ⟨#[]⟩, .slice none 0 0, .slice none 0 0, .int .i64 0, .string ⟨#[]⟩, .int .i64 0, .slice none 0 0] 27)
 obtain ⟨a0, ha0⟩ : ∃ a0, atP e l = a0 := ⟨_, rfl⟩
 have HA0 := Aside0.mk ha0
 clear HP0 HT ha0
 cases hr : climbP e n (d + 1) true 1 l with
 | out => simp only [plainlyP, hr, PR.andThen] at hne; exact absurd rfl hne
 | bad a er =>
  have HE : Aside0 (plainlyP e (n + 1) d l = .bad a er) := ⟨by simp only [plainlyP, hr, PR.andThen]⟩
  have HR := Aside0.mk hr
  clear hr hne
  go_enter Tryd.func77, Tryd.ntmps77
  go_wp2_with (first | (go_at_call 29; (with_reducible refine (at_said g l e A1 c1 _ HP1.out).mono ?_); rintro en w1 ⟨he, hb1⟩; rw [HA0.out] at he; subst he; have b1a := below_then hb1 hb1.size (below_alloc (Below.refl w1.heap.size w1) (Obj.cells #[.int .i64 35, .int .i64 a0, .int .i64 0, .string ⟨#[]⟩, .slice none 0 0, .slice none 0 0, .int .i64 0, .string ⟨#[]⟩, .int .i64 0, .slice none 0 0] 27)); have HX1 := Has.new w1 #[.int .i64 35, .int .i64 a0, .int .i64 0, .string ⟨#[]⟩, .slice none 0 0, .slice none 0 0, .int .i64 0, .string ⟨#[]⟩, .int .i64 0, .slice none 0 0] 27) | (go_at_call 18; (with_reducible refine (HTT.out g e (d + 1) true l _ (by omega) (by omega) (HP1.out.below b1a).ps (by rw [HR.out]; exact PR.bad_ne _ _)).mono ?_); rintro en w2 ⟨hk2, hq2⟩; rw [HR.out] at hq2; subst hq2))
  rw [HE.out]
  exact ⟨rfl, ((Kept.of_below B0.out).below b1a).then_ hk2, rfl⟩
 | ok x l1 =>
  cases hs1 : isP sEq l1 with
  | true => simp only [plainlyP, hr, PR.andThen, hs1] at hne; exact absurd rfl hne
  | false =>
  cases hs2 : isP sRbrace l1 with
  | false => simp only [plainlyP, hr, PR.andThen, hs1, hs2] at hne; exact absurd rfl hne
  | true =>
  have HE : Aside0 (plainlyP e (n + 1) d l = .ok (x, true) l1) := ⟨by simp only [plainlyP, hr, PR.andThen, hs1, hs2]; rfl⟩
  have HR := Aside0.mk hr
  have H1 := Aside0.mk hs1
  have H2 := Aside0.mk hs2
  clear hr hne hs1 hs2
  go_enter Tryd.func77, Tryd.ntmps77
  go_wp2_with (first | (go_at_call 29; (with_reducible refine (at_said g l e A1 c1 _ HP1.out).mono ?_); rintro en w1 ⟨he, hb1⟩; rw [HA0.out] at he; subst he; have b1a := below_then hb1 hb1.size (below_alloc (Below.refl w1.heap.size w1) (Obj.cells #[.int .i64 35, .int .i64 a0, .int .i64 0, .string ⟨#[]⟩, .slice none 0 0, .slice none 0 0, .int .i64 0, .string ⟨#[]⟩, .int .i64 0, .slice none 0 0] 27)); have HX1 := Has.new w1 #[.int .i64 35, .int .i64 a0, .int .i64 0, .string ⟨#[]⟩, .slice none 0 0, .slice none 0 0, .int .i64 0, .string ⟨#[]⟩, .int .i64 0, .slice none 0 0] 27) | (go_at_call 18; (with_reducible refine (HTT.out g e (d + 1) true l _ (by omega) (by omega) (HP1.out.below b1a).ps (by rw [HR.out]; exact PR.ok_ne _ _)).mono ?_); rintro en w2 ⟨hk2, hq2⟩; rw [HR.out] at hq2; obtain ⟨v, rfl, hv, hp2⟩ := hq2; obtain ⟨a4, ac4, a5, ac5, a9, ac9, rfl⟩ := hv.form; have hgx : w1.heap.size ≠ g := (by have := hb1.size; simp at this; omega); have HX2 := (Kept.has hk2 HX1 hgx).alloc (Obj.cells #[.int .i64 x.f0, .int .i64 x.f1, .int .i64 x.f2, .string x.f3, .slice a4 x.f4.length ac4, .slice a5 x.f5.length ac5, .int .i64 x.f6.f0, .string x.f6.f1, .int .i64 x.f6.f2, .slice a9 x.f6.f3.length ac9] 27); have f4 := HX2.frozen 4; have p4 := HX2.cell 4; simp only [List.getElem?_toArray, List.getElem?_cons_zero, List.getElem?_cons_succ] at p4) | (go_at_call 29; fail))
  have hxr : w.heap.size < w1.heap.size := by have := hb1.size; simp at this; omega
  have hgx : w1.heap.size ≠ g := by omega
  have hsz2 : w1.heap.size + 1 ≤ w2.heap.size := by have := hk2.size; simp at this; omega
  have HXA := Kept.has hk2 HX1 hgx
  have bl := below_alloc (Below.refl w2.heap.size w2) (Obj.cells #[.int .i64 x.f0, .int .i64 x.f1, .int .i64 x.f2, .string x.f3, .slice a4 x.f4.length ac4, .slice a5 x.f5.length ac5, .int .i64 x.f6.f0, .string x.f6.f1, .int .i64 x.f6.f2, .slice a9 x.f6.f3.length ac9] 27)
  have HL3 := Aside0.mk ((Has.new w2 #[.int .i64 x.f0, .int .i64 x.f1, .int .i64 x.f2, .string x.f3, .slice a4 x.f4.length ac4, .slice a5 x.f5.length ac5, .int .i64 x.f6.f0, .string x.f6.f1, .int .i64 x.f6.f2, .slice a9 x.f6.f3.length ac9] 27).other (a := ⟨w1.heap.size, 4, none⟩) (by show w2.heap.size ≠ w1.heap.size; omega) (.slice (some ⟨w2.heap.size, 0, none⟩) 1 1))
  have HX3 : Aside0 (Has ((w2.alloc (Obj.cells #[.int .i64 x.f0, .int .i64 x.f1, .int .i64 x.f2, .string x.f3, .slice a4 x.f4.length ac4, .slice a5 x.f5.length ac5, .int .i64 x.f6.f0, .string x.f6.f1, .int .i64 x.f6.f2, .slice a9 x.f6.f3.length ac9] 27)).setCell ⟨w1.heap.size, 4, none⟩ (.slice (some ⟨w2.heap.size, 0, none⟩) 1 1)) w1.heap.size #[.int .i64 35, .int .i64 a0, .int .i64 0, .string ⟨#[]⟩, .slice (some ⟨w2.heap.size, 0, none⟩) 1 1, .slice none 0 0, .int .i64 0, .string ⟨#[]⟩, .int .i64 0, .slice none 0 0] 27) := ⟨(HXA.alloc (Obj.cells #[.int .i64 x.f0, .int .i64 x.f1, .int .i64 x.f2, .string x.f3, .slice a4 x.f4.length ac4, .slice a5 x.f5.length ac5, .int .i64 x.f6.f0, .string x.f6.f1, .int .i64 x.f6.f2, .slice a9 x.f6.f3.length ac9] 27)).set_ 4 (.slice (some ⟨w2.heap.size, 0, none⟩) 1 1)⟩
  have HR3 := Aside0.mk (((Kept.has hk2 (HR0.out.belowS b1a) (by omega)).alloc (Obj.cells #[.int .i64 x.f0, .int .i64 x.f1, .int .i64 x.f2, .string x.f3, .slice a4 x.f4.length ac4, .slice a5 x.f5.length ac5, .int .i64 x.f6.f0, .string x.f6.f1, .int .i64 x.f6.f2, .slice a9 x.f6.f3.length ac9] 27)).other (a := ⟨w1.heap.size, 4, none⟩) (by show w.heap.size ≠ w1.heap.size; omega) (.slice (some ⟨w2.heap.size, 0, none⟩) 1 1))
  have HP3 := (hp2.below bl).setC (HXA.alloc (Obj.cells #[.int .i64 x.f0, .int .i64 x.f1, .int .i64 x.f2, .string x.f3, .slice a4 x.f4.length ac4, .slice a5 x.f5.length ac5, .int .i64 x.f6.f0, .string x.f6.f1, .int .i64 x.f6.f2, .slice a9 x.f6.f3.length ac9] 27)) 4 (.slice (some ⟨w2.heap.size, 0, none⟩) 1 1)
  have HK3 := Aside0.mk (((((Kept.of_below B0.out).below b1a).then_ hk2).alloc (Obj.cells #[.int .i64 x.f0, .int .i64 x.f1, .int .i64 x.f2, .string x.f3, .slice a4 x.f4.length ac4, .slice a5 x.f5.length ac5, .int .i64 x.f6.f0, .string x.f6.f1, .int .i64 x.f6.f2, .slice a9 x.f6.f3.length ac9] 27)).setCellG (a := ⟨w1.heap.size, 4, none⟩) (by show w.heap.size ≤ w1.heap.size; omega) (.slice (some ⟨w2.heap.size, 0, none⟩) 1 1))
  have HV3 := Aside0.mk (((hv.below bl).lower (show w1.heap.size + 1 ≤ _ by simp)).setO (a := ⟨w1.heap.size, 4, none⟩) (fun k _ h => by show k ≠ w1.heap.size; omega) (.slice (some ⟨w2.heap.size, 0, none⟩) 1 1))
  obtain ⟨A3, c3, HP3⟩ := HP3
  have HP3 := Aside0.mk HP3
  clear hv hp2 hk2 HX2 HXA bl b1a hb1 HX1
  generalize w1.heap.size = b5 at *
  generalize w2.heap.size = b6 at *
  generalize ((w2.alloc (Obj.cells #[.int .i64 x.f0, .int .i64 x.f1, .int .i64 x.f2, .string x.f3, .slice a4 x.f4.length ac4, .slice a5 x.f5.length ac5, .int .i64 x.f6.f0, .string x.f6.f1, .int .i64 x.f6.f2, .slice a9 x.f6.f3.length ac9] 27)).setCell ⟨b5, 4, none⟩ (.slice (some ⟨b6, 0, none⟩) 1 1)) = w3 at *
  go_wp2_with (first | (go_at_call 29; (with_reducible refine (at_said g l1 e A3 c3 _ HP3.out).mono ?_); rintro en w4 ⟨rfl, hb4⟩) | (go_at_call 41; (with_reducible refine (take_said g l1 e sEq _ (HP3.out.below hb4).ps).mono ?_); rintro en w5 ⟨he, hk5, hp5⟩; rw [H1.out] at he hp5; rw [if_neg (by decide)] at hp5; subst he; obtain ⟨A5, c5, HP5⟩ := hp5) | (go_at_call 60; (with_reducible refine (is_said g l1 e A5 c5 sRbrace _ HP5).mono ?_); rintro en w6 ⟨he, hb6⟩; rw [H2.out] at he; subst he; have HK6 := ((Kept.of_below (S := fun b => b = g) hb4).then_ hk5).below hb6; have HX6 := Kept.has HK6 HX3.out hgx; have HL6 := Aside0.mk (Kept.has HK6 HL3.out (by omega)); have HR6 := Aside0.mk (Kept.has HK6 HR3.out (by omega)); have q4 := HX6.cell 4; simp only [List.getElem?_toArray, List.getElem?_cons_zero, List.getElem?_cons_succ] at q4) | ((with_reducible refine gate_dst (N := 38) rfl ?_); go_must (refine Kd.event_run rfl (load27 w6 b6 #[.int .i64 x.f0, .int .i64 x.f1, .int .i64 x.f2, .string x.f3, .slice a4 x.f4.length ac4, .slice a5 x.f5.length ac5, .int .i64 x.f6.f0, .string x.f6.f1, .int .i64 x.f6.f2, .slice a9 x.f6.f3.length ac9] HL6.out rfl _ _ _ rfl rfl) ?_)) | ((with_reducible refine gate_store (t := 27) (p := 4) rfl ?_); go_must (refine store_event (t := 27) (p := 4) (v := .tmp 38) (w1 := w6.setRow w.heap.size #[.int .i64 x.f0, .int .i64 x.f1, .int .i64 x.f2, .string x.f3, .slice a4 x.f4.length ac4, .slice a5 x.f5.length ac5, .int .i64 x.f6.f0, .string x.f6.f1, .int .i64 x.f6.f2, .slice a9 x.f6.f3.length ac9]) ?hg ?ho ?hn ?hr ?_; (case ho => rfl); (case hg => rfl); (case hn => rfl); (case hr => exact store27 w6 _ _ _ HR6.out rfl rfl (by first | kernel_rfl | (simp [Value.oneCell'])) _ _ _ _ rfl rfl rfl); intro w7 hw7; subst hw7)))
  refine bodyPost_ret (results_ct rfl _ _ w.heap.size 27 #[.int .i64 x.f0, .int .i64 x.f1, .int .i64 x.f2, .string x.f3, .slice a4 x.f4.length ac4, .slice a5 x.f5.length ac5, .int .i64 x.f6.f0, .string x.f6.f1, .int .i64 x.f6.f2, .slice a9 x.f6.f3.length ac9] (0, 0) _ rfl (has_row HR6.out #[.int .i64 x.f0, .int .i64 x.f1, .int .i64 x.f2, .string x.f3, .slice a4 x.f4.length ac4, .slice a5 x.f5.length ac5, .int .i64 x.f6.f0, .string x.f6.f1, .int .i64 x.f6.f2, .slice a9 x.f6.f3.length ac9]) Tryd.underlying27 rfl (by rfl)) rfl ?_
  rw [HE.out]
  exact ⟨kept_row (HK3.out.then_ HK6) (Nat.le_refl _) _, _, rfl, ⟨_, rfl, ((HV3.out.kept HP3.out.has HK6).rowO (g := w.heap.size) (fun k _ h => by omega) #[.int .i64 x.f0, .int .i64 x.f1, .int .i64 x.f2, .string x.f3, .slice a4 x.f4.length ac4, .slice a5 x.f5.length ac5, .int .i64 x.f6.f0, .string x.f6.f1, .int .i64 x.f6.f2, .slice a9 x.f6.f3.length ac9]).lower (by omega)⟩, (HP5.below hb6).ps.rowP HR6.out _⟩
theorem reps_cons {α : Type} {R : α → List Value → Prop} {size : Nat} {p : α} {ps : List α} {c cs : List Value} (hp : R p c) (hc : c.length = size) (h : Reps R size ps cs) : Reps R size (p :: ps) (c ++ cs) := by
 refine ⟨by rw [List.length_append, hc, h.1, List.length_cons, Nat.succ_mul]; omega, fun j q hq => ?_⟩
 cases j with
 | zero =>
  obtain rfl : p = q := by simpa using hq
  rw [Nat.zero_mul, List.drop_zero, ← hc, List.take_left]
  exact hp
 | succ j =>
  rw [Nat.succ_mul, Nat.add_comm, ← hc, ← List.drop_drop, List.drop_left, hc]
  exact h.2 j q (by simpa using hq)
theorem strs_reps (W : World) : ∀ xs : List ByteArray, Reps (Kd.string.K W) 1 xs (xs.map Value.string)
 | [] => Reps.none _ _
 | x :: r => reps_cons (c := [Value.string x]) rfl rfl (strs_reps W r)
theorem lit_S (W : World) (ss : List ByteArray) (hm : ss.length ≤ 9223372036854775807) : Kd.C Kd.string (W.alloc (.cells (ss.map Value.string).toArray 9)) (some ⟨W.heap.size, 0, none⟩) ss.length ss := by
 obtain ⟨A, c, he, hl, hr⟩ := (OwnRow.lit (e := 9) W W.heap.size (R := Kd.string.K W) (size := 1) (strs_reps W ss) (Nat.le_refl _) hm).reads
 injection he with h1 h2 h3
 subst h1
 exact hr.imp_ (Below.refl _ _) (fun p c hp => Kd.string.K_below (below_alloc (Below.refl _ _) _) hp)
set_option maxRecDepth 100000 in
set_option maxHeartbeats 4000000 in
theorem stmt_ok {n : Nat} (HC : ClosedOK n) (HL : PlainlyOK n) : StmtOK (n + 1) := by
 intro g e d l w h0 h1 HP hne
 unfold ClosedOK at HC
 unfold PlainlyOK at HL
 have hu27 := Tryd.underlying27
 by_cases hw : isP sLet l = true ∨ isP sWhile l = true ∨ isP sLoop l = true ∨ isP sBreak l = true ∨ isP sContinue l = true ∨ isP sReturn l = true
 ·simp only [stmtP] at hne; rw [if_pos hw] at hne; exact absurd rfl hne
 have hsz : stmtP e (n + 1) d l = if oneP [sIf, sMatch, sLbrace] l = true then (closedP e n (d + 1) l).andThen fun y l1 => if isP sRbrace l1 = true then .ok (y, true) l1 else .out else plainlyP e n d l := by
  simp only [stmtP]; rw [if_neg hw]
 rw [hsz] at hne ⊢
 simp only [not_or, Bool.not_eq_true] at hw
 obtain ⟨w1', w2', w3', w4', w5', w6'⟩ := hw
 have H1 := Aside0.mk w1'
 have H2 := Aside0.mk w2'
 have H3 := Aside0.mk w3'
 have H4 := Aside0.mk w4'
 have H5 := Aside0.mk w5'
 have H6 := Aside0.mk w6'
 clear w1' w2' w3' w4' w5' w6' hsz
 have B0 := below_alloc (Below.refl w.heap.size w) (Obj.cells #[.int .i64 0, .int .i64 0, .int .i64 0, .string ⟨#[]⟩, .slice none 0 0, .slice none 0 0, .int .i64 0, .string ⟨#[]⟩, .int .i64 0, .slice none 0 0] 27)
 have HPS := HP.below B0
 obtain ⟨A0, c0, HP0⟩ := HP
 have hgw : g < w.heap.size := HP0.has.lt
 obtain ⟨A1, c1, HP1⟩ := HPS
 have HP1 := Aside0.mk HP1
 have HCC := Aside0.mk HC
 have HLL := Aside0.mk HL
 have B0 := Aside0.mk B0
 have HR0 := Aside0.mk (Has.new w #[.int .i64 0, .int .i64 0, .int .i64 0, .string ⟨#[]⟩, .slice none 0 0, .slice none 0 0, .int .i64 0, .string ⟨#[]⟩, .int .i64 0, .slice none 0 0] 27)
 obtain ⟨a0, ha0⟩ : ∃ a0, atP e l = a0 := ⟨_, rfl⟩
 have HA0 := Aside0.mk ha0
 have HNE := Aside0.mk hne
 clear HP0 HC HL ha0 hne
 obtain ⟨R, hR⟩ : ∃ R, (if oneP [sIf, sMatch, sLbrace] l = true then (closedP e n (d + 1) l).andThen fun y l1 => if isP sRbrace l1 = true then .ok (y, true) l1 else .out else plainlyP e n d l) = R := ⟨_, rfl⟩
 have HRQ := Aside0.mk hR
 rw [hR]
 clear hR
 go_enter Tryd.func67, Tryd.ntmps67
 go_wp2_with (go_at_call 29; (with_reducible refine (at_said g l e A1 c1 _ HP1.out).mono ?_); rintro en w1 ⟨he, hb1⟩; rw [HA0.out] at he; subst he; have f1 := (HR0.out.belowS hb1).frozen 1; have p1 := (HR0.out.belowS hb1).cell 1; simp only [List.getElem?_toArray, List.getElem?_cons_zero, List.getElem?_cons_succ] at p1)
 have HR1 := Aside0.mk ((HR0.out.belowS hb1).set_ 1 (.int .i64 a0))
 have HP1a := Aside0.mk ((HP1.out.below hb1).ps.setC (HR0.out.belowS hb1) 1 (.int .i64 a0))
 have HK1 := Aside0.mk (((Kept.of_below (S := fun b => b = g) B0.out).below hb1).setCellG (a := ⟨w.heap.size, 1, none⟩) (Nat.le_refl _) (.int .i64 a0))
 clear f1 p1 hb1 HP1 HR0
 generalize w1.setCell ⟨w.heap.size, 1, none⟩ (.int .i64 a0) = w1 at *
 go_wp2_with (first | (go_at_call 41; (with_reducible refine (take_said g l e sLet _ HP1a.out).mono ?_); rintro en t1 ⟨he, hk1, hp1⟩; rw [H1.out] at he hp1; rw [if_neg (by decide)] at hp1; subst he) | (go_at_call 41; (with_reducible refine (take_said g l e sWhile _ hp1).mono ?_); rintro en t2 ⟨he, hk2, hp2⟩; rw [H2.out] at he hp2; rw [if_neg (by decide)] at hp2; subst he) | (go_at_call 41; (with_reducible refine (take_said g l e sLoop _ hp2).mono ?_); rintro en t3 ⟨he, hk3, hp3⟩; rw [H3.out] at he hp3; rw [if_neg (by decide)] at hp3; subst he) | (go_at_call 41; (with_reducible refine (take_said g l e sBreak _ hp3).mono ?_); rintro en t4 ⟨he, hk4, hp4⟩; rw [H4.out] at he hp4; rw [if_neg (by decide)] at hp4; subst he) | (go_at_call 41; (with_reducible refine (take_said g l e sContinue _ hp4).mono ?_); rintro en t5 ⟨he, hk5, hp5⟩; rw [H5.out] at he hp5; rw [if_neg (by decide)] at hp5; subst he) | (go_at_call 41; (with_reducible refine (take_said g l e sReturn _ hp5).mono ?_); rintro en t6 ⟨he, hk6, hp6⟩; rw [H6.out] at he hp6; rw [if_neg (by decide)] at hp6; subst he))
 have HR6 := Aside0.mk (Kept.has hk6 (Kept.has hk5 (Kept.has hk4 (Kept.has hk3 (Kept.has hk2 (Kept.has hk1 HR1.out (by omega)) (by omega)) (by omega)) (by omega)) (by omega)) (by omega))
 have HK6 := Aside0.mk ((((((HK1.out.then_ hk1).then_ hk2).then_ hk3).then_ hk4).then_ hk5).then_ hk6)
 have b7 := below_alloc (Below.refl t6.heap.size t6) (Obj.cells ([sIf, sMatch, sLbrace].map Value.string).toArray 9)
 obtain ⟨A6, c6, HP6⟩ := hp6
 have HL6 := lit_S t6 [sIf, sMatch, sLbrace] (by decide)
 clear hk1 hk2 hk3 hk4 hk5 hk6 hp1 hp2 hp3 hp4 hp5 H1 H2 H3 H4 H5 H6 HP1a HR1 HK1
 have hrlt := HR6.out.lt
 cases ho : oneP [sIf, sMatch, sLbrace] l with
 | false =>
  have HO := Aside0.mk ho
  have HNE : Aside0 (plainlyP e n d l ≠ .out) := ⟨by have := HNE.out; rw [if_neg (by rw [ho]; decide)] at this; exact this⟩
  clear ho
  cases hr : plainlyP e n d l with
  | out => exact absurd hr HNE.out
  | bad a er =>
   have HR := Aside0.mk hr
   clear hr
   go_wp2_with (first | (go_at_call 61; refine (one_said g l e A6 c6 [sIf, sMatch, sLbrace] (some ⟨t6.heap.size, 0, none⟩) 3 _ (HP6.below b7) HL6 (by decide)).mono ?_; rintro en w8 ⟨he, hb8⟩; rw [HO.out] at he; subst he; have HP8 := (HP6.below b7).below hb8) | (go_at_call 77; (with_reducible refine (HLL.out g e d l _ h0 h1 HP8.ps HNE.out).mono ?_); rintro en w9 ⟨hk9, hq9⟩; rw [HR.out] at hq9; subst hq9))
   rw [← HRQ.out, if_neg (by rw [HO.out]; decide)]
   rw [HR.out]
   exact ⟨rfl, (((HK6.out.below b7).below hb8)).then_ hk9, rfl⟩
  | ok y l1 =>
   obtain ⟨x, bv⟩ := y
   have HR := Aside0.mk hr
   clear hr
   go_wp2_with (first | (go_at_call 61; refine (one_said g l e A6 c6 [sIf, sMatch, sLbrace] (some ⟨t6.heap.size, 0, none⟩) 3 _ (HP6.below b7) HL6 (by decide)).mono ?_; rintro en w8 ⟨he, hb8⟩; rw [HO.out] at he; subst he; have HP8 := (HP6.below b7).below hb8) | (go_at_call 77; (with_reducible refine (HLL.out g e d l _ h0 h1 HP8.ps HNE.out).mono ?_); rintro en w9 ⟨hk9, hq9⟩; rw [HR.out] at hq9; obtain ⟨v9, rfl, ⟨u9, rfl, hv9⟩, hp9⟩ := hq9; obtain ⟨a4, ac4, a5, ac5, a9, ac9, rfl⟩ := hv9.form; have HR9 := Aside0.mk (Kept.has hk9 ((HR6.out.belowS b7).belowS hb8) (by omega))) | ((with_reducible refine gate_store (t := 27) (p := 4) rfl ?_); go_must (refine store_event (t := 27) (p := 4) (v := .tmp 14) (w1 := w9.setRow w.heap.size #[.int .i64 x.f0, .int .i64 x.f1, .int .i64 x.f2, .string x.f3, .slice a4 x.f4.length ac4, .slice a5 x.f5.length ac5, .int .i64 x.f6.f0, .string x.f6.f1, .int .i64 x.f6.f2, .slice a9 x.f6.f3.length ac9]) ?hg ?ho ?hn ?hr ?_; (case ho => rfl); (case hg => rfl); (case hn => rfl); (case hr => exact store27 w9 _ _ _ HR9.out rfl rfl (by first | kernel_rfl | (simp [Value.oneCell'])) _ _ _ _ rfl rfl rfl); intro w7 hw7; subst hw7)))
   refine bodyPost_ret (results_ct rfl _ _ w.heap.size 27 #[.int .i64 x.f0, .int .i64 x.f1, .int .i64 x.f2, .string x.f3, .slice a4 x.f4.length ac4, .slice a5 x.f5.length ac5, .int .i64 x.f6.f0, .string x.f6.f1, .int .i64 x.f6.f2, .slice a9 x.f6.f3.length ac9] (0, 0) _ rfl (has_row HR9.out #[.int .i64 x.f0, .int .i64 x.f1, .int .i64 x.f2, .string x.f3, .slice a4 x.f4.length ac4, .slice a5 x.f5.length ac5, .int .i64 x.f6.f0, .string x.f6.f1, .int .i64 x.f6.f2, .slice a9 x.f6.f3.length ac9]) Tryd.underlying27 rfl (by rfl)) rfl ?_
   have hs8 : w.heap.size + 1 ≤ w8.heap.size := by have q1 := hb8.size; simp at q1; omega
   rw [← HRQ.out, if_neg (by rw [HO.out]; decide)]
   rw [HR.out]
   exact ⟨kept_row (((HK6.out.below b7).below hb8).then_ hk9) (Nat.le_refl _) _, _, rfl, ⟨_, rfl, ((hv9.lower hs8).row (by omega) #[.int .i64 x.f0, .int .i64 x.f1, .int .i64 x.f2, .string x.f3, .slice a4 x.f4.length ac4, .slice a5 x.f5.length ac5, .int .i64 x.f6.f0, .string x.f6.f1, .int .i64 x.f6.f2, .slice a9 x.f6.f3.length ac9]).lower (by omega)⟩, hp9.rowP HR9.out _⟩
 | true =>
  have HO := Aside0.mk ho
  have HNE : Aside0 ((closedP e n (d + 1) l).andThen (fun y l1 => if isP sRbrace l1 = true then PR.ok (y, true) l1 else .out) ≠ .out) := ⟨by have := HNE.out; rw [if_pos ho] at this; exact this⟩
  clear ho
  cases hr : closedP e n (d + 1) l with
  | out => rw [hr] at HNE; exact absurd rfl HNE.out
  | bad a er =>
   have HR := Aside0.mk hr
   clear hr
   go_wp2_with (first | (go_at_call 61; refine (one_said g l e A6 c6 [sIf, sMatch, sLbrace] (some ⟨t6.heap.size, 0, none⟩) 3 _ (HP6.below b7) HL6 (by decide)).mono ?_; rintro en w8 ⟨he, hb8⟩; rw [HO.out] at he; subst he; have HP8 := (HP6.below b7).below hb8) | (go_at_call 76; (with_reducible refine (HCC.out g e (d + 1) l _ (by omega) (by omega) HP8.ps (by rw [HR.out]; exact PR.bad_ne _ _)).mono ?_); rintro en w9 ⟨hk9, hq9⟩; rw [HR.out] at hq9; subst hq9))
   rw [← HRQ.out, if_pos HO.out, HR.out]
   simp only [PR.andThen]
   exact ⟨rfl, (((HK6.out.below b7).below hb8)).then_ hk9, rfl⟩
  | ok x l1 =>
   cases hz : isP sRbrace l1 with
   | false => rw [hr] at HNE; simp only [PR.andThen, hz] at HNE; exact absurd rfl HNE.out
   | true =>
   have HR := Aside0.mk hr
   have HZ := Aside0.mk hz
   clear hr hz
   go_wp2_with (first | (go_at_call 61; refine (one_said g l e A6 c6 [sIf, sMatch, sLbrace] (some ⟨t6.heap.size, 0, none⟩) 3 _ (HP6.below b7) HL6 (by decide)).mono ?_; rintro en w8 ⟨he, hb8⟩; rw [HO.out] at he; subst he; have HP8 := (HP6.below b7).below hb8) | (go_at_call 76; (with_reducible refine (HCC.out g e (d + 1) l _ (by omega) (by omega) HP8.ps (by rw [HR.out]; exact PR.ok_ne _ _)).mono ?_); rintro en w9 ⟨hk9, hq9⟩; rw [HR.out] at hq9; obtain ⟨v9, rfl, hv9, hp9⟩ := hq9; obtain ⟨a4, ac4, a5, ac5, a9, ac9, rfl⟩ := hv9.form; have HR9 := Aside0.mk ((Kept.has hk9 ((HR6.out.belowS b7).belowS hb8) (by omega)).alloc (Obj.cells #[.int .i64 x.f0, .int .i64 x.f1, .int .i64 x.f2, .string x.f3, .slice a4 x.f4.length ac4, .slice a5 x.f5.length ac5, .int .i64 x.f6.f0, .string x.f6.f1, .int .i64 x.f6.f2, .slice a9 x.f6.f3.length ac9] 27)); have ba := below_alloc (Below.refl w9.heap.size w9) (Obj.cells #[.int .i64 x.f0, .int .i64 x.f1, .int .i64 x.f2, .string x.f3, .slice a4 x.f4.length ac4, .slice a5 x.f5.length ac5, .int .i64 x.f6.f0, .string x.f6.f1, .int .i64 x.f6.f2, .slice a9 x.f6.f3.length ac9] 27); obtain ⟨A9, c9, HP9⟩ := hp9.below ba; have HX9 := Aside0.mk (Has.new w9 #[.int .i64 x.f0, .int .i64 x.f1, .int .i64 x.f2, .string x.f3, .slice a4 x.f4.length ac4, .slice a5 x.f5.length ac5, .int .i64 x.f6.f0, .string x.f6.f1, .int .i64 x.f6.f2, .slice a9 x.f6.f3.length ac9] 27)) | (go_at_call 60; (with_reducible refine (is_said g l1 e A9 c9 sRbrace _ HP9).mono ?_); rintro en w10 ⟨he, hb10⟩; rw [HZ.out] at he; subst he; have HXX := Aside0.mk (HX9.out.belowS hb10); have HRX := Aside0.mk (HR9.out.belowS hb10)) | ((with_reducible refine gate_dst (N := 80) rfl ?_); go_must (refine Kd.event_run rfl (load27 w10 w9.heap.size #[.int .i64 x.f0, .int .i64 x.f1, .int .i64 x.f2, .string x.f3, .slice a4 x.f4.length ac4, .slice a5 x.f5.length ac5, .int .i64 x.f6.f0, .string x.f6.f1, .int .i64 x.f6.f2, .slice a9 x.f6.f3.length ac9] HXX.out rfl _ _ _ rfl rfl) ?_)) | ((with_reducible refine gate_store (t := 27) (p := 4) rfl ?_); go_must (refine store_event (t := 27) (p := 4) (v := .tmp 80) (w1 := w10.setRow w.heap.size #[.int .i64 x.f0, .int .i64 x.f1, .int .i64 x.f2, .string x.f3, .slice a4 x.f4.length ac4, .slice a5 x.f5.length ac5, .int .i64 x.f6.f0, .string x.f6.f1, .int .i64 x.f6.f2, .slice a9 x.f6.f3.length ac9]) ?hg ?ho ?hn ?hr ?_; (case ho => rfl); (case hg => rfl); (case hn => rfl); (case hr => exact store27 w10 _ _ _ HRX.out rfl rfl (by first | kernel_rfl | (simp [Value.oneCell'])) _ _ _ _ rfl rfl rfl); intro w7 hw7; subst hw7)))
   refine bodyPost_ret (results_ct rfl _ _ w.heap.size 27 #[.int .i64 x.f0, .int .i64 x.f1, .int .i64 x.f2, .string x.f3, .slice a4 x.f4.length ac4, .slice a5 x.f5.length ac5, .int .i64 x.f6.f0, .string x.f6.f1, .int .i64 x.f6.f2, .slice a9 x.f6.f3.length ac9] (0, 0) _ rfl (has_row HRX.out #[.int .i64 x.f0, .int .i64 x.f1, .int .i64 x.f2, .string x.f3, .slice a4 x.f4.length ac4, .slice a5 x.f5.length ac5, .int .i64 x.f6.f0, .string x.f6.f1, .int .i64 x.f6.f2, .slice a9 x.f6.f3.length ac9]) Tryd.underlying27 rfl (by rfl)) rfl ?_
   have hs8 : w.heap.size + 1 ≤ w8.heap.size := by have q1 := hb8.size; simp at q1; omega
   rw [← HRQ.out, if_pos HO.out, HR.out]
   simp only [PR.andThen, HZ.out]
   exact ⟨kept_row (((((HK6.out.below b7).below hb8).then_ hk9).below ba).below hb10) (Nat.le_refl _) _, _, rfl, ⟨_, rfl, ((((hv9.lower hs8).below ba).below hb10).row (by omega) #[.int .i64 x.f0, .int .i64 x.f1, .int .i64 x.f2, .string x.f3, .slice a4 x.f4.length ac4, .slice a5 x.f5.length ac5, .int .i64 x.f6.f0, .string x.f6.f1, .int .i64 x.f6.f2, .slice a9 x.f6.f3.length ac9]).lower (by omega)⟩, (HP9.below hb10).ps.rowP HRX.out _⟩
end Go.Proofs.YtngpgdmafmkddaaDoor.Par
end
section
namespace Go.Proofs.YtngpgdmafmkddaaDoor.Par
open Go.Proofs.YtngpgdmafmkddaaDoor.Calm Go.RowKit Go.Proofs.YtngpgdmafmkddaaDoorW.PrintWords Go.Proofs.YtngpgdmafmkddaaDoorW.PrintLast Go.Proofs.YtngpgdmafmkddaaDoorW.PrintMore
open Go.Proofs.YtngpgdmafmkddaaDoor.PParseBlanks (S35 S25 S27 k35 k25 k27 rd_T35 rd_T25 rd_T27 at_T35 at_T25 at_T27)
set_option linter.unusedVariables false
set_option linter.unusedSimpArgs false
def IT (g : Nat) (d : Int) (b : Nat) (w : World) (xs : List S27) : Prop :=
 ∃ v, Has w b #[.pointer (some ⟨g, 0, none⟩)] 52 ∧ Has w (b + 1) #[.int .i64 d] 3 ∧ Has w (b + 2) #[v] 22 ∧ k27.R 27 w (b + 3) Any v xs
theorem IT.kept {g b : Nat} {d : Int} {w w' : World} {xs : List S27} (hgb : g < b) (h : IT g d b w xs) (hk : KeptG g w w') : IT g d b w' xs := by
 obtain ⟨v, h1, h2, h3, h4⟩ := h
 refine ⟨v, Kept.has hk h1 (by omega), Kept.has hk h2 (by omega), Kept.has hk h3 (by omega), Kd.R_mono (Kd.R_step (Kd.R_bound h4) fun k hk1 hk2 => hk.block k hk2 (by have := hk1.2.1; omega)) fun _ _ => trivial⟩
def rdTrees (e d : Int) (n : Nat) (xs : List S27) (l : List S35) : PR (List S27) := if xs.length ≥ 1000000 then .out else (climbP e n (d + 1) true 1 l).andThen fun x l => .ok (xs ++ [x]) l
abbrev TS (g : Nat) (d : Int) (b : Nat) (v : Value) (w : World) : Prop := w.cell? ⟨b, 0, none⟩ = some (.pointer (some ⟨g, 0, none⟩)) ∧ w.cell? ⟨b + 1, 0, none⟩ = some (.int .i64 d) ∧ w.cell? ⟨b + 2, 0, none⟩ = some v
theorem ER.go {w : World} {f : FuncId} {args : Array Value} {r : Result Next} (h : r = .ok (.enter f args) w) : ER w f args r := ⟨h⟩
theorem PPost.ways {α : Type} {g : Nat} {e : Int} {V : World → Value → α → Prop} {r : PR α} {w w' : World} {en : Ending} (h : PPost g e V r w en w') :
  (∃ v x l, r = .ok x l ∧ en = .returned v ∧ KeptG g w w' ∧ V w' v x ∧ PS w' g l e) ∨ (∃ a er, r = .bad a er ∧ en = .panicked [stopE a er] ∧ KeptG g w w') := by
 obtain ⟨hk, h⟩ := h
 cases r with
 | ok x l => obtain ⟨v, he, hv, hp⟩ := h; exact .inl ⟨v, x, l, rfl, he, hk, hv, hp⟩
 | bad a er => exact .inr ⟨a, er, rfl, h, hk⟩
 | out => exact h.elim
abbrev Z0 : S27 := ⟨0, 0, 0, ⟨#[]⟩, [], [], ⟨0, ⟨#[]⟩, 0, []⟩⟩
theorem Z0_M (w : World) (base : Nat) (ok : Nat → Prop) : k27.M w base ok Z0 [.int .i64 0, .int .i64 0, .int .i64 0, .string ⟨#[]⟩, .slice none 0 0, .slice none 0 0, .int .i64 0, .string ⟨#[]⟩, .int .i64 0, .slice none 0 0] :=
 PParseBlanks.k27_mkM w base ok Z0 (Kd.R_nil _ _ _ _ _) (Kd.R_nil _ _ _ _ _) (Kd.R_nil _ _ _ _ _)
theorem Z0_reads {W : World} {lb : Nat} (h : Has W lb #[.int .i64 0, .int .i64 0, .int .i64 0, .string ⟨#[]⟩, .slice none 0 0, .slice none 0 0, .int .i64 0, .string ⟨#[]⟩, .int .i64 0, .slice none 0 0] 27) : ReadsRow (fun x cs => x = Z0 ∧ cs = [.int .i64 0, .int .i64 0, .int .i64 0, .string ⟨#[]⟩, .slice none 0 0, .slice none 0 0, .int .i64 0, .string ⟨#[]⟩, .int .i64 0, .slice none 0 0]) 10 W (some ⟨lb, 0, none⟩) 1 [Z0] := by
 refine ⟨rfl, by decide, fun _ => ⟨_, rfl, fun j p hj => ?_⟩⟩
 obtain rfl : j = 0 := by
  rcases j with _ | j
  ·rfl
  ·simp at hj
 obtain rfl : Z0 = p := by simpa using hj
 refine ⟨[.int .i64 0, .int .i64 0, .int .i64 0, .string ⟨#[]⟩, .slice none 0 0, .slice none 0 0, .int .i64 0, .string ⟨#[]⟩, .int .i64 0, .slice none 0 0], rfl, ⟨rfl, rfl⟩, fun i u hi => ?_⟩
 have := h.cell i
 have e : (⟨lb, 0, none⟩ : Addr).add (0 * 10 + i) = ⟨lb, i, none⟩ := by
  unfold Addr.add
  split <;> rename_i h2 <;> simp at h2 ⊢ <;> omega
 rw [e, this]
 simpa using hi
theorem C_blk {w w' : World} {A : Option Addr} {l : List S35} (h : Kd.C k35 w A l.length l) (hp : ∀ ad, A = some ad → w'.heap[ad.block]? = w.heap[ad.block]?) : Kd.C k35 w' A l.length l := by
 obtain ⟨h1, h2, h3⟩ := h
 refine ⟨h1, h2, fun h0 => ?_⟩
 obtain ⟨ad, e, hc⟩ := h3 h0
 refine ⟨ad, e, fun j q hj => ?_⟩
 obtain ⟨c, hl, hr, hcell⟩ := hc j q hj
 refine ⟨c, hl, hr, fun i v hi => ?_⟩
 have hb : (ad.add (j * k35.sz + i)).block = ad.block := by unfold Addr.add; split <;> rfl
 have := hcell i v hi
 unfold World.cell? at this ⊢
 rw [hb, hp ad e, ← hb]; exact this
theorem PS.setD {w : World} {g b : Nat} {l : List S35} {e : Int} {old : Array Value} (h : PS w g l e) (hr : Has w b old 22) (i : Nat) (u : Value) : PS (w.setCell ⟨b, i, none⟩ u) g l e := by
 obtain ⟨A, c, HP⟩ := h
 exact ⟨A, c, HP.has.other (HP.has.ne hr (by decide)) u, HP.le, C_far HP.toks (HP.row.ne hr (by decide)) u, HP.row.set (HP.row.ne hr (by decide)) u⟩
theorem PS.grown {w w' : World} {g : Nat} {l : List S35} {e : Int} {row : Option Nat} (h : PS w g l e) (hG : w.grownBy w' row) (hr : ∀ k, row = some k → ∃ cs, Has w k cs 27) : PS w' g l e := by
 obtain ⟨A, c, H⟩ := h
 have hb : ∀ ad, A = some ad → w'.heap[ad.block]? = w.heap[ad.block]? := fun ad ea => by
  obtain ⟨cs', h35⟩ := H.row ad ea
  exact hG.block _ h35.lt fun he => by
   obtain ⟨cs, h27⟩ := hr _ he.symm
   exact h35.ne h27 (by decide) rfl
 refine ⟨A, c, H.has.of_block (hG.block _ H.has.lt fun he => ?_), H.le, C_blk H.toks hb, H.row.of hb⟩
 obtain ⟨cs, h27⟩ := hr _ he.symm
 exact H.has.ne h27 (by decide) rfl
theorem R_own27 {w : World} {base : Nat} {ok : Nat → Prop} {v : Value} {xs : List S27} (h : k27.R 27 w base ok v xs) : ∀ k, v.ownBlock = some k → ∃ cs, Has w k cs 27 := fun k hk => by
 obtain ⟨_, inner, hown, _⟩ := h
 exact own_typed hown k hk
set_option maxRecDepth 100000 in
set_option maxHeartbeats 4000000 in
theorem trees_rd {n : Nat} (HT : TreeOK n) (g : Nat) (e d : Int) (h0 : 0 ≤ d) (h1 : d + 1 ≤ 1000) (b : Nat) (hgb : g < b) (xs : List S27) (l : List S35) (w : World) (HI : IT g d b w xs) (HP : PS w g l e) (hne : rdTrees e d n xs l ≠ .out) :
  Calls Tryd.prog 90 #[.pointer (some ⟨b + 2, 0, none⟩), .pointer (some ⟨b, 0, none⟩), .pointer (some ⟨b + 1, 0, none⟩)] w (LPost g e (fun k => k = g ∨ b ≤ k) (IT g d b) (rdTrees e d n xs l) w) := by
 unfold TreeOK at HT
 have HTT := Aside0.mk HT
 have hu27 := Tryd.underlying27
 by_cases hn : xs.length ≥ 1000000
 ·exact absurd (if_pos hn) hne
 have HE : rdTrees e d n xs l = (climbP e n (d + 1) true 1 l).andThen (fun x l => .ok (xs ++ [x]) l) := if_neg hn
 rw [HE] at hne ⊢
 have hD := below_drew (Below.refl w.heap.size w)
 have HPD := HP.below hD
 have HID := HI.kept hgb (.of_below hD)
 obtain ⟨v, hb0, hb1, hb2, hR⟩ := HID
 obtain ⟨A, c, rfl⟩ := Kd.R_slice hR
 have c0 := hb0.cell 0
 have c1 := hb1.cell 0
 have c2 := hb2.cell 0
 simp only [List.getElem?_toArray, List.getElem?_cons_zero, List.getElem?_cons_succ] at c0 c1 c2
 have HK0 : KeptG g w w.drew := .of_below hD
 have HK0 := Aside0.mk HK0
 have HPD := Aside0.mk HPD
 have HR := Aside0.mk hR
 have HB0 := Aside0.mk hb0
 have HB1 := Aside0.mk hb1
 have HB2 := Aside0.mk hb2
 clear HT HI HP hD hR hb0 hb1 hb2 HE
 have HNE := Aside0.mk hne
 clear hne
 go_enter Tryd.func90, Tryd.ntmps90
 refine region_treeR 7 (by kernel_rfl) (by kernel_rfl) (TS g d b (.slice A xs.length c)) ⟨c0, c1, c2⟩ fun hS => ?_
 generalize w.drew = W at *
 simp only [List.take_succ_cons, List.take_zero]
 generalize hQQ : tailK _ _ = QQ
 have hsure : Sure QQ := by
  rw [← hQQ]
  intro c a a' w1 hd h
  simp +zetaDelta only [tailK, Exit.then, Exit.inBlock, bodyPost] at h ⊢
  simpa [hd] using h
 refine treeQ_h hsure hS (i := 0) (by kernel_rfl) (by rfl) (by rfl) (by kernel_rfl) (by rfl) ?_
 apply Exists.intro
 apply And.intro
 ·rintro w' ⟨k1, k2, k3⟩
  apply VR.mk
  go_simp
  with_reducible rfl
 simp only [List.setIfInBounds_toArray, List.set_cons_zero, List.set_cons_succ]
 refine treeQ_h hsure hS (i := 1) (by kernel_rfl) (by rfl) (by rfl) (by kernel_rfl) (by rfl) ?_
 apply Exists.intro
 apply And.intro
 ·rintro w' ⟨k1, k2, k3⟩
  apply VR.mk
  go_simp
  with_reducible rfl
 simp only [List.setIfInBounds_toArray, List.set_cons_zero, List.set_cons_succ]
 refine treeQ_h hsure hS (i := 2) (by kernel_rfl) (by rfl) (by rfl) (by kernel_rfl) (by rfl) ?_
 apply Exists.intro
 apply And.intro
 ·rintro w' ⟨k1, k2, k3⟩
  apply VR.mk
  go_simp
  with_reducible rfl
 simp only [List.setIfInBounds_toArray, List.set_cons_zero, List.set_cons_succ]
 refine treeQ_h hsure hS (i := 3) (by kernel_rfl) (by rfl) (by rfl) (by kernel_rfl) (by rfl) ?_
 apply Exists.intro
 apply And.intro
 ·rintro w' ⟨k1, k2, k3⟩
  apply VR.mk
  go_simp
  with_reducible rfl
 simp only [List.setIfInBounds_toArray, List.set_cons_zero, List.set_cons_succ]
 refine treeQ_h hsure hS (i := 5) (by kernel_rfl) (by rfl) (by rfl) (by kernel_rfl) (by rfl) ?_
 apply Exists.intro
 apply And.intro
 ·rintro w' ⟨k1, k2, k3⟩
  apply VR.mk
  go_simp
  with_reducible rfl
 simp only [List.setIfInBounds_toArray, List.set_cons_zero, List.set_cons_succ]
 have kw : IntKind.i64.wrap (d + 1) = d + 1 := IntWalk.i64_in _ (by omega)
 rw [kw]
 have hlt : b + 2 < W.heap.size := HB2.out.lt
 have TAIL : ∀ (W6 : World) (x : S27) (l2 : List S35) (lb : Nat) (cs : List Value), climbP e n (d + 1) true 1 l = .ok x l2 → VO (fun k => W.heap.size ≤ k) (b + 3) W6 (.agg cs.toArray) x → Has W6 lb #[.int .i64 0, .int .i64 0, .int .i64 0, .string ⟨#[]⟩, .slice none 0 0, .slice none 0 0, .int .i64 0, .string ⟨#[]⟩, .int .i64 0, .slice none 0 0] 27 → TS g d b (.slice A xs.length c) W6 → KeptG g W W6 → PS W6 g l2 e →
   QQ .normal { tmps := #[.pointer (some ⟨b + 2, 0, none⟩), .pointer (some ⟨b, 0, none⟩), .pointer (some ⟨b + 1, 0, none⟩), .slice A xs.length c, .pointer (some ⟨g, 0, none⟩), .int .i64 d, .int .i64 (d + 1), .agg cs.toArray, .int .i64 xs.length, .slice (some ⟨lb, 0, none⟩) 1 1, undef, undef], defers := [] } W6 := by
  intro W6 x l2 lb cs hr hV hL hS6 hK6 hP6
  rw [← hQQ]
  refine restQ_tree (fun _ => True) ?_
  refine tree_1Q (i := 7) (by kernel_rfl) ?_
  refine step_list (by rfl) ?_
  have hR6 : k27.R 27 W6 (b + 3) Any (.slice A xs.length c) xs := Kd.R_mono (Kd.R_step (Kd.R_bound HR.out) fun k hk1 hk2 => hK6.block k hk2 (by have := hk1.2.1; omega)) fun _ _ => trivial
  refine Kd.R_append_rows k27 (w0 := W6) (b + 3) rfl (.tmp 3) (.tmp 9) 22 27 (.agg #[.int .i64 0, .int .i64 0, .int .i64 0, .string ⟨#[]⟩, .slice none 0 0, .slice none 0 0, .int .i64 0, .string ⟨#[]⟩, .int .i64 0, .slice none 0 0]) 144 rfl Tryd.underlying22 info27 rfl (by decide) (by decide) (.slice A xs.length c) xs [Z0] (some ⟨lb, 0, none⟩) 1 1 Any (fun _ => False) rfl rfl hR6 (Z0_reads hL) (fun x cs h => by rw [h.1, h.2]; exact Z0_M _ _ _) (fun _ h => h.elim) (fun _ _ => trivial) (Below.refl _ _) (by have := hK6.size; omega) (by omega) ?_
  intro v1 W7 hR7 hB7 hG7 hat7
  refine ⟨trivial, ?_⟩
  have hlen : (xs ++ [Z0]).length = xs.length + 1 := by simp
  obtain ⟨g7, cap7, rfl, hb7, hlt7⟩ : ∃ g7 cap7, v1 = .slice (some ⟨g7, 0, none⟩) (xs.length + 1) cap7 ∧ b + 3 ≤ g7 ∧ g7 < W7.heap.size := by
   obtain ⟨_, inner, hown, _⟩ := hR7
   obtain ⟨g7, cap7, h1, h2, h3⟩ := hown.form (by simp)
   exact ⟨g7, cap7, by rw [h1, hlen], h2, h3⟩
  have hi0 : (0 : Int) ≤ (xs.length : Int) := by omega
  have hi1 : (xs.length : Int) < ((xs.length + 1 : Nat) : Int) := by omega
  have hwr : IntKind.i64.wrap (xs.length : Int) = xs.length := IntWalk.i64_in _ (by omega)
  refine treeQ_h (by
   intro c a a' w1 hd h
   simp +zetaDelta only [Exit.then, Exit.inBlock, bodyPost] at h ⊢
   simpa [hd] using h) trivial (i := 8) (by kernel_rfl) (by rfl) (by rfl) (by kernel_rfl) (by rfl) ?_
  refine ⟨.pointer (some ⟨g7, xs.length * 10, none⟩), ?_, ?_⟩
  ·rintro w' -
   apply VR.mk
   go_simp
   intro hbad
   omega
  simp only [Act.put, List.setIfInBounds_toArray, List.set_cons_zero, List.set_cons_succ]
  have hob : ∀ k, (Value.slice A xs.length c).ownBlock = some k → b + 3 ≤ k ∧ k < W.heap.size := fun k hk => ⟨((Kd.R_bound HR.out).1 k hk).2.1, ((Kd.R_bound HR.out).1 k hk).2.2.1⟩
  have hsep : ∀ k, W.heap.size ≤ k → k < W6.heap.size → k ≠ g7 := fun k h1 h2 he => by
   rcases hat7 with h | ⟨b', h, h3⟩
   ·have := hob g7 (h ▸ rfl); omega
   ·have e1 : g7 = b' := by simpa [Value.ownBlock] using h
    omega
  have hblk : ∀ k, k < W6.heap.size → (k < b + 3 ∨ W.heap.size ≤ k) → W7.heap[k]? = W6.heap[k]? := fun k h1 h2 => hG7.block k h1 fun he => by have := hob k he.symm; omega
  have hs6 := hK6.size
  have hb6 := Kept.has hK6 HB0.out (by omega)
  have hb16 := Kept.has hK6 HB1.out (by omega)
  have hb26 := Kept.has hK6 HB2.out (by omega)
  have h7a := hb6.of_block (hblk b (by omega) (by omega))
  have h7b := hb16.of_block (hblk (b + 1) (by omega) (by omega))
  have h7c := hb26.of_block (hblk (b + 2) (by omega) (by omega))
  have hV7 : VO (fun k => W.heap.size ≤ k ∧ k ≠ g7) (b + 3) W7 (.agg cs.toArray) x := (hV.bound.step (fun k h1 _ h2 => hblk k h2 (.inr h1.1))).mono fun k h => ⟨h.1, hsep k h.1 h.2.2⟩
  obtain ⟨MX, lX⟩ := VO.lit hV7
  have hP7 := hP6.grown hG7 (fun k hk => R_own27 hR6 k hk)
  have hK7 : Kept (fun k => k = g ∨ b ≤ k) W W7 := (hK6.mono fun k hk => .inl hk).grown hG7 fun k hk => .inl (.inr (by have := hob k hk; omega))
  have FIN : ∀ W9 : World, k27.R 27 W9 (b + 3) Any (.slice (some ⟨g7, 0, none⟩) (xs.length + 1) cap7) (xs ++ [x]) → Has W9 b #[.pointer (some ⟨g, 0, none⟩)] 52 → Has W9 (b + 1) #[.int .i64 d] 3 → Has W9 (b + 2) #[.slice (some ⟨g7, 0, none⟩) (xs.length + 1) cap7] 22 → Kept (fun k => k = g ∨ b ≤ k) W W9 → PS W9 g l2 e →
    LPost g e (fun k => k = g ∨ b ≤ k) (IT g d b) ((climbP e n (d + 1) true 1 l).andThen fun x l => .ok (xs ++ [x]) l) w (.returned (.tuple #[])) W9 := by
   intro W9 q1 q2 q3 q4 q5 q6
   rw [hr]
   exact ⟨(HK0.out.mono fun k hk => .inl hk).then_ q5, rfl, ⟨_, q2, q3, q4, q1⟩, q6⟩
  have hset : (xs ++ [Z0]).set ((xs.length : Int)).toNat x = xs ++ [x] := by simp
  have hcur : ∀ W' : World, k27.R 27 W' (b + 3) Any (.slice (some ⟨g7, 0, none⟩) (xs.length + 1) cap7) (xs ++ [Z0]) → ∃ c : List Value, c.length = 10 ∧ ∀ j u, c[j]? = some u → W'.cell? ⟨g7, (xs.length : Int).toNat * 10 + j, none⟩ = some u := by
   intro W' hR'
   obtain ⟨_, hC⟩ := Kd.R_reads' hR'
   obtain ⟨ad, ea, hc⟩ := hC.2.2.2 (by simp)
   obtain rfl : (⟨g7, 0, none⟩ : Addr) = ad := Option.some.inj ea
   obtain ⟨c9, hl9, _, hcell⟩ := hc xs.length Z0 (by simp)
   refine ⟨c9, hl9, fun j u hj => ?_⟩
   have h := hcell j u hj
   have e : (⟨g7, 0, none⟩ : Addr).add (xs.length * k27.sz + j) = ⟨g7, (xs.length : Int).toNat * 10 + j, none⟩ := by
    have hz : k27.sz = 10 := rfl
    rw [hz]
    unfold Addr.add
    split <;> rename_i h2 <;> simp at h2 ⊢ <;> omega
   rw [e] at h
   exact h
  refine tree_2Q (i := 9) (k := 10) (by kernel_rfl) ?_ ?_
  ·refine step_list (by rfl) ?_
   obtain ⟨c9, hcl, hcc⟩ := hcur W7 hR7
   refine Kd.R_store k27 (w0 := W7) (b + 3) rfl rfl 27 (.tmp 11) (.tmp 7) rfl 27 (xs.length : Int) 0 (xs ++ [Z0]) x (.agg cs.toArray) cs c9 Any (fun k => W.heap.size ≤ k ∧ k ≠ g7) rfl (by simp; rfl) rfl (by simp [Value.cells]) (by rw [lX]; exact i27) (k27.K_one (k27.K_of_M MX)) hR7 hi0 hi1 hcl hcc (by rw [lX]; exact Nat.le_refl _) (by simpa [lX, List.drop_eq_nil_of_le (Nat.le_of_eq hcl)] using MX) (fun k hk => ⟨trivial, hk.2⟩) (Below.refl _ _) ?_
   intro W8 hR8 hB8 hG8
   rw [hset] at hR8
   have hb8 : ∀ k, k < W7.heap.size → k ≠ g7 → W8.heap[k]? = W7.heap[k]? := fun k h1 h2 => hG8.block k h1 fun he => h2 (Option.some.inj he)
   have h8a := h7a.of_block (hb8 _ h7a.lt (by omega))
   have h8b := h7b.of_block (hb8 _ h7b.lt (by omega))
   have h8c := h7c.of_block (hb8 _ h7c.lt (by omega))
   have hP8 := hP7.grown hG8 (fun k hk => by obtain rfl : g7 = k := Option.some.inj hk; exact R_own27 hR7 g7 rfl)
   have hK8 := hK7.grown hG8 fun k hk => .inl (.inr (by obtain rfl : g7 = k := Option.some.inj hk; omega))
   refine ⟨trivial, ?_⟩
   refine tree_1Q (i := 10) (by kernel_rfl) ?_
   refine step_list (by rfl) ?_
   have p8 := h8c.cell 0
   have f8 := h8c.frozen 0
   simp only [List.getElem?_toArray, List.getElem?_cons_zero, List.getElem?_cons_succ] at p8
   go_wp2
   refine ⟨trivial, tree_endQ (by kernel_rfl) ?_⟩
   refine bodyPost_end (results_none rfl _ _ _) rfl ?_
   exact FIN _ (Kd.R_set hR8 h8c (by decide) 0 _) (h8a.other (a := ⟨b + 2, 0, none⟩) (by show b ≠ b + 2; omega) _) (h8b.other (a := ⟨b + 2, 0, none⟩) (by show b + 1 ≠ b + 2; omega) _) (h8c.set_ 0 _) (hK8.setCell (a := ⟨b + 2, 0, none⟩) (.inr (by show b ≤ b + 2; omega)) _) (hP8.setD h8c 0 _)
  ·refine step_list (by rfl) ?_
   have p7 := h7c.cell 0
   have f7 := h7c.frozen 0
   simp only [List.getElem?_toArray, List.getElem?_cons_zero, List.getElem?_cons_succ] at p7
   go_wp2
   refine ⟨trivial, ?_⟩
   have hR7b := Kd.R_set hR7 h7c (by decide) 0 (.slice (some ⟨g7, 0, none⟩) (xs.length + 1) cap7)
   have h8a := h7a.other (a := ⟨b + 2, 0, none⟩) (by show b ≠ b + 2; omega) (.slice (some ⟨g7, 0, none⟩) (xs.length + 1) cap7)
   have h8b := h7b.other (a := ⟨b + 2, 0, none⟩) (by show b + 1 ≠ b + 2; omega) (.slice (some ⟨g7, 0, none⟩) (xs.length + 1) cap7)
   have h8c := h7c.set_ 0 (.slice (some ⟨g7, 0, none⟩) (xs.length + 1) cap7)
   have hK8 := hK7.setCell (a := ⟨b + 2, 0, none⟩) (.inr (by show b ≤ b + 2; omega)) (.slice (some ⟨g7, 0, none⟩) (xs.length + 1) cap7)
   have hP8 := hP7.setD h7c 0 (.slice (some ⟨g7, 0, none⟩) (xs.length + 1) cap7)
   have hV8 := hV7.setO (a := ⟨b + 2, 0, none⟩) (fun k h1 _ => by show k ≠ b + 2; omega) (.slice (some ⟨g7, 0, none⟩) (xs.length + 1) cap7)
   have hg7 : g7 < (W7.setCell ⟨b + 2, 0, none⟩ (.slice (some ⟨g7, 0, none⟩) (xs.length + 1) cap7)).heap.size := by simpa using hlt7
   generalize W7.setCell ⟨b + 2, 0, none⟩ (.slice (some ⟨g7, 0, none⟩) (xs.length + 1) cap7) = W8 at *
   obtain ⟨MX8, lX8⟩ := VO.lit hV8
   refine tree_1Q (i := 9) (by kernel_rfl) ?_
   refine step_list (by rfl) ?_
   obtain ⟨c9, hcl, hcc⟩ := hcur W8 hR7b
   refine Kd.R_store k27 (w0 := W8) (b + 3) rfl rfl 27 (.tmp 11) (.tmp 7) rfl 27 (xs.length : Int) 0 (xs ++ [Z0]) x (.agg cs.toArray) cs c9 Any (fun k => W.heap.size ≤ k ∧ k ≠ g7) rfl (by simp; rfl) rfl (by simp [Value.cells]) (by rw [lX]; exact i27) (k27.K_one (k27.K_of_M MX)) hR7b hi0 hi1 hcl hcc (by rw [lX]; exact Nat.le_refl _) (by simpa [lX, List.drop_eq_nil_of_le (Nat.le_of_eq hcl)] using MX8) (fun k hk => ⟨trivial, hk.2⟩) (Below.refl _ _) ?_
   intro W9 hR9 hB9 hG9
   rw [hset] at hR9
   have hb9 : ∀ k, k < W8.heap.size → k ≠ g7 → W9.heap[k]? = W8.heap[k]? := fun k h1 h2 => hG9.block k h1 fun he => h2 (Option.some.inj he)
   refine ⟨trivial, tree_endQ (by kernel_rfl) ?_⟩
   refine bodyPost_end (results_none rfl _ _ _) rfl ?_
   exact FIN W9 hR9 (h8a.of_block (hb9 _ h8a.lt (by omega))) (h8b.of_block (hb9 _ h8b.lt (by omega))) (h8c.of_block (hb9 _ h8c.lt (by omega))) (hK8.grown hG9 fun k hk => .inl (.inr (by obtain rfl : g7 = k := Option.some.inj hk; omega))) (hP8.grown hG9 (fun k hk => by obtain rfl : g7 = k := Option.some.inj hk; exact R_own27 hR7b g7 rfl))
 have CL : ∀ W1 : World, PS W1 g l e → Calls Tryd.prog 18 #[.pointer (some ⟨g, 0, none⟩), .int .i64 (d + 1), .bool true] W1 (fun en w' => (∃ v x l2, climbP e n (d + 1) true 1 l = .ok x l2 ∧ en = .returned v ∧ KeptG g W1 w' ∧ VE W1.heap.size w' v x ∧ PS w' g l2 e) ∨ (∃ a er, climbP e n (d + 1) true 1 l = .bad a er ∧ en = .panicked [stopE a er] ∧ KeptG g W1 w')) := fun W1 hP1 =>
  (HTT.out g e (d + 1) true l W1 (by omega) h1 hP1 (fun h => HNE.out (by rw [h]; rfl))).mono fun en w' h => h.ways
 have hPW := HPD.out
 have TSb : ∀ w1 w2 : World, TS g d b (.slice A xs.length c) w1 → Below w1.heap.size w1 w2 → TS g d b (.slice A xs.length c) w2 := fun w1 w2 h hb => ⟨pwcb hb h.1, pwcb hb h.2.1, pwcb hb h.2.2⟩
 have TSk : ∀ w2 : World, KeptG g W w2 → TS g d b (.slice A xs.length c) w2 := fun w2 hk => by
  have q1 := (Kept.has hk HB0.out (by omega)).cell 0
  have q2 := (Kept.has hk HB1.out (by omega)).cell 0
  have q3 := (Kept.has hk HB2.out (by omega)).cell 0
  simp only [List.getElem?_toArray, List.getElem?_cons_zero, List.getElem?_cons_succ] at q1 q2 q3
  exact ⟨q1, q2, q3⟩
 refine tree_2Q (i := 4) (k := 6) (by kernel_rfl) ?_ ?_
 ·refine step_callQ (by rfl) (by rfl) (by rfl) (ER.go (by go_simp; with_reducible exact ⟨rfl, rfl⟩)) ?_
  refine (CL W hPW).mono ?_
  rintro en W1 (⟨v, x, l2, hr, rfl, hk, hv, hp⟩ | ⟨a, er, hr, rfl, hk⟩)
  ·refine .inl ⟨v, rfl, TSk W1 hk, ?_⟩
   obtain ⟨cs, rfl, _⟩ := hv.M
   simp only [List.setIfInBounds_toArray, List.set_cons_zero, List.set_cons_succ]
   have ba := below_alloc (Below.refl W1.heap.size W1) (Obj.cells #[.int .i64 0, .int .i64 0, .int .i64 0, .string ⟨#[]⟩, .slice none 0 0, .slice none 0 0, .int .i64 0, .string ⟨#[]⟩, .int .i64 0, .slice none 0 0] 27)
   refine tree_1Q (i := 6) (by kernel_rfl) ?_
   refine step_valueQ (v := .slice (some ⟨W1.heap.size, 0, none⟩) 1 1) (w' := W1.alloc (Obj.cells #[.int .i64 0, .int .i64 0, .int .i64 0, .string ⟨#[]⟩, .slice none 0 0, .slice none 0 0, .int .i64 0, .string ⟨#[]⟩, .int .i64 0, .slice none 0 0] 27)) (by rfl) (by rfl) (by rfl) ⟨by go_simp⟩ (TSb _ _ (TSk W1 hk) ba) ?_
   simp only [List.setIfInBounds_toArray, List.set_cons_zero, List.set_cons_succ]
   refine tree_endQ (by kernel_rfl) (TAIL _ x l2 W1.heap.size cs hr ?_ (Has.new W1 #[.int .i64 0, .int .i64 0, .int .i64 0, .string ⟨#[]⟩, .slice none 0 0, .slice none 0 0, .int .i64 0, .string ⟨#[]⟩, .int .i64 0, .slice none 0 0] 27) (TSb _ _ (TSk W1 hk) ba) (hk.below ba) (hp.below ba))
   exact ((hv.bound.mono fun k h => h.2.1).lower (by omega)).below ba
  ·refine .inr ⟨_, rfl, ?_⟩
   rw [← hQQ, hr]
   exact ⟨rfl, (HK0.out.then_ hk).mono fun k hk => .inl hk, rfl⟩
 ·have ba := below_alloc (Below.refl W.heap.size W) (Obj.cells #[.int .i64 0, .int .i64 0, .int .i64 0, .string ⟨#[]⟩, .slice none 0 0, .slice none 0 0, .int .i64 0, .string ⟨#[]⟩, .int .i64 0, .slice none 0 0] 27)
  refine step_valueQ (v := .slice (some ⟨W.heap.size, 0, none⟩) 1 1) (w' := W.alloc (Obj.cells #[.int .i64 0, .int .i64 0, .int .i64 0, .string ⟨#[]⟩, .slice none 0 0, .slice none 0 0, .int .i64 0, .string ⟨#[]⟩, .int .i64 0, .slice none 0 0] 27)) (by rfl) (by rfl) (by rfl) ⟨by go_simp⟩ (TSb _ _ hS ba) ?_
  simp only [List.setIfInBounds_toArray, List.set_cons_zero, List.set_cons_succ]
  refine tree_1Q (i := 4) (by kernel_rfl) ?_
  refine step_callQ (by rfl) (by rfl) (by rfl) (ER.go (by go_simp; with_reducible exact ⟨rfl, rfl⟩)) ?_
  refine (CL _ (hPW.below ba)).mono ?_
  rintro en W1 (⟨v, x, l2, hr, rfl, hk, hv, hp⟩ | ⟨a, er, hr, rfl, hk⟩)
  ·have hk2 : KeptG g W W1 := (Kept.of_below ba).then_ hk
   refine .inl ⟨v, rfl, TSk W1 hk2, ?_⟩
   obtain ⟨cs, rfl, _⟩ := hv.M
   simp only [List.setIfInBounds_toArray, List.set_cons_zero, List.set_cons_succ]
   refine tree_endQ (by kernel_rfl) (TAIL _ x l2 W.heap.size cs hr ?_ (Kept.has hk (Has.new W #[.int .i64 0, .int .i64 0, .int .i64 0, .string ⟨#[]⟩, .slice none 0 0, .slice none 0 0, .int .i64 0, .string ⟨#[]⟩, .int .i64 0, .slice none 0 0] 27) (by omega)) (TSk W1 hk2) hk2 hp)
   exact (hv.bound.mono fun k h => Nat.le_trans ba.size h.2.1).lower (by have := ba.size; omega)
  ·refine .inr ⟨_, rfl, ?_⟩
   rw [← hQQ, hr]
   exact ⟨rfl, (HK0.out.then_ ((Kept.of_below ba).then_ hk)).mono fun k hk => .inl hk, rfl⟩
end Go.Proofs.YtngpgdmafmkddaaDoor.Par
end
section
namespace Go.Proofs.YtngpgdmafmkddaaDoor.Par
open Go.RowKit Go.Proofs.YtngpgdmafmkddaaDoorW.PrintWords Go.Proofs.YtngpgdmafmkddaaDoorW.PrintLast Go.Proofs.YtngpgdmafmkddaaDoorW.PrintMore
open Go.Proofs.YtngpgdmafmkddaaDoor.PParseBlanks (S35 S25 S27 k35 k25 k27 rd_T35 rd_T25 rd_T27 at_T35 at_T25 at_T27)
set_option linter.unusedVariables false
set_option linter.unusedSimpArgs false
def TreesOK (n : Nat) : Prop := ∀ (g : Nat) (e d : Int) (stop : ByteArray) (l : List S35) (w : World), 0 ≤ d → d + 1 ≤ 1000 → PS w g l e → treesP e n d stop l ≠ .out →
 Calls Tryd.prog 88 #[.pointer (some ⟨g, 0, none⟩), .int .i64 d, .string stop] w (PPost g e (fun w' v (xs : List S27) => k27.R 27 w' w.heap.size Any v xs) (treesP e n d stop l) w)
theorem Kept.narrow {g B : Nat} {w w1 w2 : World} (hb : Below w.heap.size w w1) (hB : w.heap.size ≤ B) (hk : Kept (fun k => k = g ∨ B ≤ k) w1 w2) : KeptG g w w2 :=
 ⟨hk.os.trans hb.os, hk.tape.trans hb.tape, hk.output.trans hb.output, Nat.le_trans hb.size hk.size, fun k h1 h2 => (hk.block k (Nat.lt_of_lt_of_le h1 hb.size) (fun h => h.elim h2 (fun h => by omega))).trans (hb.block k h1)⟩
set_option maxRecDepth 100000 in
set_option maxHeartbeats 2000000 in
theorem trees_ok {n : Nat} (HT : TreeOK n) : TreesOK (n + 1) := by
 intro g e d stop l w h0 h1 HP hne
 have HE : treesP e (n + 1) d stop l = listP e stop (rdTrees e d n) n [] l := rfl
 rw [HE] at hne ⊢
 have bb := below_alloc (below_alloc (below_alloc (Below.refl w.heap.size w) (Obj.cells #[.pointer (some ⟨g, 0, none⟩)] 52)) (Obj.cells #[.int .i64 d] 3)) (Obj.cells #[.slice none 0 0] 22)
 have hs1 : (w.alloc (Obj.cells #[.pointer (some ⟨g, 0, none⟩)] 52)).heap.size = w.heap.size + 1 := by simp
 have hs2 : ((w.alloc (Obj.cells #[.pointer (some ⟨g, 0, none⟩)] 52)).alloc (Obj.cells #[.int .i64 d] 3)).heap.size = w.heap.size + 2 := by simp
 have k1 := ((Has.new w #[.pointer (some ⟨g, 0, none⟩)] 52).alloc (Obj.cells #[.int .i64 d] 3)).alloc (Obj.cells #[.slice none 0 0] 22)
 have k2 : Has (((w.alloc (Obj.cells #[.pointer (some ⟨g, 0, none⟩)] 52)).alloc (Obj.cells #[.int .i64 d] 3)).alloc (Obj.cells #[.slice none 0 0] 22)) (w.heap.size + 1) #[.int .i64 d] 3 := by
  have h := Has.new (w.alloc (Obj.cells #[.pointer (some ⟨g, 0, none⟩)] 52)) #[.int .i64 d] 3
  rw [hs1] at h
  exact h.alloc _
 have k3 : Has (((w.alloc (Obj.cells #[.pointer (some ⟨g, 0, none⟩)] 52)).alloc (Obj.cells #[.int .i64 d] 3)).alloc (Obj.cells #[.slice none 0 0] 22)) (w.heap.size + 2) #[.slice none 0 0] 22 := by
  have h := Has.new ((w.alloc (Obj.cells #[.pointer (some ⟨g, 0, none⟩)] 52)).alloc (Obj.cells #[.int .i64 d] 3)) #[.slice none 0 0] 22
  rwa [hs2] at h
 obtain ⟨A0, c0, HP0⟩ := HP
 have hgw : g < w.heap.size := HP0.has.lt
 have HIT : IT g d w.heap.size (((w.alloc (Obj.cells #[.pointer (some ⟨g, 0, none⟩)] 52)).alloc (Obj.cells #[.int .i64 d] 3)).alloc (Obj.cells #[.slice none 0 0] 22)) [] := ⟨_, k1, k2, k3, Kd.R_nil _ _ _ _ _⟩
 have q1 := k1.cell 0
 simp only [List.getElem?_toArray, List.getElem?_cons_zero, List.getElem?_cons_succ] at q1
 have HLS := Aside0.mk (list_said g e stop 90 #[.pointer (some ⟨w.heap.size + 2, 0, none⟩), .pointer (some ⟨w.heap.size, 0, none⟩), .pointer (some ⟨w.heap.size + 1, 0, none⟩)] (by intro w; kernel_rfl) (fun k => k = g ∨ w.heap.size ≤ k) (.inl rfl) (IT g d w.heap.size) (fun w1 w2 xs h hk => h.kept hgw hk) (rdTrees e d n) (fun xs l w h1' h2 h3 => trees_rd HT g e d h0 h1 _ hgw xs l w h1' h2 h3) n [] l (((w.alloc (Obj.cells #[.pointer (some ⟨g, 0, none⟩)] 52)).alloc (Obj.cells #[.int .i64 d] 3)).alloc (Obj.cells #[.slice none 0 0] 22)) (HP0.below bb).ps HIT hne)
 have BB := Aside0.mk bb
 have HNE := Aside0.mk hne
 clear HIT k1 k2 k3 hs1 hs2 bb HE hne HP0
 cases hr : listP e stop (rdTrees e d n) n [] l with
 | out => exact absurd hr HNE.out
 | bad a er =>
  have HR := Aside0.mk hr
  clear hr
  go_enter Tryd.func88, Tryd.ntmps88
  go_wp2_with (go_at_call 43; (with_reducible refine HLS.out.mono ?_); rintro en w1 ⟨hk, hq⟩; rw [HR.out] at hq; subst hq)
  exact ⟨rfl, Kept.narrow BB.out (Nat.le_refl _) hk, rfl⟩
 | ok xs l2 =>
  have HR := Aside0.mk hr
  clear hr
  go_enter Tryd.func88, Tryd.ntmps88
  go_wp2_with (go_at_call 43; (with_reducible refine HLS.out.mono ?_); rintro en w1 ⟨hk, hq⟩; rw [HR.out] at hq; obtain ⟨rfl, ⟨v, i1, i2, i3, iR⟩, hp⟩ := hq; have q3 := i3.cell 0; simp only [List.getElem?_toArray, List.getElem?_cons_zero, List.getElem?_cons_succ] at q3; obtain ⟨A9, c9, rfl⟩ := Kd.R_slice iR)
  go_ret
  exact ⟨Kept.narrow BB.out (Nat.le_refl _) hk, _, rfl, Kd.R_lower iR (by omega), hp⟩
end Go.Proofs.YtngpgdmafmkddaaDoor.Par
end
section
namespace Go.Proofs.YtngpgdmafmkddaaDoor.Par
open Go.RowKit Go.Proofs.YtngpgdmafmkddaaDoorW.PrintWords Go.Proofs.YtngpgdmafmkddaaDoorW.PrintLast Go.Proofs.YtngpgdmafmkddaaDoorW.PrintMore
open Go.Proofs.YtngpgdmafmkddaaDoor.PParseBlanks (S35 S25 S27 k35 k25 k27 rd_T35 rd_T25 rd_T27 at_T35 at_T25 at_T27)
set_option linter.unusedVariables false
set_option linter.unusedSimpArgs false
section
variable {g : Nat} {e : Int} {l : List S35} {w : World}
theorem at_ps (H : PS w g l e) : Calls Tryd.prog 29 #[.pointer (some ⟨g, 0, none⟩)] w fun en w' => en = .returned (.int .i64 (atP e l)) ∧ Below w.heap.size w w' := let ⟨A, c, h⟩ := H; at_said g l e A c w h
theorem kind_ps (H : PS w g l e) : Calls Tryd.prog 19 #[.pointer (some ⟨g, 0, none⟩)] w fun en w' => en = .returned (.int .i64 (kindP l)) ∧ Below w.heap.size w w' := let ⟨A, c, h⟩ := H; kind_said g l e A c w h
theorem fail_ps (er : Int) (H : PS w g l e) : Calls Tryd.prog 20 #[.pointer (some ⟨g, 0, none⟩), .int .i64 er] w fun en w' => en = .panicked [stopE (atP e l) er] ∧ Below w.heap.size w w' := let ⟨A, c, h⟩ := H; fail_said g l e A c er w h
theorem is_ps (s : ByteArray) (H : PS w g l e) : Calls Tryd.prog 60 #[.pointer (some ⟨g, 0, none⟩), .string s] w fun en w' => en = .returned (.bool (isP s l)) ∧ Below w.heap.size w w' := let ⟨A, c, h⟩ := H; is_said g l e A c s w h
theorem one_ps (ss : List ByteArray) (A1 : Option Addr) (c1 : Nat) (H : PS w g l e) (HS : Kd.C Kd.string w A1 ss.length ss) (hn : ss.length < 4611686018427387904) : Calls Tryd.prog 61 #[.pointer (some ⟨g, 0, none⟩), .slice A1 ss.length c1] w fun en w' => en = .returned (.bool (oneP ss l)) ∧ Below w.heap.size w w' := let ⟨A, c, h⟩ := H; one_said g l e A c ss A1 c1 w h HS hn
theorem take_no (s : ByteArray) (H : PS w g l e) (h : isP s l = false) : Calls Tryd.prog 41 #[.pointer (some ⟨g, 0, none⟩), .string s] w fun en w' => en = .returned (.bool false) ∧ KeptG g w w' ∧ PS w' g l e := by
 refine (take_said g l e s w H).mono ?_
 rintro en w' ⟨he, hk, hp⟩
 rw [h] at he hp
 exact ⟨he, hk, hp⟩
theorem take_yes (s : ByteArray) (H : PS w g l e) (h : isP s l = true) : Calls Tryd.prog 41 #[.pointer (some ⟨g, 0, none⟩), .string s] w fun en w' => en = .returned (.bool true) ∧ KeptG g w w' ∧ PS w' g l.tail e := by
 refine (take_said g l e s w H).mono ?_
 rintro en w' ⟨he, hk, hp⟩
 rw [h] at he hp
 exact ⟨he, hk, hp⟩
theorem need_yes (s : ByteArray) (H : PS w g l e) (h : isP s l = true) : Calls Tryd.prog 42 #[.pointer (some ⟨g, 0, none⟩), .string s] w fun en w' => en = .returned (.tuple #[]) ∧ KeptG g w w' ∧ PS w' g l.tail e := by
 refine (need_said g l e s w H).mono ?_
 rintro en w' ⟨hk, hq⟩
 rw [h] at hq
 obtain ⟨v, he, rfl, hp⟩ := hq
 exact ⟨he, hk, hp⟩
theorem need_no (s : ByteArray) (H : PS w g l e) (h : isP s l = false) : Calls Tryd.prog 42 #[.pointer (some ⟨g, 0, none⟩), .string s] w fun en w' => en = .panicked [stopE (atP e l) 30] ∧ KeptG g w w' := by
 refine (need_said g l e s w H).mono ?_
 rintro en w' ⟨hk, hq⟩
 rw [h] at hq
 exact ⟨hq, hk⟩
theorem next_ps (H : PS w g l e) (h : l ≠ []) : Calls Tryd.prog 54 #[.pointer (some ⟨g, 0, none⟩)] w fun en w' => (∃ a s c, en = .returned (.agg #[.int .i64 a, .string s, .int .i64 c])) ∧ KeptG g w w' ∧ PS w' g l.tail e := by
 obtain ⟨A, c, h1⟩ := H
 cases l with
 | nil => exact absurd rfl h
 | cons t r =>
  refine (next_said g t r e A c w h1).mono ?_
  rintro en w' ⟨he, hk, hp⟩
  exact ⟨⟨_, _, _, he⟩, hk, hp⟩
theorem PS.setT {b : Nat} {old : Array Value} {t : TypeId} (h : PS w g l e) (hr : Has w b old t) (h1 : t ≠ 35) (h2 : t ≠ 76) (i : Nat) (u : Value) : PS (w.setCell ⟨b, i, none⟩ u) g l e := by
 obtain ⟨A, c, HP⟩ := h
 exact ⟨A, c, HP.has.other (HP.has.ne hr (Ne.symm h2)) u, HP.le, C_far HP.toks (HP.row.ne hr h1) u, HP.row.set (HP.row.ne hr h1) u⟩
theorem VO.kps {ok : Nat → Prop} {B : Nat} {w' : World} {v : Value} {x : S27} (h : VO ok B w v x) (hp : PS w g l e) (hk : KeptG g w w') : VO ok B w' v x := let ⟨_, _, HP⟩ := hp; h.kept HP.has hk
theorem R_kps {ok : Nat → Prop} {B : Nat} {w' : World} {v : Value} {xs : List S27} (h : k27.R 27 w B ok v xs) (hp : PS w g l e) (hk : KeptG g w w') : k27.R 27 w' B ok v xs := let ⟨_, _, HP⟩ := hp; Kd.R_mono (Kd.R_step (Kd.R_types h HP.has (by decide)) fun k hk1 hk2 => hk.block k hk2 hk1.2) fun k hk => hk.1
theorem PS.glt (h : PS w g l e) : g < w.heap.size := let ⟨_, _, HP⟩ := h; HP.has.lt
end
theorem Kept.setCellX {S : Nat → Prop} {w w1 : World} (h : Kept S w w1) {a : Addr} (ha : S a.block ∨ w.heap.size ≤ a.block) (v : Value) : Kept S w (w1.setCell a v) := ha.elim (fun h1 => h.setCell h1 v) fun h1 => h.setCellG h1 v
theorem kept_rowX {S : Nat → Prop} {w w1 : World} (h : Kept S w w1) {g : Nat} (hg : S g ∨ w.heap.size ≤ g) (cs : Array Value) : Kept S w (w1.setRow g cs) :=
 ⟨h.os, h.tape, h.output, by rw [row_size]; exact h.size, fun k hk hn => (row_block w1 g k cs (fun e => by subst e; rcases hg with h1 | h1; exact hn h1; omega)).trans (h.block k hk hn)⟩
theorem R_far {ok : Nat → Prop} {B : Nat} {w w' : World} {v : Value} {xs : List S27} (h : k27.R 27 w B ok v xs) (hm : ∀ k, B ≤ k → k < w.heap.size → w'.heap[k]? = w.heap[k]?) : k27.R 27 w' B ok v xs := Kd.R_mono (Kd.R_step (Kd.R_bound h) fun k hk1 hk2 => hm k hk1.2.1 hk2) fun _ h => h.1
theorem kidA {B : Nat} {W : World} {x : S27} {cs : List Value} (h : VO Any B W (.agg (List.toArray cs)) x) (hB : B ≤ W.heap.size) : k27.R 27 (W.alloc (.cells (List.toArray cs) 27)) B Any (.slice (some ⟨W.heap.size, 0, none⟩) 1 1) [x] := by
 obtain ⟨hM, hl⟩ := h.lit
 exact kids_lit W B hB trivial (xs := [x]) (reps_one hM hl) (by simp)
end Go.Proofs.YtngpgdmafmkddaaDoor.Par
end
section
namespace Go.Proofs.YtngpgdmafmkddaaDoor.Par
open Go.RowKit Go.Proofs.YtngpgdmafmkddaaDoorW.PrintWords Go.Proofs.YtngpgdmafmkddaaDoorW.PrintLast Go.Proofs.YtngpgdmafmkddaaDoorW.PrintMore
open Go.Proofs.YtngpgdmafmkddaaDoor.PParseBlanks (S35 S25 S27 k35 k25 k27 rd_T35 rd_T25 rd_T27 at_T35 at_T25 at_T27)
set_option linter.unusedVariables false
set_option linter.unusedSimpArgs false
def PrimaryOK (n : Nat) : Prop := ∀ (g : Nat) (e d : Int) (op : Bool) (l : List S35) (w : World), 0 ≤ d → d < 60 → PS w g l e → primaryP e n d op l ≠ .out →
 Calls Tryd.prog 79 #[.pointer (some ⟨g, 0, none⟩), .int .i64 d, .bool op] w (PPost g e (VE w.heap.size) (primaryP e n d op l) w)
def okOp (l : List S35) : Bool := decide (kindP l = 1) || decide (kindP l = 2) || oneP oneOperand l
theorem deep_ok (g : Nat) (l : List S35) (e d : Int) (w : World) (H : PS w g l e) (hd : d < 60) : Calls Tryd.prog 62 #[.pointer (some ⟨g, 0, none⟩), .int .i64 d] w fun en w' => en = .returned (.tuple #[]) ∧ KeptG g w w' ∧ PS w' g l e := by
 refine (deep_said g l e d w H).mono ?_
 rintro en w' ⟨hk, hq⟩
 rw [if_neg (show ¬ d ≥ 60 by omega)] at hq
 obtain ⟨v, he, rfl, hp⟩ := hq
 exact ⟨he, hk, hp⟩
theorem deep_bad (g : Nat) (l : List S35) (e d : Int) (w : World) (H : PS w g l e) (hd : d ≥ 60) : Calls Tryd.prog 62 #[.pointer (some ⟨g, 0, none⟩), .int .i64 d] w fun en w' => en = .panicked [stopE (atP e l) 31] ∧ KeptG g w w' := by
 refine (deep_said g l e d w H).mono ?_
 rintro en w' ⟨hk, hq⟩
 rw [if_pos hd] at hq
 exact ⟨hq, hk⟩
set_option maxRecDepth 100000 in
set_option maxHeartbeats 4000000 in
theorem operand_ok {n : Nat} (HO : OperandOK n) (HP1 : PrimaryOK n) (HB : BehindOK n) : OperandOK (n + 1) := by
 intro g e d op l w h0 h1 HP hne
 unfold OperandOK at HO
 unfold PrimaryOK at HP1
 unfold BehindOK at HB
 have hu27 := Tryd.underlying27
 have HE : operandP e (n + 1) d op l = if okOp l = false then .bad (atP e l) 30 else if d ≥ 60 then .bad (atP e l) 31 else
   if isP sMinus l = true then (operandP e n (d + 1) op l.tail).andThen fun x l' => .ok (mkE 5 (atP e l) 0 ⟨#[]⟩ [x] []) l'
   else if isP sBang l = true then (operandP e n (d + 1) op l.tail).andThen fun x l' => .ok (mkE 6 (atP e l) 0 ⟨#[]⟩ [x] []) l'
   else if isP sStar l = true then (operandP e n (d + 1) op l.tail).andThen fun x l' => .ok (mkE 7 (atP e l) 0 ⟨#[]⟩ [x] []) l'
   else if isP sAmp l = true then
    (if isP sMut l.tail = true then (operandP e n (d + 1) op l.tail.tail).andThen fun x l' => .ok (mkE 8 (atP e l) 1 ⟨#[]⟩ [x] []) l'
     else (operandP e n (d + 1) op l.tail).andThen fun x l' => .ok (mkE 8 (atP e l) 0 ⟨#[]⟩ [x] []) l')
   else (primaryP e n d op l).andThen fun x l' => behindP e n d x l' := by
  simp only [operandP]
  by_cases hk : okOp l = false
  ·rw [if_pos hk, if_pos]
   simp only [okOp, Bool.or_eq_false_iff, decide_eq_false_iff_not] at hk
   exact ⟨hk.1.1, hk.1.2, hk.2⟩
  ·rw [if_neg hk, if_neg]
   intro h
   apply hk
   simp only [okOp, Bool.or_eq_false_iff, decide_eq_false_iff_not]
   exact ⟨⟨h.1, h.2.1⟩, h.2.2⟩
 obtain ⟨R, hR⟩ : ∃ R, operandP e (n + 1) d op l = R := ⟨_, rfl⟩
 rw [hR] at HE hne ⊢
 clear hR
 have hgw := HP.glt
 have HEQ := Aside0.mk HE
 have HNE := Aside0.mk hne
 have HOO := Aside0.mk HO
 have HPP := Aside0.mk HP1
 have HBB := Aside0.mk HB
 have HK : Aside0 (KeptG g w w) := ⟨Kept.refl _ w⟩
 have HP := Aside0.mk HP
 clear HE hne HO HP1 HB
 replace HK := Aside0.mk (Kept.alloc HK.out (Obj.cells #[.int .i64 0, .int .i64 0, .int .i64 0, .string ⟨#[]⟩, .slice none 0 0, .slice none 0 0, .int .i64 0, .string ⟨#[]⟩, .int .i64 0, .slice none 0 0] 27))
 replace HP := Aside0.mk (HP.out.below (below_alloc (Below.refl (w).heap.size (w)) (Obj.cells #[.int .i64 0, .int .i64 0, .int .i64 0, .string ⟨#[]⟩, .slice none 0 0, .slice none 0 0, .int .i64 0, .string ⟨#[]⟩, .int .i64 0, .slice none 0 0] 27)))
 have HR : Aside0 (Has (w.alloc (Obj.cells #[.int .i64 0, .int .i64 0, .int .i64 0, .string ⟨#[]⟩, .slice none 0 0, .slice none 0 0, .int .i64 0, .string ⟨#[]⟩, .int .i64 0, .slice none 0 0] 27)) (w.heap.size) #[.int .i64 0, .int .i64 0, .int .i64 0, .string ⟨#[]⟩, .slice none 0 0, .slice none 0 0, .int .i64 0, .string ⟨#[]⟩, .int .i64 0, .slice none 0 0] 27) := ⟨by have h := Has.new (w) #[.int .i64 0, .int .i64 0, .int .i64 0, .string ⟨#[]⟩, .slice none 0 0, .slice none 0 0, .int .i64 0, .string ⟨#[]⟩, .int .i64 0, .slice none 0 0] 27; first | exact h | (simpa using h)⟩
 go_enter Tryd.func70, Tryd.ntmps70
 go_upto_region 2 with ((
       go_at_call 19
       (with_reducible refine Calls.mono (kind_ps HP.out) ?_)
       rintro en w1 ⟨he1, hb1⟩
       subst he1
       replace HK := Aside0.mk (Kept.below HK.out hb1)
       replace HP := Aside0.mk (HP.out.below hb1)
       replace HR := Aside0.mk (HR.out.belowS hb1)
       have hs1 := Below.size hb1
       try simp at hs1))
 obtain ⟨q, hq⟩ : ∃ q, kindP l = q := ⟨_, rfl⟩
 rw [hq]
 go_cut [22] (fun v22 wc => v22 = .bool (!okOp l) ∧ Aside0 (KeptG g w wc) ∧ Aside0 (PS wc g l e) ∧ Aside0 (Has wc w.heap.size #[.int .i64 0, .int .i64 0, .int .i64 0, .string ⟨#[]⟩, .slice none 0 0, .slice none 0 0, .int .i64 0, .string ⟨#[]⟩, .int .i64 0, .slice none 0 0] 27))
 case first =>
  by_cases k1 : q = 1
  ·have b1 : (q != 1) = false := by simp [k1]
   go_wp2
   go_meet
   case rel => exact ⟨by simp [okOp, hq, k1], HK, HP, HR⟩
  ·have b1 : (q != 1) = true := by simp [k1]
   by_cases k2 : q = 2
   ·have b2 : (q != 2) = false := by simp [k2]
    go_wp2
    go_meet
    case rel => exact ⟨by simp [okOp, hq, k2], HK, HP, HR⟩
   ·have b2 : (q != 2) = true := by simp [k2]
    have b0 : okOp l = oneP oneOperand l := by simp [okOp, hq, k1, k2]
    have B0 := Aside0.mk b0
    clear b0 hq
    obtain ⟨bo, hbo⟩ : ∃ b, oneP oneOperand l = b := ⟨_, rfl⟩
    have HBO := Aside0.mk hbo
    clear hbo
    clear k1 k2
    replace HK := Aside0.mk (Kept.alloc HK.out (Obj.cells ([sMinus, sBang, sStar, sAmp, sLpar, sLbra, sLbrace, sTrue, sFalse, sIf, sMatch].map Value.string).toArray 9))
    replace HP := Aside0.mk (HP.out.below (below_alloc (Below.refl (w1).heap.size (w1)) (Obj.cells ([sMinus, sBang, sStar, sAmp, sLpar, sLbra, sLbrace, sTrue, sFalse, sIf, sMatch].map Value.string).toArray 9)))
    replace HR := Aside0.mk (Has.alloc HR.out (Obj.cells ([sMinus, sBang, sStar, sAmp, sLpar, sLbra, sLbrace, sTrue, sFalse, sIf, sMatch].map Value.string).toArray 9))
    have HL := lit_S w1 [sMinus, sBang, sStar, sAmp, sLpar, sLbra, sLbrace, sTrue, sFalse, sIf, sMatch] (by decide)
    go_wp2_with ((
          go_at_call 61
          refine Calls.mono (one_ps [sMinus, sBang, sStar, sAmp, sLpar, sLbra, sLbrace, sTrue, sFalse, sIf, sMatch] (some ⟨w1.heap.size, 0, none⟩) 11 HP.out HL (by decide)) ?_
          rintro en w2 ⟨he2, hb2⟩
          rw [HBO.out] at he2
          subst he2
          replace HK := Aside0.mk (Kept.below HK.out hb2)
          replace HP := Aside0.mk (HP.out.below hb2)
          replace HR := Aside0.mk (HR.out.belowS hb2)
          have hs2 := Below.size hb2
          try simp at hs2))
    go_meet
    case rel => exact ⟨by rw [B0.out, HBO.out], HK, HP, HR⟩
 case rest =>
  clear HK HP HR
  obtain ⟨rfl, HK, HP, HR⟩ := hcut
  clear hs1 hb1
  have hs1 := HR.out.lt
  cases hk : okOp l with
  | false =>
   have HE : Aside0 (R = .bad (atP e l) 30) := ⟨by rw [HEQ.out, if_pos hk]⟩
   clear HEQ hk
   go_wp2_with ((
         go_at_call 20
         (with_reducible refine Calls.mono (fail_ps 30 HP.out) ?_)
         rintro en w2 ⟨he2, hb2⟩
         subst he2
         replace HK := Aside0.mk (Kept.below HK.out hb2)
         replace HP := Aside0.mk (HP.out.below hb2)
         replace HR := Aside0.mk (HR.out.belowS hb2)
         have hs2 := Below.size hb2
         try simp at hs2))
   rw [HE.out]
   exact ⟨rfl, HK.out, rfl⟩
  | true =>
   replace HEQ := Aside0.mk (HEQ.out.trans (if_neg (by rw [hk]; decide)))
   clear hk
   by_cases hd : d ≥ 60
   ·have HE : Aside0 (R = .bad (atP e l) 31) := ⟨by rw [HEQ.out, if_pos hd]⟩
    clear HEQ
    go_wp2_with ((
          go_at_call 62
          (with_reducible refine Calls.mono (deep_bad g l e d _ HP.out hd) ?_)
          rintro en w2 ⟨he2, hk2⟩
          subst he2
          replace HK := Aside0.mk (Kept.then_ HK.out hk2)
          replace HR := Aside0.mk (Kept.has hk2 HR.out (by omega))
          have hs2 := Kept.size hk2
          try simp at hs2))
    rw [HE.out]
    exact ⟨rfl, HK.out, rfl⟩
   replace HEQ := Aside0.mk (HEQ.out.trans (if_neg hd))
   replace hd : d < 60 := by omega
   obtain ⟨a0, ha0⟩ : ∃ a, atP e l = a := ⟨_, rfl⟩
   rw [ha0] at HEQ
   have HA := Aside0.mk ha0
   clear ha0
   go_upto_block 0 with (first
     | (
      go_at_call 62
      (with_reducible refine Calls.mono (deep_ok g l e d _ HP.out hd) ?_)
      rintro en w2 ⟨he2, hk2, hp2⟩
      subst he2
      replace HK := Aside0.mk (Kept.then_ HK.out hk2)
      replace HR := Aside0.mk (Kept.has hk2 HR.out (by omega))
      replace HP := Aside0.mk hp2
      have hs2 := Kept.size hk2
      try simp at hs2)
     | (
      go_at_call 29
      (with_reducible refine Calls.mono (at_ps HP.out) ?_)
      rintro en w3 ⟨he3, hb3⟩
      rw [HA.out] at he3
      subst he3
      replace HK := Aside0.mk (Kept.below HK.out hb3)
      replace HP := Aside0.mk (HP.out.below hb3)
      replace HR := Aside0.mk (HR.out.belowS hb3)
      have hs3 := Below.size hb3
      try simp at hs3
      replace HK := Aside0.mk (Kept.alloc HK.out (Obj.cells #[.int .i64 0, .int .i64 a0, .int .i64 0, .string ⟨#[]⟩, .slice none 0 0, .slice none 0 0, .int .i64 0, .string ⟨#[]⟩, .int .i64 0, .slice none 0 0] 27))
      replace HP := Aside0.mk (HP.out.below (below_alloc (Below.refl (w3).heap.size (w3)) (Obj.cells #[.int .i64 0, .int .i64 a0, .int .i64 0, .string ⟨#[]⟩, .slice none 0 0, .slice none 0 0, .int .i64 0, .string ⟨#[]⟩, .int .i64 0, .slice none 0 0] 27)))
      replace HR := Aside0.mk (Has.alloc HR.out (Obj.cells #[.int .i64 0, .int .i64 a0, .int .i64 0, .string ⟨#[]⟩, .slice none 0 0, .slice none 0 0, .int .i64 0, .string ⟨#[]⟩, .int .i64 0, .slice none 0 0] 27))
      have HX : Aside0 (Has (w3.alloc (Obj.cells #[.int .i64 0, .int .i64 a0, .int .i64 0, .string ⟨#[]⟩, .slice none 0 0, .slice none 0 0, .int .i64 0, .string ⟨#[]⟩, .int .i64 0, .slice none 0 0] 27)) (w3.heap.size) #[.int .i64 0, .int .i64 a0, .int .i64 0, .string ⟨#[]⟩, .slice none 0 0, .slice none 0 0, .int .i64 0, .string ⟨#[]⟩, .int .i64 0, .slice none 0 0] 27) := ⟨by have h := Has.new (w3) #[.int .i64 0, .int .i64 a0, .int .i64 0, .string ⟨#[]⟩, .slice none 0 0, .slice none 0 0, .int .i64 0, .string ⟨#[]⟩, .int .i64 0, .slice none 0 0] 27; first | exact h | (simpa using h)⟩))
   have hbx : w.heap.size < w3.heap.size := by omega
   have hbg : w3.heap.size ≠ g := by omega
   go_cut [] (fun wc => ∃ (k num : Int) (l' : List S35), Aside0 (R = (operandP e n (d + 1) op l').andThen fun x l'' => .ok (mkE k a0 num ⟨#[]⟩ [x] []) l'') ∧ Aside0 (KeptG g w wc) ∧ Aside0 (PS wc g l' e) ∧ Aside0 (Has wc w.heap.size #[.int .i64 0, .int .i64 0, .int .i64 0, .string ⟨#[]⟩, .slice none 0 0, .slice none 0 0, .int .i64 0, .string ⟨#[]⟩, .int .i64 0, .slice none 0 0] 27) ∧ Aside0 (Has wc w3.heap.size #[.int .i64 k, .int .i64 a0, .int .i64 num, .string ⟨#[]⟩, .slice none 0 0, .slice none 0 0, .int .i64 0, .string ⟨#[]⟩, .int .i64 0, .slice none 0 0] 27))
   case first =>
    cases hi : isP sMinus l with
    | true =>
     replace HEQ := Aside0.mk (HEQ.out.trans (if_pos hi))
     have HI := Aside0.mk hi
     clear hi
     go_wp2_with ((
           go_at_call 41
           (with_reducible refine Calls.mono (take_yes sMinus HP.out HI.out) ?_)
           rintro en w4 ⟨he4, hk4, hp4⟩
           subst he4
           replace HK := Aside0.mk (Kept.then_ HK.out hk4)
           replace HR := Aside0.mk (Kept.has hk4 HR.out (by omega))
           replace HX := Aside0.mk (Kept.has hk4 HX.out (by omega))
           replace HP := Aside0.mk hp4
           have hs4 := Kept.size hk4
           try simp at hs4
           have c5 := Has.cell HX.out 0
           simp only [List.getElem?_toArray, List.getElem?_cons_zero, List.getElem?_cons_succ] at c5
           have f5 := Has.frozen HX.out 0))
     replace HK := Aside0.mk (Kept.setCellX HK.out (a := ⟨w3.heap.size, 0, none⟩) (.inr (by show w.heap.size ≤ w3.heap.size; omega)) (.int .i64 5))
     replace HP := Aside0.mk (PS.setT HP.out HX.out (by decide) (by decide) 0 (.int .i64 5))
     replace HR := Aside0.mk (Has.other HR.out (a := ⟨w3.heap.size, 0, none⟩) (by show w.heap.size ≠ w3.heap.size; omega) (.int .i64 5))
     replace HX : Aside0 (Has (w4.setCell ⟨w3.heap.size, 0, none⟩ (.int .i64 5)) (w3.heap.size) #[.int .i64 5, .int .i64 a0, .int .i64 0, .string ⟨#[]⟩, .slice none 0 0, .slice none 0 0, .int .i64 0, .string ⟨#[]⟩, .int .i64 0, .slice none 0 0] 27) := ⟨by have h := Has.set_ HX.out 0 (.int .i64 5); exact h⟩
     go_meet
     case rel => exact ⟨5, 0, _, HEQ, HK, HP, HR, HX⟩
    | false =>
     replace HEQ := Aside0.mk (HEQ.out.trans (if_neg (by rw [hi]; decide)))
     have HI := Aside0.mk hi
     clear hi
     go_wp2_with ((
           go_at_call 41
           (with_reducible refine Calls.mono (take_no sMinus HP.out HI.out) ?_)
           rintro en w4 ⟨he4, hk4, hp4⟩
           subst he4
           replace HK := Aside0.mk (Kept.then_ HK.out hk4)
           replace HR := Aside0.mk (Kept.has hk4 HR.out (by omega))
           replace HX := Aside0.mk (Kept.has hk4 HX.out (by omega))
           replace HP := Aside0.mk hp4
           have hs4 := Kept.size hk4
           try simp at hs4))
     clear HI
     cases hi : isP sBang l with
     | true =>
      replace HEQ := Aside0.mk (HEQ.out.trans (if_pos hi))
      have HI := Aside0.mk hi
      clear hi
      go_wp2_with ((
            go_at_call 41
            (with_reducible refine Calls.mono (take_yes sBang HP.out HI.out) ?_)
            rintro en w5 ⟨he5, hk5, hp5⟩
            subst he5
            replace HK := Aside0.mk (Kept.then_ HK.out hk5)
            replace HR := Aside0.mk (Kept.has hk5 HR.out (by omega))
            replace HX := Aside0.mk (Kept.has hk5 HX.out (by omega))
            replace HP := Aside0.mk hp5
            have hs5 := Kept.size hk5
            try simp at hs5
            have c6 := Has.cell HX.out 0
            simp only [List.getElem?_toArray, List.getElem?_cons_zero, List.getElem?_cons_succ] at c6
            have f6 := Has.frozen HX.out 0))
      replace HK := Aside0.mk (Kept.setCellX HK.out (a := ⟨w3.heap.size, 0, none⟩) (.inr (by show w.heap.size ≤ w3.heap.size; omega)) (.int .i64 6))
      replace HP := Aside0.mk (PS.setT HP.out HX.out (by decide) (by decide) 0 (.int .i64 6))
      replace HR := Aside0.mk (Has.other HR.out (a := ⟨w3.heap.size, 0, none⟩) (by show w.heap.size ≠ w3.heap.size; omega) (.int .i64 6))
      replace HX : Aside0 (Has (w5.setCell ⟨w3.heap.size, 0, none⟩ (.int .i64 6)) (w3.heap.size) #[.int .i64 6, .int .i64 a0, .int .i64 0, .string ⟨#[]⟩, .slice none 0 0, .slice none 0 0, .int .i64 0, .string ⟨#[]⟩, .int .i64 0, .slice none 0 0] 27) := ⟨by have h := Has.set_ HX.out 0 (.int .i64 6); exact h⟩
      go_meet
      case rel => exact ⟨6, 0, _, HEQ, HK, HP, HR, HX⟩
     | false =>
      replace HEQ := Aside0.mk (HEQ.out.trans (if_neg (by rw [hi]; decide)))
      have HI := Aside0.mk hi
      clear hi
      go_wp2_with ((
            go_at_call 41
            (with_reducible refine Calls.mono (take_no sBang HP.out HI.out) ?_)
            rintro en w5 ⟨he5, hk5, hp5⟩
            subst he5
            replace HK := Aside0.mk (Kept.then_ HK.out hk5)
            replace HR := Aside0.mk (Kept.has hk5 HR.out (by omega))
            replace HX := Aside0.mk (Kept.has hk5 HX.out (by omega))
            replace HP := Aside0.mk hp5
            have hs5 := Kept.size hk5
            try simp at hs5))
      clear HI
      cases hi : isP sStar l with
      | true =>
       replace HEQ := Aside0.mk (HEQ.out.trans (if_pos hi))
       have HI := Aside0.mk hi
       clear hi
       go_wp2_with ((
             go_at_call 41
             (with_reducible refine Calls.mono (take_yes sStar HP.out HI.out) ?_)
             rintro en w6 ⟨he6, hk6, hp6⟩
             subst he6
             replace HK := Aside0.mk (Kept.then_ HK.out hk6)
             replace HR := Aside0.mk (Kept.has hk6 HR.out (by omega))
             replace HX := Aside0.mk (Kept.has hk6 HX.out (by omega))
             replace HP := Aside0.mk hp6
             have hs6 := Kept.size hk6
             try simp at hs6
             have c7 := Has.cell HX.out 0
             simp only [List.getElem?_toArray, List.getElem?_cons_zero, List.getElem?_cons_succ] at c7
             have f7 := Has.frozen HX.out 0))
       replace HK := Aside0.mk (Kept.setCellX HK.out (a := ⟨w3.heap.size, 0, none⟩) (.inr (by show w.heap.size ≤ w3.heap.size; omega)) (.int .i64 7))
       replace HP := Aside0.mk (PS.setT HP.out HX.out (by decide) (by decide) 0 (.int .i64 7))
       replace HR := Aside0.mk (Has.other HR.out (a := ⟨w3.heap.size, 0, none⟩) (by show w.heap.size ≠ w3.heap.size; omega) (.int .i64 7))
       replace HX : Aside0 (Has (w6.setCell ⟨w3.heap.size, 0, none⟩ (.int .i64 7)) (w3.heap.size) #[.int .i64 7, .int .i64 a0, .int .i64 0, .string ⟨#[]⟩, .slice none 0 0, .slice none 0 0, .int .i64 0, .string ⟨#[]⟩, .int .i64 0, .slice none 0 0] 27) := ⟨by have h := Has.set_ HX.out 0 (.int .i64 7); exact h⟩
       go_meet
       case rel => exact ⟨7, 0, _, HEQ, HK, HP, HR, HX⟩
      | false =>
       replace HEQ := Aside0.mk (HEQ.out.trans (if_neg (by rw [hi]; decide)))
       have HI := Aside0.mk hi
       clear hi
       go_wp2_with ((
             go_at_call 41
             (with_reducible refine Calls.mono (take_no sStar HP.out HI.out) ?_)
             rintro en w6 ⟨he6, hk6, hp6⟩
             subst he6
             replace HK := Aside0.mk (Kept.then_ HK.out hk6)
             replace HR := Aside0.mk (Kept.has hk6 HR.out (by omega))
             replace HX := Aside0.mk (Kept.has hk6 HX.out (by omega))
             replace HP := Aside0.mk hp6
             have hs6 := Kept.size hk6
             try simp at hs6))
       clear HI
       cases hi : isP sAmp l with
       | true =>
        replace HEQ := Aside0.mk (HEQ.out.trans (if_pos hi))
        have HI := Aside0.mk hi
        clear hi
        cases hj : isP sMut l.tail with
        | true =>
         replace HEQ := Aside0.mk (HEQ.out.trans (if_pos hj))
         have HJ := Aside0.mk hj
         clear hj
         go_wp2_with ((
               go_at_call 41
               (with_reducible refine Calls.mono (take_yes sAmp HP.out HI.out) ?_)
               rintro en w7 ⟨he7, hk7, hp7⟩
               subst he7
               replace HK := Aside0.mk (Kept.then_ HK.out hk7)
               replace HR := Aside0.mk (Kept.has hk7 HR.out (by omega))
               replace HX := Aside0.mk (Kept.has hk7 HX.out (by omega))
               replace HP := Aside0.mk hp7
               have hs7 := Kept.size hk7
               try simp at hs7
               have c8 := Has.cell HX.out 0
               simp only [List.getElem?_toArray, List.getElem?_cons_zero, List.getElem?_cons_succ] at c8
               have f8 := Has.frozen HX.out 0))
         clear c8 f8
         replace HK := Aside0.mk (Kept.setCellX HK.out (a := ⟨w3.heap.size, 0, none⟩) (.inr (by show w.heap.size ≤ w3.heap.size; omega)) (.int .i64 8))
         replace HP := Aside0.mk (PS.setT HP.out HX.out (by decide) (by decide) 0 (.int .i64 8))
         replace HR := Aside0.mk (Has.other HR.out (a := ⟨w3.heap.size, 0, none⟩) (by show w.heap.size ≠ w3.heap.size; omega) (.int .i64 8))
         replace HX : Aside0 (Has (w7.setCell ⟨w3.heap.size, 0, none⟩ (.int .i64 8)) (w3.heap.size) #[.int .i64 8, .int .i64 a0, .int .i64 0, .string ⟨#[]⟩, .slice none 0 0, .slice none 0 0, .int .i64 0, .string ⟨#[]⟩, .int .i64 0, .slice none 0 0] 27) := ⟨by have h := Has.set_ HX.out 0 (.int .i64 8); exact h⟩
         go_wp2_with ((
               go_at_call 41
               (with_reducible refine Calls.mono (take_yes sMut HP.out HJ.out) ?_)
               rintro en w9 ⟨he9, hk9, hp9⟩
               subst he9
               replace HK := Aside0.mk (Kept.then_ HK.out hk9)
               replace HR := Aside0.mk (Kept.has hk9 HR.out (by omega))
               replace HX := Aside0.mk (Kept.has hk9 HX.out (by omega))
               replace HP := Aside0.mk hp9
               have hs9 := Kept.size hk9
               try simp at hs9
               have c10 := Has.cell HX.out 2
               simp only [List.getElem?_toArray, List.getElem?_cons_zero, List.getElem?_cons_succ] at c10
               have f10 := Has.frozen HX.out 2))
         replace HK := Aside0.mk (Kept.setCellX HK.out (a := ⟨w3.heap.size, 2, none⟩) (.inr (by show w.heap.size ≤ w3.heap.size; omega)) (.int .i64 1))
         replace HP := Aside0.mk (PS.setT HP.out HX.out (by decide) (by decide) 2 (.int .i64 1))
         replace HR := Aside0.mk (Has.other HR.out (a := ⟨w3.heap.size, 2, none⟩) (by show w.heap.size ≠ w3.heap.size; omega) (.int .i64 1))
         replace HX : Aside0 (Has (w9.setCell ⟨w3.heap.size, 2, none⟩ (.int .i64 1)) (w3.heap.size) #[.int .i64 8, .int .i64 a0, .int .i64 1, .string ⟨#[]⟩, .slice none 0 0, .slice none 0 0, .int .i64 0, .string ⟨#[]⟩, .int .i64 0, .slice none 0 0] 27) := ⟨by have h := Has.set_ HX.out 2 (.int .i64 1); exact h⟩
         go_meet
         case rel => exact ⟨8, 1, _, HEQ, HK, HP, HR, HX⟩
        | false =>
         replace HEQ := Aside0.mk (HEQ.out.trans (if_neg (by rw [hj]; decide)))
         have HJ := Aside0.mk hj
         clear hj
         go_wp2_with ((
               go_at_call 41
               (with_reducible refine Calls.mono (take_yes sAmp HP.out HI.out) ?_)
               rintro en w7 ⟨he7, hk7, hp7⟩
               subst he7
               replace HK := Aside0.mk (Kept.then_ HK.out hk7)
               replace HR := Aside0.mk (Kept.has hk7 HR.out (by omega))
               replace HX := Aside0.mk (Kept.has hk7 HX.out (by omega))
               replace HP := Aside0.mk hp7
               have hs7 := Kept.size hk7
               try simp at hs7
               have c8 := Has.cell HX.out 0
               simp only [List.getElem?_toArray, List.getElem?_cons_zero, List.getElem?_cons_succ] at c8
               have f8 := Has.frozen HX.out 0))
         clear c8 f8
         replace HK := Aside0.mk (Kept.setCellX HK.out (a := ⟨w3.heap.size, 0, none⟩) (.inr (by show w.heap.size ≤ w3.heap.size; omega)) (.int .i64 8))
         replace HP := Aside0.mk (PS.setT HP.out HX.out (by decide) (by decide) 0 (.int .i64 8))
         replace HR := Aside0.mk (Has.other HR.out (a := ⟨w3.heap.size, 0, none⟩) (by show w.heap.size ≠ w3.heap.size; omega) (.int .i64 8))
         replace HX : Aside0 (Has (w7.setCell ⟨w3.heap.size, 0, none⟩ (.int .i64 8)) (w3.heap.size) #[.int .i64 8, .int .i64 a0, .int .i64 0, .string ⟨#[]⟩, .slice none 0 0, .slice none 0 0, .int .i64 0, .string ⟨#[]⟩, .int .i64 0, .slice none 0 0] 27) := ⟨by have h := Has.set_ HX.out 0 (.int .i64 8); exact h⟩
         go_wp2_with ((
               go_at_call 41
               (with_reducible refine Calls.mono (take_no sMut HP.out HJ.out) ?_)
               rintro en w9 ⟨he9, hk9, hp9⟩
               subst he9
               replace HK := Aside0.mk (Kept.then_ HK.out hk9)
               replace HR := Aside0.mk (Kept.has hk9 HR.out (by omega))
               replace HX := Aside0.mk (Kept.has hk9 HX.out (by omega))
               replace HP := Aside0.mk hp9
               have hs9 := Kept.size hk9
               try simp at hs9))
         go_meet
         case rel => exact ⟨8, 0, _, HEQ, HK, HP, HR, HX⟩
       | false =>
        replace HEQ := Aside0.mk (HEQ.out.trans (if_neg (by rw [hi]; decide)))
        have HI := Aside0.mk hi
        clear hi
        cases hr : primaryP e n d op l with
        | out => exact absurd (by rw [HEQ.out, hr]; rfl) HNE.out
        | bad a er =>
         have HRR := Aside0.mk hr
         have HE : Aside0 (R = .bad a er) := ⟨by rw [HEQ.out, hr]; rfl⟩
         clear hr HEQ
         go_wp2_with (first
           | (
            go_at_call 41
            (with_reducible refine Calls.mono (take_no sAmp HP.out HI.out) ?_)
            rintro en w7 ⟨he7, hk7, hp7⟩
            subst he7
            replace HK := Aside0.mk (Kept.then_ HK.out hk7)
            replace HR := Aside0.mk (Kept.has hk7 HR.out (by omega))
            replace HX := Aside0.mk (Kept.has hk7 HX.out (by omega))
            replace HP := Aside0.mk hp7
            have hs7 := Kept.size hk7
            try simp at hs7)
           | (
            go_at_call 79
            (with_reducible refine Calls.mono (HPP.out g e d op l _ h0 hd HP.out (by rw [HRR.out]; exact PR.bad_ne _ _)) ?_)
            rintro en w8 ⟨hk8, he8⟩
            rw [HRR.out] at he8
            subst he8
            replace HK := Aside0.mk (Kept.then_ HK.out hk8)
            replace HR := Aside0.mk (Kept.has hk8 HR.out (by omega))
            replace HX := Aside0.mk (Kept.has hk8 HX.out (by omega))
            have hs8 := Kept.size hk8
            try simp at hs8))
         rw [HE.out]
         exact ⟨rfl, HK.out, rfl⟩
        | ok x l1 =>
         have HRR := Aside0.mk hr
         replace HEQ : Aside0 (R = behindP e n d x l1) := ⟨by rw [HEQ.out, hr]; rfl⟩
         clear hr
         cases hr : behindP e n d x l1 with
         | out => exact absurd (by rw [HEQ.out, hr]) HNE.out
         | bad a er =>
          have HRB := Aside0.mk hr
          replace HEQ := Aside0.mk (HEQ.out.trans hr)
          clear hr
          go_wp2_with (first
            | (
             go_at_call 41
             (with_reducible refine Calls.mono (take_no sAmp HP.out HI.out) ?_)
             rintro en w7 ⟨he7, hk7, hp7⟩
             subst he7
             replace HK := Aside0.mk (Kept.then_ HK.out hk7)
             replace HR := Aside0.mk (Kept.has hk7 HR.out (by omega))
             replace HX := Aside0.mk (Kept.has hk7 HX.out (by omega))
             replace HP := Aside0.mk hp7
             have hs7 := Kept.size hk7
             try simp at hs7)
            | (
             go_at_call 79
             (with_reducible refine Calls.mono (HPP.out g e d op l _ h0 hd HP.out (by rw [HRR.out]; exact PR.ok_ne _ _)) ?_)
             rintro en w8 ⟨hk8, he8⟩
             rw [HRR.out] at he8
             obtain ⟨v8, rfl, hv8, hp8⟩ := he8
             have HV := Aside0.mk hv8
             replace HK := Aside0.mk (Kept.then_ HK.out hk8)
             replace HR := Aside0.mk (Kept.has hk8 HR.out (by omega))
             replace HX := Aside0.mk (Kept.has hk8 HX.out (by omega))
             replace HP := Aside0.mk hp8
             have hs8 := Kept.size hk8
             try simp at hs8)
            | (
             go_at_call 78
             (with_reducible refine Calls.mono (HBB.out g e d x v8 w7.heap.size l1 _ h0 hd HP.out HV.out (by omega) (by rw [HRB.out]; exact PR.bad_ne _ _)) ?_)
             rintro en w9 ⟨hk9, he9⟩
             rw [HRB.out] at he9
             subst he9
             replace HK := Aside0.mk (Kept.then_ HK.out hk9)
             replace HR := Aside0.mk (Kept.has hk9 HR.out (by omega))
             replace HX := Aside0.mk (Kept.has hk9 HX.out (by omega))
             have hs9 := Kept.size hk9
             try simp at hs9))
          rw [HEQ.out]
          exact ⟨rfl, HK.out, rfl⟩
         | ok y l2 =>
          have HRB := Aside0.mk hr
          replace HEQ := Aside0.mk (HEQ.out.trans hr)
          clear hr
          go_wp2_with (first
            | (
             go_at_call 41
             (with_reducible refine Calls.mono (take_no sAmp HP.out HI.out) ?_)
             rintro en w7 ⟨he7, hk7, hp7⟩
             subst he7
             replace HK := Aside0.mk (Kept.then_ HK.out hk7)
             replace HR := Aside0.mk (Kept.has hk7 HR.out (by omega))
             replace HX := Aside0.mk (Kept.has hk7 HX.out (by omega))
             replace HP := Aside0.mk hp7
             have hs7 := Kept.size hk7
             try simp at hs7)
            | (
             go_at_call 79
             (with_reducible refine Calls.mono (HPP.out g e d op l _ h0 hd HP.out (by rw [HRR.out]; exact PR.ok_ne _ _)) ?_)
             rintro en w8 ⟨hk8, he8⟩
             rw [HRR.out] at he8
             obtain ⟨v8, rfl, hv8, hp8⟩ := he8
             have HV := Aside0.mk hv8
             replace HK := Aside0.mk (Kept.then_ HK.out hk8)
             replace HR := Aside0.mk (Kept.has hk8 HR.out (by omega))
             replace HX := Aside0.mk (Kept.has hk8 HX.out (by omega))
             replace HP := Aside0.mk hp8
             have hs8 := Kept.size hk8
             try simp at hs8)
            | (
             go_at_call 78
             (with_reducible refine Calls.mono (HBB.out g e d x v8 w7.heap.size l1 _ h0 hd HP.out HV.out (by omega) (by rw [HRB.out]; exact PR.ok_ne _ _)) ?_)
             rintro en w9 ⟨hk9, he9⟩
             rw [HRB.out] at he9
             obtain ⟨v9, rfl, hv9, hp9⟩ := he9
             obtain ⟨a4, ac4, a5, ac5, a9, ac9, rfl⟩ := VO.form hv9
             have HV := Aside0.mk hv9
             replace HK := Aside0.mk (Kept.then_ HK.out hk9)
             replace HR := Aside0.mk (Kept.has hk9 HR.out (by omega))
             replace HX := Aside0.mk (Kept.has hk9 HX.out (by omega))
             replace HP := Aside0.mk hp9
             have hs9 := Kept.size hk9
             try simp at hs9)
            | (
             (with_reducible refine gate_store (t := 27) (p := 6) rfl ?_)
             go_must (refine store_event (t := 27) (p := 6) (v := .tmp 37) (w1 := w9.setRow w.heap.size #[.int .i64 y.f0, .int .i64 y.f1, .int .i64 y.f2, .string y.f3, .slice a4 y.f4.length ac4, .slice a5 y.f5.length ac5, .int .i64 y.f6.f0, .string y.f6.f1, .int .i64 y.f6.f2, .slice a9 y.f6.f3.length ac9]) ?hg ?ho ?hn ?hr ?_; (case ho => rfl); (case hg => rfl); (case hn => rfl); (case hr => exact store27 w9 _ _ _ HR.out rfl rfl (by first | kernel_rfl | (simp [Value.oneCell'])) _ _ _ _ rfl rfl rfl); intro w77 hw77; subst hw77)))
          replace HK := Aside0.mk (kept_rowX HK.out (g := w.heap.size) (.inr (by show w.heap.size ≤ w.heap.size; omega)) #[.int .i64 y.f0, .int .i64 y.f1, .int .i64 y.f2, .string y.f3, .slice a4 y.f4.length ac4, .slice a5 y.f5.length ac5, .int .i64 y.f6.f0, .string y.f6.f1, .int .i64 y.f6.f2, .slice a9 y.f6.f3.length ac9])
          replace HP := Aside0.mk (PS.rowP HP.out HR.out #[.int .i64 y.f0, .int .i64 y.f1, .int .i64 y.f2, .string y.f3, .slice a4 y.f4.length ac4, .slice a5 y.f5.length ac5, .int .i64 y.f6.f0, .string y.f6.f1, .int .i64 y.f6.f2, .slice a9 y.f6.f3.length ac9])
          replace HX := Aside0.mk (has_row_other HX.out (g := w.heap.size) (cs' := #[.int .i64 y.f0, .int .i64 y.f1, .int .i64 y.f2, .string y.f3, .slice a4 y.f4.length ac4, .slice a5 y.f5.length ac5, .int .i64 y.f6.f0, .string y.f6.f1, .int .i64 y.f6.f2, .slice a9 y.f6.f3.length ac9]) (by omega))
          replace HV := Aside0.mk (VO.rowO HV.out (g := w.heap.size) (fun kk h1 h2 => by omega) #[.int .i64 y.f0, .int .i64 y.f1, .int .i64 y.f2, .string y.f3, .slice a4 y.f4.length ac4, .slice a5 y.f5.length ac5, .int .i64 y.f6.f0, .string y.f6.f1, .int .i64 y.f6.f2, .slice a9 y.f6.f3.length ac9])
          replace HR := Aside0.mk (has_row HR.out #[.int .i64 y.f0, .int .i64 y.f1, .int .i64 y.f2, .string y.f3, .slice a4 y.f4.length ac4, .slice a5 y.f5.length ac5, .int .i64 y.f6.f0, .string y.f6.f1, .int .i64 y.f6.f2, .slice a9 y.f6.f3.length ac9])
          refine bodyPost_ret (results_cell_row rfl _ _ w.heap.size 27 #[.int .i64 y.f0, .int .i64 y.f1, .int .i64 y.f2, .string y.f3, .slice a4 y.f4.length ac4, .slice a5 y.f5.length ac5, .int .i64 y.f6.f0, .string y.f6.f1, .int .i64 y.f6.f2, .slice a9 y.f6.f3.length ac9] (0, 0) _ rfl HR.out Tryd.underlying27 rfl (by rfl)) rfl ?_
          rw [HEQ.out]
          exact ⟨HK.out, _, rfl, HV.out.lower (by omega), HP.out⟩
   case rest =>
    clear HK HP HR HX HEQ
    obtain ⟨k, num, l', HEQ, HK, HP, HR, HX⟩ := hcut
    have hsx := HX.out.lt
    cases hr : operandP e n (d + 1) op l' with
    | out => exact absurd (by rw [HEQ.out, hr]; rfl) HNE.out
    | bad a er =>
     have HRR := Aside0.mk hr
     have HE : Aside0 (R = .bad a er) := ⟨by rw [HEQ.out, hr]; rfl⟩
     clear hr HEQ
     go_wp2_with ((
           go_at_call 70
           (with_reducible refine Calls.mono (HOO.out g e (d + 1) op l' _ (by omega) (by omega) HP.out (by rw [HRR.out]; exact PR.bad_ne _ _)) ?_)
           rintro en w4 ⟨hk4, he4⟩
           rw [HRR.out] at he4
           subst he4
           replace HK := Aside0.mk (Kept.then_ HK.out hk4)
           replace HR := Aside0.mk (Kept.has hk4 HR.out (by omega))
           replace HX := Aside0.mk (Kept.has hk4 HX.out (by omega))
           have hs4 := Kept.size hk4
           try simp at hs4))
     rw [HE.out]
     exact ⟨rfl, HK.out, rfl⟩
    | ok x l2 =>
     have HRR := Aside0.mk hr
     have HE : Aside0 (R = .ok (mkE k a0 num ⟨#[]⟩ [x] []) l2) := ⟨by rw [HEQ.out, hr]; rfl⟩
     clear hr HEQ
     go_wp2_with (first
       | (
        go_at_call 70
        (with_reducible refine Calls.mono (HOO.out g e (d + 1) op l' _ (by omega) (by omega) HP.out (by rw [HRR.out]; exact PR.ok_ne _ _)) ?_)
        rintro en w4 ⟨hk4, he4⟩
        rw [HRR.out] at he4
        obtain ⟨v4, rfl, hv4, hp4⟩ := he4
        obtain ⟨a4, ac4, a5, ac5, a9, ac9, rfl⟩ := VO.form hv4
        have HV := Aside0.mk hv4
        replace HK := Aside0.mk (Kept.then_ HK.out hk4)
        replace HR := Aside0.mk (Kept.has hk4 HR.out (by omega))
        replace HX := Aside0.mk (Kept.has hk4 HX.out (by omega))
        replace HP := Aside0.mk hp4
        have hs4 := Kept.size hk4
        try simp at hs4
        have HKID := Aside0.mk (kidA HV.out (by omega))
        replace HK := Aside0.mk (Kept.alloc HK.out (Obj.cells #[.int .i64 x.f0, .int .i64 x.f1, .int .i64 x.f2, .string x.f3, .slice a4 x.f4.length ac4, .slice a5 x.f5.length ac5, .int .i64 x.f6.f0, .string x.f6.f1, .int .i64 x.f6.f2, .slice a9 x.f6.f3.length ac9] 27))
        replace HP := Aside0.mk (HP.out.below (below_alloc (Below.refl (w4).heap.size (w4)) (Obj.cells #[.int .i64 x.f0, .int .i64 x.f1, .int .i64 x.f2, .string x.f3, .slice a4 x.f4.length ac4, .slice a5 x.f5.length ac5, .int .i64 x.f6.f0, .string x.f6.f1, .int .i64 x.f6.f2, .slice a9 x.f6.f3.length ac9] 27)))
        replace HR := Aside0.mk (Has.alloc HR.out (Obj.cells #[.int .i64 x.f0, .int .i64 x.f1, .int .i64 x.f2, .string x.f3, .slice a4 x.f4.length ac4, .slice a5 x.f5.length ac5, .int .i64 x.f6.f0, .string x.f6.f1, .int .i64 x.f6.f2, .slice a9 x.f6.f3.length ac9] 27))
        replace HX := Aside0.mk (Has.alloc HX.out (Obj.cells #[.int .i64 x.f0, .int .i64 x.f1, .int .i64 x.f2, .string x.f3, .slice a4 x.f4.length ac4, .slice a5 x.f5.length ac5, .int .i64 x.f6.f0, .string x.f6.f1, .int .i64 x.f6.f2, .slice a9 x.f6.f3.length ac9] 27))
        replace HV := Aside0.mk (HV.out.below (below_alloc (Below.refl (w4).heap.size (w4)) (Obj.cells #[.int .i64 x.f0, .int .i64 x.f1, .int .i64 x.f2, .string x.f3, .slice a4 x.f4.length ac4, .slice a5 x.f5.length ac5, .int .i64 x.f6.f0, .string x.f6.f1, .int .i64 x.f6.f2, .slice a9 x.f6.f3.length ac9] 27)))
        have c5 := Has.cell HX.out 4
        simp only [List.getElem?_toArray, List.getElem?_cons_zero, List.getElem?_cons_succ] at c5
        have f5 := Has.frozen HX.out 4)
       | (
        (with_reducible refine gate_dst (N := 64) rfl ?_)
        clear c5 f5
        replace HK := Aside0.mk (Kept.setCellX HK.out (a := ⟨w3.heap.size, 4, none⟩) (.inr (by show w.heap.size ≤ w3.heap.size; omega)) (.slice (some ⟨w4.heap.size, 0, none⟩) 1 1))
        replace HP := Aside0.mk (PS.setT HP.out HX.out (by decide) (by decide) 4 (.slice (some ⟨w4.heap.size, 0, none⟩) 1 1))
        replace HR := Aside0.mk (Has.other HR.out (a := ⟨w3.heap.size, 4, none⟩) (by show w.heap.size ≠ w3.heap.size; omega) (.slice (some ⟨w4.heap.size, 0, none⟩) 1 1))
        replace HV := Aside0.mk (VO.setO HV.out (a := ⟨w3.heap.size, 4, none⟩) (fun kk h1 h2 => by show kk ≠ w3.heap.size; omega) (.slice (some ⟨w4.heap.size, 0, none⟩) 1 1))
        replace HKID := Aside0.mk (R_far HKID.out (fun kk h1 _ => Below.heap_setCell _ ⟨w3.heap.size, 4, none⟩ (.slice (some ⟨w4.heap.size, 0, none⟩) 1 1) kk (by show kk ≠ w3.heap.size; omega)))
        replace HX : Aside0 (Has (((w4.alloc (Obj.cells #[.int .i64 x.f0, .int .i64 x.f1, .int .i64 x.f2, .string x.f3, .slice a4 x.f4.length ac4, .slice a5 x.f5.length ac5, .int .i64 x.f6.f0, .string x.f6.f1, .int .i64 x.f6.f2, .slice a9 x.f6.f3.length ac9] 27))).setCell ⟨w3.heap.size, 4, none⟩ (.slice (some ⟨w4.heap.size, 0, none⟩) 1 1)) (w3.heap.size) #[.int .i64 k, .int .i64 a0, .int .i64 num, .string ⟨#[]⟩, .slice (some ⟨w4.heap.size, 0, none⟩) 1 1, .slice none 0 0, .int .i64 0, .string ⟨#[]⟩, .int .i64 0, .slice none 0 0] 27) := ⟨by have h := Has.set_ HX.out 4 (.slice (some ⟨w4.heap.size, 0, none⟩) 1 1); exact h⟩
        obtain ⟨w9, hw9⟩ : ∃ W, (((w4.alloc (Obj.cells #[.int .i64 x.f0, .int .i64 x.f1, .int .i64 x.f2, .string x.f3, .slice a4 x.f4.length ac4, .slice a5 x.f5.length ac5, .int .i64 x.f6.f0, .string x.f6.f1, .int .i64 x.f6.f2, .slice a9 x.f6.f3.length ac9] 27))).setCell ⟨w3.heap.size, 4, none⟩ (.slice (some ⟨w4.heap.size, 0, none⟩) 1 1)) = W := ⟨_, rfl⟩
        rw [hw9] at HK HP HR HX HV HKID ⊢
        clear hw9
        go_must (refine Kd.event_run rfl (load27 w9 (w3.heap.size) #[.int .i64 k, .int .i64 a0, .int .i64 num, .string ⟨#[]⟩, .slice (some ⟨w4.heap.size, 0, none⟩) 1 1, .slice none 0 0, .int .i64 0, .string ⟨#[]⟩, .int .i64 0, .slice none 0 0] HX.out rfl _ _ _ rfl rfl) ?_))
       | (
        (with_reducible refine gate_store (t := 27) (p := 6) rfl ?_)
        go_must (refine store_event (t := 27) (p := 6) (v := .tmp 64) (w1 := w9.setRow w.heap.size #[.int .i64 k, .int .i64 a0, .int .i64 num, .string ⟨#[]⟩, .slice (some ⟨w4.heap.size, 0, none⟩) 1 1, .slice none 0 0, .int .i64 0, .string ⟨#[]⟩, .int .i64 0, .slice none 0 0]) ?hg ?ho ?hn ?hr ?_; (case ho => rfl); (case hg => rfl); (case hn => rfl); (case hr => exact store27 w9 _ _ _ HR.out rfl rfl (by first | kernel_rfl | (simp [Value.oneCell'])) _ _ _ _ rfl rfl rfl); intro w77 hw77; subst hw77)))
     replace HK := Aside0.mk (kept_rowX HK.out (g := w.heap.size) (.inr (by show w.heap.size ≤ w.heap.size; omega)) #[.int .i64 k, .int .i64 a0, .int .i64 num, .string ⟨#[]⟩, .slice (some ⟨w4.heap.size, 0, none⟩) 1 1, .slice none 0 0, .int .i64 0, .string ⟨#[]⟩, .int .i64 0, .slice none 0 0])
     replace HP := Aside0.mk (PS.rowP HP.out HR.out #[.int .i64 k, .int .i64 a0, .int .i64 num, .string ⟨#[]⟩, .slice (some ⟨w4.heap.size, 0, none⟩) 1 1, .slice none 0 0, .int .i64 0, .string ⟨#[]⟩, .int .i64 0, .slice none 0 0])
     replace HX := Aside0.mk (has_row_other HX.out (g := w.heap.size) (cs' := #[.int .i64 k, .int .i64 a0, .int .i64 num, .string ⟨#[]⟩, .slice (some ⟨w4.heap.size, 0, none⟩) 1 1, .slice none 0 0, .int .i64 0, .string ⟨#[]⟩, .int .i64 0, .slice none 0 0]) (by omega))
     replace HV := Aside0.mk (VO.rowO HV.out (g := w.heap.size) (fun kk h1 h2 => by omega) #[.int .i64 k, .int .i64 a0, .int .i64 num, .string ⟨#[]⟩, .slice (some ⟨w4.heap.size, 0, none⟩) 1 1, .slice none 0 0, .int .i64 0, .string ⟨#[]⟩, .int .i64 0, .slice none 0 0])
     replace HKID := Aside0.mk (R_far HKID.out (fun kk h1 _ => row_block _ (w.heap.size) kk #[.int .i64 k, .int .i64 a0, .int .i64 num, .string ⟨#[]⟩, .slice (some ⟨w4.heap.size, 0, none⟩) 1 1, .slice none 0 0, .int .i64 0, .string ⟨#[]⟩, .int .i64 0, .slice none 0 0] (by omega)))
     replace HR := Aside0.mk (has_row HR.out #[.int .i64 k, .int .i64 a0, .int .i64 num, .string ⟨#[]⟩, .slice (some ⟨w4.heap.size, 0, none⟩) 1 1, .slice none 0 0, .int .i64 0, .string ⟨#[]⟩, .int .i64 0, .slice none 0 0])
     refine bodyPost_ret (results_cell_row rfl _ _ w.heap.size 27 #[.int .i64 k, .int .i64 a0, .int .i64 num, .string ⟨#[]⟩, .slice (some ⟨w4.heap.size, 0, none⟩) 1 1, .slice none 0 0, .int .i64 0, .string ⟨#[]⟩, .int .i64 0, .slice none 0 0] (0, 0) _ rfl HR.out Tryd.underlying27 rfl (by rfl)) rfl ?_
     rw [HE.out]
     exact ⟨HK.out, _, rfl, VO.node k a0 num ⟨#[]⟩ (Kd.R_lower HKID.out (by omega)), HP.out⟩
end Go.Proofs.YtngpgdmafmkddaaDoor.Par
end
section
namespace Go.Proofs.YtngpgdmafmkddaaDoor.Par
open Go.Proofs.YtngpgdmafmkddaaDoor.Calm Go.RowKit Go.Proofs.YtngpgdmafmkddaaDoorW.PrintWords Go.Proofs.YtngpgdmafmkddaaDoorW.PrintLast Go.Proofs.YtngpgdmafmkddaaDoorW.PrintMore
open Go.Proofs.YtngpgdmafmkddaaDoor.PParseBlanks (S35 S25 S27 k35 k25 k27 rd_T35 rd_T25 rd_T27 at_T35 at_T25 at_T27)
set_option linter.unusedVariables false
set_option linter.unusedSimpArgs false
def BPost (g : Nat) (e : Int) (r : Nat) (R : PR S27) (w : World) (en : Ending) (w' : World) : Prop :=
 Kept (fun b => b = g ∨ b = r) w w' ∧ match R with
 | .ok x l => en = .returned (.tuple #[]) ∧ (∃ cs, Has w' r cs 27 ∧ VE w.heap.size w' (.agg cs) x) ∧ PS w' g l e
 | .bad a er => en = .panicked [stopE a er]
 | .out => False
theorem Kept.thenX {S : Nat → Prop} {w w1 w2 : World} {g r : Nat} (h : Kept S w w1) (k : Kept (fun b => b = g ∨ b = r) w1 w2) (hg : S g) (hr : S r ∨ (w.heap.size ≤ r ∧ r < w1.heap.size)) : Kept S w w2 :=
 h.trans (k.mono fun b hb => by
  rcases hb with rfl | rfl
  ·exact .inl hg
  ·exact hr)
def ArrayOK (n : Nat) : Prop := ∀ (g : Nat) (e d : Int) (r : Nat) (a : Int) (l : List S35) (w : World), 0 ≤ d → d < 60 → PS w g l e → Has w r #[.int .i64 0, .int .i64 a, .int .i64 0, .string ⟨#[]⟩, .slice none 0 0, .slice none 0 0, .int .i64 0, .string ⟨#[]⟩, .int .i64 0, .slice none 0 0] 27 → arrayP e n d a l ≠ .out →
 Calls Tryd.prog 85 #[.pointer (some ⟨g, 0, none⟩), .pointer (some ⟨r, 0, none⟩), .int .i64 d] w (BPost g e r (arrayP e n d a l) w)
theorem append27 {P : Program} {ops : Array Oper} {rest : List Oper} {o : Oper} {a : Act} {Q : Exit → Act → World → Prop} {W : World} (hP : P.underlying 22 = some (.slice 27)) (hI : (P.info? 27).map (fun i => (i.zero, i.size, i.bytes)) = some (some (.agg #[.int .i64 0, .int .i64 0, .int .i64 0, .string ⟨#[]⟩, .slice none 0 0, .slice none 0 0, .int .i64 0, .string ⟨#[]⟩, .int .i64 0, .slice none 0 0]), 10, 144)) (B B2 : Nat) (hgd : o.guard = none) (s x : Operand)
  (ho : o.op = .call { callee := .builtin .append, args := #[s, x], argTypes := #[22, 22] }) (v : Value) (xs ys : List S27) (A : Option Addr) (m c : Nat) (hs : a.eval s = v) (hx : a.eval x = .slice A m c)
  (HO : k27.R 27 W B Any v xs) (HY : k27.R 27 W B2 Any (.slice A m c) ys) (hB : B ≤ B2) (hsep : ∀ k, v.ownBlock = some k → k < B2) (hl : xs.length + ys.length ≤ 2000000) (hbase : B ≤ W.heap.size)
  (h : ∀ v1 w1, k27.R 27 w1 B Any v1 (xs ++ ys) → W.grownBy w1 v.ownBlock → wpList P ops Q rest (a.put o.dst v1) w1) : wpList P ops Q (o :: rest) a W := by
 obtain ⟨A', c', e, _, hr⟩ := OwnRow.reads HY.2
 injection e with e1 e2 e3
 subst e1 e2 e3
 refine Kd.R_append_rows k27 (w0 := W) B hgd s x 22 27 (.agg #[.int .i64 0, .int .i64 0, .int .i64 0, .string ⟨#[]⟩, .slice none 0 0, .slice none 0 0, .int .i64 0, .string ⟨#[]⟩, .int .i64 0, .slice none 0 0]) 144 ho hP hI rfl (by decide) (by decide) v xs ys A ys.length c Any (fun k => B2 ≤ k) hs hx HO hr (fun x cs h => k27.M_lower hB (k27.M_mono (fun k hk => hk.2.1) (k27.M_bound h))) (fun k hk => ⟨trivial, fun e => by have := hsep k e.symm; omega⟩) (fun _ _ => trivial) (Below.refl _ _) hbase (by omega) ?_
 intro v1 w1 h1 _ h3 _
 exact h v1 w1 h1 h3
set_option maxRecDepth 100000 in
set_option maxHeartbeats 4000000 in
theorem array_ok {n : Nat} (HT : TreeOK n) (HTS : TreesOK n) : ArrayOK (n + 1) := by
 intro g e d r a l w h0 h1 HP HX hne
 unfold TreeOK at HT
 unfold TreesOK at HTS
 have hu27 := Tryd.underlying27
 have HE : arrayP e (n + 1) d a l = if isP sRbra l = true then .ok (mkE 17 a 0 ⟨#[]⟩ [] []) l.tail
  else (climbP e n (d + 1) true 1 l).andThen fun x l1 =>
   if isP sSemi l1 = true then (countP e l1.tail).andThen fun v l2 => if isP sRbra l2 = true then .ok (mkE 18 a v ⟨#[]⟩ [x] []) l2.tail else .bad (atP e l2) 30
   else if isP sRbra l1 = true then .ok (mkE 17 a 0 ⟨#[]⟩ [x] []) l1.tail
   else if isP sComma l1 = true then (treesP e n d sRbra l1.tail).andThen fun ks l2 => if ks.length ≥ 1000000 then .out else .ok (mkE 17 a 0 ⟨#[]⟩ (x :: ks) []) l2
   else .bad (atP e l1) 30 := by simp only [arrayP]
 obtain ⟨R, hR⟩ : ∃ R, arrayP e (n + 1) d a l = R := ⟨_, rfl⟩
 rw [hR] at HE hne ⊢
 clear hR
 have hgw := HP.glt
 have hrw := HX.lt
 have hrg : r ≠ g := by
  obtain ⟨_, _, q⟩ := HP
  exact HX.ne q.has (by decide)
 have HEQ := Aside0.mk HE
 have HNE := Aside0.mk hne
 have HTT := Aside0.mk HT
 have HTTS := Aside0.mk HTS
 have HK : Aside0 (Kept (fun b => b = g ∨ b = r) w w) := ⟨Kept.refl _ w⟩
 have HP := Aside0.mk HP
 have HX := Aside0.mk HX
 clear HE hne HT HTS
 have c1 := Has.cell HX.out 0
 simp only [List.getElem?_toArray, List.getElem?_cons_zero, List.getElem?_cons_succ] at c1
 have f1 := Has.frozen HX.out 0
 go_enter Tryd.func85, Tryd.ntmps85
 cases hi : isP sRbra l with
 | true =>
  replace HEQ := Aside0.mk (HEQ.out.trans (if_pos hi))
  have HI := Aside0.mk hi
  clear hi
  go_wp2_with ((
        go_at_call 41
        replace HK := Aside0.mk (Kept.setCellX HK.out (a := ⟨r, 0, none⟩) (.inl (.inr rfl)) (.int .i64 17))
        replace HP := Aside0.mk (PS.setT HP.out HX.out (by decide) (by decide) 0 (.int .i64 17))
        replace HX : Aside0 (Has (w.setCell ⟨r, 0, none⟩ (.int .i64 17)) (r) #[.int .i64 17, .int .i64 a, .int .i64 0, .string ⟨#[]⟩, .slice none 0 0, .slice none 0 0, .int .i64 0, .string ⟨#[]⟩, .int .i64 0, .slice none 0 0] 27) := ⟨by have h := Has.set_ HX.out 0 (.int .i64 17); exact h⟩
        (with_reducible refine Calls.mono (take_yes sRbra HP.out HI.out) ?_)
        rintro en w2 ⟨he2, hk2, hp2⟩
        clear c1 f1
        subst he2
        replace HK := Aside0.mk (Kept.then_ HK.out (Kept.mono hk2 fun kk h => .inl h))
        replace HX := Aside0.mk (Kept.has hk2 HX.out (by omega))
        replace HP := Aside0.mk hp2
        have hs2 := Kept.size hk2
        try simp at hs2))
  refine bodyPost_end (results_none rfl _ _ _) rfl ?_
  rw [HEQ.out]
  exact ⟨HK.out, rfl, ⟨_, HX.out, VO.leaf _ _ _ 17 a 0 ⟨#[]⟩⟩, HP.out⟩
 | false =>
  replace HEQ := Aside0.mk (HEQ.out.trans (if_neg (by rw [hi]; decide)))
  have HI := Aside0.mk hi
  clear hi
  cases hr : climbP e n (d + 1) true 1 l with
  | out => exact absurd (by rw [HEQ.out, hr] <;> rfl) HNE.out
  | bad b er =>
   have HRR := Aside0.mk hr
   replace HEQ : Aside0 (R = .bad b er) := ⟨by rw [HEQ.out, hr] <;> rfl⟩
   clear hr
   go_wp2_with (first
     | (
      go_at_call 41
      replace HK := Aside0.mk (Kept.setCellX HK.out (a := ⟨r, 0, none⟩) (.inl (.inr rfl)) (.int .i64 17))
      replace HP := Aside0.mk (PS.setT HP.out HX.out (by decide) (by decide) 0 (.int .i64 17))
      replace HX : Aside0 (Has (w.setCell ⟨r, 0, none⟩ (.int .i64 17)) (r) #[.int .i64 17, .int .i64 a, .int .i64 0, .string ⟨#[]⟩, .slice none 0 0, .slice none 0 0, .int .i64 0, .string ⟨#[]⟩, .int .i64 0, .slice none 0 0] 27) := ⟨by have h := Has.set_ HX.out 0 (.int .i64 17); exact h⟩
      (with_reducible refine Calls.mono (take_no sRbra HP.out HI.out) ?_)
      rintro en w2 ⟨he2, hk2, hp2⟩
      clear c1 f1
      subst he2
      replace HK := Aside0.mk (Kept.then_ HK.out (Kept.mono hk2 fun kk h => .inl h))
      replace HX := Aside0.mk (Kept.has hk2 HX.out (by omega))
      replace HP := Aside0.mk hp2
      have hs2 := Kept.size hk2
      try simp at hs2)
     | (
      go_at_call 18
      (with_reducible refine Calls.mono (HTT.out g e (d + 1) true l _ (by omega) (by omega) HP.out (by rw [HRR.out]; exact PR.bad_ne _ _)) ?_)
      rintro en w3 ⟨hk3, he3⟩
      rw [HRR.out] at he3
      subst he3
      replace HK := Aside0.mk (Kept.then_ HK.out (Kept.mono hk3 fun kk h => .inl h))
      replace HX := Aside0.mk (Kept.has hk3 HX.out (by omega))
      have hs3 := Kept.size hk3
      try simp at hs3))
   rw [HEQ.out]
   exact ⟨rfl, HK.out, rfl⟩
  | ok x l1 =>
   have HRR := Aside0.mk hr
   rw [hr] at HEQ
   simp only [PR.andThen] at HEQ
   clear hr
   have HIA := HI
   go_wp2_with (first
     | (
      go_at_call 41
      replace HK := Aside0.mk (Kept.setCellX HK.out (a := ⟨r, 0, none⟩) (.inl (.inr rfl)) (.int .i64 17))
      replace HP := Aside0.mk (PS.setT HP.out HX.out (by decide) (by decide) 0 (.int .i64 17))
      replace HX : Aside0 (Has (w.setCell ⟨r, 0, none⟩ (.int .i64 17)) (r) #[.int .i64 17, .int .i64 a, .int .i64 0, .string ⟨#[]⟩, .slice none 0 0, .slice none 0 0, .int .i64 0, .string ⟨#[]⟩, .int .i64 0, .slice none 0 0] 27) := ⟨by have h := Has.set_ HX.out 0 (.int .i64 17); exact h⟩
      (with_reducible refine Calls.mono (take_no sRbra HP.out HI.out) ?_)
      rintro en w2 ⟨he2, hk2, hp2⟩
      clear c1 f1
      subst he2
      replace HK := Aside0.mk (Kept.then_ HK.out (Kept.mono hk2 fun kk h => .inl h))
      replace HX := Aside0.mk (Kept.has hk2 HX.out (by omega))
      replace HP := Aside0.mk hp2
      have hs2 := Kept.size hk2
      try simp at hs2)
     | (
      go_at_call 18
      (with_reducible refine Calls.mono (HTT.out g e (d + 1) true l _ (by omega) (by omega) HP.out (by rw [HRR.out]; exact PR.ok_ne _ _)) ?_)
      rintro en w3 ⟨hk3, he3⟩
      rw [HRR.out] at he3
      obtain ⟨v3, rfl, hv3, hp3⟩ := he3
      obtain ⟨a4, ac4, a5, ac5, a9, ac9, rfl⟩ := VO.form hv3
      have HV := Aside0.mk hv3
      replace HK := Aside0.mk (Kept.then_ HK.out (Kept.mono hk3 fun kk h => .inl h))
      replace HX := Aside0.mk (Kept.has hk3 HX.out (by omega))
      replace HP := Aside0.mk hp3
      have hs3 := Kept.size hk3
      try simp at hs3
      have HKID := Aside0.mk (kidA HV.out (by omega))
      replace HK := Aside0.mk (Kept.alloc HK.out (Obj.cells #[.int .i64 x.f0, .int .i64 x.f1, .int .i64 x.f2, .string x.f3, .slice a4 x.f4.length ac4, .slice a5 x.f5.length ac5, .int .i64 x.f6.f0, .string x.f6.f1, .int .i64 x.f6.f2, .slice a9 x.f6.f3.length ac9] 27))
      replace HP := Aside0.mk (HP.out.below (below_alloc (Below.refl (w3).heap.size (w3)) (Obj.cells #[.int .i64 x.f0, .int .i64 x.f1, .int .i64 x.f2, .string x.f3, .slice a4 x.f4.length ac4, .slice a5 x.f5.length ac5, .int .i64 x.f6.f0, .string x.f6.f1, .int .i64 x.f6.f2, .slice a9 x.f6.f3.length ac9] 27)))
      replace HX := Aside0.mk (Has.alloc HX.out (Obj.cells #[.int .i64 x.f0, .int .i64 x.f1, .int .i64 x.f2, .string x.f3, .slice a4 x.f4.length ac4, .slice a5 x.f5.length ac5, .int .i64 x.f6.f0, .string x.f6.f1, .int .i64 x.f6.f2, .slice a9 x.f6.f3.length ac9] 27))
      replace HV := Aside0.mk (HV.out.below (below_alloc (Below.refl (w3).heap.size (w3)) (Obj.cells #[.int .i64 x.f0, .int .i64 x.f1, .int .i64 x.f2, .string x.f3, .slice a4 x.f4.length ac4, .slice a5 x.f5.length ac5, .int .i64 x.f6.f0, .string x.f6.f1, .int .i64 x.f6.f2, .slice a9 x.f6.f3.length ac9] 27)))
      have c4 := Has.cell HX.out 4
      simp only [List.getElem?_toArray, List.getElem?_cons_zero, List.getElem?_cons_succ] at c4
      have f4 := Has.frozen HX.out 4))
   clear HI HIA
   clear c4 f4
   replace HK := Aside0.mk (Kept.setCellX HK.out (a := ⟨r, 4, none⟩) (.inl (.inr rfl)) (.slice (some ⟨w3.heap.size, 0, none⟩) 1 1))
   replace HP := Aside0.mk (PS.setT HP.out HX.out (by decide) (by decide) 4 (.slice (some ⟨w3.heap.size, 0, none⟩) 1 1))
   replace HV := Aside0.mk (VO.setO HV.out (a := ⟨r, 4, none⟩) (fun kk h1 h2 => by show kk ≠ r; omega) (.slice (some ⟨w3.heap.size, 0, none⟩) 1 1))
   replace HKID := Aside0.mk (R_far HKID.out (fun kk h1 _ => Below.heap_setCell _ ⟨r, 4, none⟩ (.slice (some ⟨w3.heap.size, 0, none⟩) 1 1) kk (by show kk ≠ r; omega)))
   replace HX : Aside0 (Has (((w3.alloc (Obj.cells #[.int .i64 x.f0, .int .i64 x.f1, .int .i64 x.f2, .string x.f3, .slice a4 x.f4.length ac4, .slice a5 x.f5.length ac5, .int .i64 x.f6.f0, .string x.f6.f1, .int .i64 x.f6.f2, .slice a9 x.f6.f3.length ac9] 27))).setCell ⟨r, 4, none⟩ (.slice (some ⟨w3.heap.size, 0, none⟩) 1 1)) (r) #[.int .i64 17, .int .i64 a, .int .i64 0, .string ⟨#[]⟩, .slice (some ⟨w3.heap.size, 0, none⟩) 1 1, .slice none 0 0, .int .i64 0, .string ⟨#[]⟩, .int .i64 0, .slice none 0 0] 27) := ⟨by have h := Has.set_ HX.out 4 (.slice (some ⟨w3.heap.size, 0, none⟩) 1 1); exact h⟩
   obtain ⟨w9, hw9⟩ : ∃ W, (((w3.alloc (Obj.cells #[.int .i64 x.f0, .int .i64 x.f1, .int .i64 x.f2, .string x.f3, .slice a4 x.f4.length ac4, .slice a5 x.f5.length ac5, .int .i64 x.f6.f0, .string x.f6.f1, .int .i64 x.f6.f2, .slice a9 x.f6.f3.length ac9] 27))).setCell ⟨r, 4, none⟩ (.slice (some ⟨w3.heap.size, 0, none⟩) 1 1)) = W := ⟨_, rfl⟩
   rw [hw9] at HK HP HX HV HKID ⊢
   clear hw9
   have hs99 := HX.out.lt
   cases hi : isP sSemi l1 with
   | true =>
    replace HEQ := Aside0.mk (HEQ.out.trans (if_pos hi))
    have HI := Aside0.mk hi
    clear hi
    cases hr : countP e l1.tail with
    | out => exact absurd (by rw [HEQ.out, hr] <;> rfl) HNE.out
    | bad b er =>
     have HRC := Aside0.mk hr
     replace HEQ : Aside0 (R = .bad b er) := ⟨by rw [HEQ.out, hr] <;> rfl⟩
     clear hr
     go_wp2_with (first
       | (
        go_at_call 41
        (with_reducible refine Calls.mono (take_yes sSemi HP.out HI.out) ?_)
        rintro en w5 ⟨he5, hk5, hp5⟩
        subst he5
        replace HK := Aside0.mk (Kept.then_ HK.out (Kept.mono hk5 fun kk h => .inl h))
        replace HX := Aside0.mk (Kept.has hk5 HX.out (by omega))
        replace HV := Aside0.mk (VO.kps HV.out HP.out hk5)
        replace HKID := Aside0.mk (R_kps HKID.out HP.out hk5)
        replace HP := Aside0.mk hp5
        have hs5 := Kept.size hk5
        try simp at hs5)
       | (
        go_at_call 64
        (with_reducible refine Calls.mono (count_said g _ e _ HP.out (by rw [HRC.out]; exact PR.bad_ne _ _)) ?_)
        rintro en w6 ⟨hk6, he6⟩
        rw [HRC.out] at he6
        subst he6
        replace HK := Aside0.mk (Kept.then_ HK.out (Kept.mono hk6 fun kk h => .inl h))
        replace HX := Aside0.mk (Kept.has hk6 HX.out (by omega))
        replace HV := Aside0.mk (VO.kps HV.out HP.out hk6)
        replace HKID := Aside0.mk (R_kps HKID.out HP.out hk6)
        have hs6 := Kept.size hk6
        try simp at hs6))
     rw [HEQ.out]
     exact ⟨rfl, HK.out, rfl⟩
    | ok v l2 =>
     have HRC := Aside0.mk hr
     rw [hr] at HEQ
     simp only [PR.andThen] at HEQ
     clear hr
     cases hj : isP sRbra l2 with
     | true =>
      replace HEQ := Aside0.mk (HEQ.out.trans (if_pos hj))
      have HJ := Aside0.mk hj
      clear hj
      go_wp2_with (first
        | (
         go_at_call 41
         (with_reducible refine Calls.mono (take_yes sSemi HP.out HI.out) ?_)
         rintro en w5 ⟨he5, hk5, hp5⟩
         subst he5
         replace HK := Aside0.mk (Kept.then_ HK.out (Kept.mono hk5 fun kk h => .inl h))
         replace HX := Aside0.mk (Kept.has hk5 HX.out (by omega))
         replace HV := Aside0.mk (VO.kps HV.out HP.out hk5)
         replace HKID := Aside0.mk (R_kps HKID.out HP.out hk5)
         replace HP := Aside0.mk hp5
         have hs5 := Kept.size hk5
         try simp at hs5)
        | (
         go_at_call 64
         (with_reducible refine Calls.mono (count_said g _ e _ HP.out (by rw [HRC.out]; exact PR.ok_ne _ _)) ?_)
         rintro en w6 ⟨hk6, he6⟩
         rw [HRC.out] at he6
         obtain ⟨v6, rfl, hv6, hp6⟩ := he6
         obtain rfl := hv6
         replace HK := Aside0.mk (Kept.then_ HK.out (Kept.mono hk6 fun kk h => .inl h))
         replace HX := Aside0.mk (Kept.has hk6 HX.out (by omega))
         replace HV := Aside0.mk (VO.kps HV.out HP.out hk6)
         replace HKID := Aside0.mk (R_kps HKID.out HP.out hk6)
         replace HP := Aside0.mk hp6
         have hs6 := Kept.size hk6
         try simp at hs6
         have c7 := Has.cell HX.out 0
         simp only [List.getElem?_toArray, List.getElem?_cons_zero, List.getElem?_cons_succ] at c7
         have f7 := Has.frozen HX.out 0
         have q8 : Has (World.setCell (w6) ⟨r, 0, none⟩ (.int .i64 18)) (r) #[.int .i64 18, .int .i64 a, .int .i64 0, .string ⟨#[]⟩, .slice (some ⟨w3.heap.size, 0, none⟩) 1 1, .slice none 0 0, .int .i64 0, .string ⟨#[]⟩, .int .i64 0, .slice none 0 0] 27 := Has.set_ HX.out 0 (.int .i64 18)
         have c8 := q8.cell 2
         simp only [List.getElem?_toArray, List.getElem?_cons_zero, List.getElem?_cons_succ] at c8
         have f8 := q8.frozen 2
         clear q8))
      clear c7 f7 c8 f8
      replace HK := Aside0.mk (Kept.setCellX HK.out (a := ⟨r, 0, none⟩) (.inl (.inr rfl)) (.int .i64 18))
      replace HP := Aside0.mk (PS.setT HP.out HX.out (by decide) (by decide) 0 (.int .i64 18))
      replace HV := Aside0.mk (VO.setO HV.out (a := ⟨r, 0, none⟩) (fun kk h1 h2 => by show kk ≠ r; omega) (.int .i64 18))
      replace HKID := Aside0.mk (R_far HKID.out (fun kk h1 _ => Below.heap_setCell _ ⟨r, 0, none⟩ (.int .i64 18) kk (by show kk ≠ r; omega)))
      replace HX : Aside0 (Has (w6.setCell ⟨r, 0, none⟩ (.int .i64 18)) (r) #[.int .i64 18, .int .i64 a, .int .i64 0, .string ⟨#[]⟩, .slice (some ⟨w3.heap.size, 0, none⟩) 1 1, .slice none 0 0, .int .i64 0, .string ⟨#[]⟩, .int .i64 0, .slice none 0 0] 27) := ⟨by have h := Has.set_ HX.out 0 (.int .i64 18); exact h⟩
      replace HK := Aside0.mk (Kept.setCellX HK.out (a := ⟨r, 2, none⟩) (.inl (.inr rfl)) (.int .i64 v))
      replace HP := Aside0.mk (PS.setT HP.out HX.out (by decide) (by decide) 2 (.int .i64 v))
      replace HV := Aside0.mk (VO.setO HV.out (a := ⟨r, 2, none⟩) (fun kk h1 h2 => by show kk ≠ r; omega) (.int .i64 v))
      replace HKID := Aside0.mk (R_far HKID.out (fun kk h1 _ => Below.heap_setCell _ ⟨r, 2, none⟩ (.int .i64 v) kk (by show kk ≠ r; omega)))
      replace HX : Aside0 (Has (((w6.setCell ⟨r, 0, none⟩ (.int .i64 18))).setCell ⟨r, 2, none⟩ (.int .i64 v)) (r) #[.int .i64 18, .int .i64 a, .int .i64 v, .string ⟨#[]⟩, .slice (some ⟨w3.heap.size, 0, none⟩) 1 1, .slice none 0 0, .int .i64 0, .string ⟨#[]⟩, .int .i64 0, .slice none 0 0] 27) := ⟨by have h := Has.set_ HX.out 2 (.int .i64 v); exact h⟩
      go_wp2_with ((
            go_at_call 42
            (with_reducible refine Calls.mono (need_yes sRbra HP.out HJ.out) ?_)
            rintro en w9 ⟨he9, hk9, hp9⟩
            subst he9
            replace HK := Aside0.mk (Kept.then_ HK.out (Kept.mono hk9 fun kk h => .inl h))
            replace HX := Aside0.mk (Kept.has hk9 HX.out (by omega))
            replace HV := Aside0.mk (VO.kps HV.out HP.out hk9)
            replace HKID := Aside0.mk (R_kps HKID.out HP.out hk9)
            replace HP := Aside0.mk hp9
            have hs9 := Kept.size hk9
            try simp at hs9))
      refine bodyPost_end (results_none rfl _ _ _) rfl ?_
      rw [HEQ.out]
      exact ⟨HK.out, rfl, ⟨_, HX.out, VO.node 18 a v ⟨#[]⟩ (Kd.R_lower HKID.out (by omega))⟩, HP.out⟩
     | false =>
      replace HEQ := Aside0.mk (HEQ.out.trans (if_neg (by rw [hj]; decide)))
      have HJ := Aside0.mk hj
      clear hj
      go_wp2_with (first
        | (
         go_at_call 41
         (with_reducible refine Calls.mono (take_yes sSemi HP.out HI.out) ?_)
         rintro en w5 ⟨he5, hk5, hp5⟩
         subst he5
         replace HK := Aside0.mk (Kept.then_ HK.out (Kept.mono hk5 fun kk h => .inl h))
         replace HX := Aside0.mk (Kept.has hk5 HX.out (by omega))
         replace HV := Aside0.mk (VO.kps HV.out HP.out hk5)
         replace HKID := Aside0.mk (R_kps HKID.out HP.out hk5)
         replace HP := Aside0.mk hp5
         have hs5 := Kept.size hk5
         try simp at hs5)
        | (
         go_at_call 64
         (with_reducible refine Calls.mono (count_said g _ e _ HP.out (by rw [HRC.out]; exact PR.ok_ne _ _)) ?_)
         rintro en w6 ⟨hk6, he6⟩
         rw [HRC.out] at he6
         obtain ⟨v6, rfl, hv6, hp6⟩ := he6
         obtain rfl := hv6
         replace HK := Aside0.mk (Kept.then_ HK.out (Kept.mono hk6 fun kk h => .inl h))
         replace HX := Aside0.mk (Kept.has hk6 HX.out (by omega))
         replace HV := Aside0.mk (VO.kps HV.out HP.out hk6)
         replace HKID := Aside0.mk (R_kps HKID.out HP.out hk6)
         replace HP := Aside0.mk hp6
         have hs6 := Kept.size hk6
         try simp at hs6
         have c7 := Has.cell HX.out 0
         simp only [List.getElem?_toArray, List.getElem?_cons_zero, List.getElem?_cons_succ] at c7
         have f7 := Has.frozen HX.out 0
         have q8 : Has (World.setCell (w6) ⟨r, 0, none⟩ (.int .i64 18)) (r) #[.int .i64 18, .int .i64 a, .int .i64 0, .string ⟨#[]⟩, .slice (some ⟨w3.heap.size, 0, none⟩) 1 1, .slice none 0 0, .int .i64 0, .string ⟨#[]⟩, .int .i64 0, .slice none 0 0] 27 := Has.set_ HX.out 0 (.int .i64 18)
         have c8 := q8.cell 2
         simp only [List.getElem?_toArray, List.getElem?_cons_zero, List.getElem?_cons_succ] at c8
         have f8 := q8.frozen 2
         clear q8))
      clear c7 f7 c8 f8
      replace HK := Aside0.mk (Kept.setCellX HK.out (a := ⟨r, 0, none⟩) (.inl (.inr rfl)) (.int .i64 18))
      replace HP := Aside0.mk (PS.setT HP.out HX.out (by decide) (by decide) 0 (.int .i64 18))
      replace HV := Aside0.mk (VO.setO HV.out (a := ⟨r, 0, none⟩) (fun kk h1 h2 => by show kk ≠ r; omega) (.int .i64 18))
      replace HKID := Aside0.mk (R_far HKID.out (fun kk h1 _ => Below.heap_setCell _ ⟨r, 0, none⟩ (.int .i64 18) kk (by show kk ≠ r; omega)))
      replace HX : Aside0 (Has (w6.setCell ⟨r, 0, none⟩ (.int .i64 18)) (r) #[.int .i64 18, .int .i64 a, .int .i64 0, .string ⟨#[]⟩, .slice (some ⟨w3.heap.size, 0, none⟩) 1 1, .slice none 0 0, .int .i64 0, .string ⟨#[]⟩, .int .i64 0, .slice none 0 0] 27) := ⟨by have h := Has.set_ HX.out 0 (.int .i64 18); exact h⟩
      replace HK := Aside0.mk (Kept.setCellX HK.out (a := ⟨r, 2, none⟩) (.inl (.inr rfl)) (.int .i64 v))
      replace HP := Aside0.mk (PS.setT HP.out HX.out (by decide) (by decide) 2 (.int .i64 v))
      replace HV := Aside0.mk (VO.setO HV.out (a := ⟨r, 2, none⟩) (fun kk h1 h2 => by show kk ≠ r; omega) (.int .i64 v))
      replace HKID := Aside0.mk (R_far HKID.out (fun kk h1 _ => Below.heap_setCell _ ⟨r, 2, none⟩ (.int .i64 v) kk (by show kk ≠ r; omega)))
      replace HX : Aside0 (Has (((w6.setCell ⟨r, 0, none⟩ (.int .i64 18))).setCell ⟨r, 2, none⟩ (.int .i64 v)) (r) #[.int .i64 18, .int .i64 a, .int .i64 v, .string ⟨#[]⟩, .slice (some ⟨w3.heap.size, 0, none⟩) 1 1, .slice none 0 0, .int .i64 0, .string ⟨#[]⟩, .int .i64 0, .slice none 0 0] 27) := ⟨by have h := Has.set_ HX.out 2 (.int .i64 v); exact h⟩
      go_wp2_with ((
            go_at_call 42
            (with_reducible refine Calls.mono (need_no sRbra HP.out HJ.out) ?_)
            rintro en w9 ⟨he9, hk9⟩
            subst he9
            replace HK := Aside0.mk (Kept.then_ HK.out (Kept.mono hk9 fun kk h => .inl h))
            replace HX := Aside0.mk (Kept.has hk9 HX.out (by omega))
            replace HV := Aside0.mk (VO.kps HV.out HP.out hk9)
            replace HKID := Aside0.mk (R_kps HKID.out HP.out hk9)
            have hs9 := Kept.size hk9
            try simp at hs9))
      rw [HEQ.out]
      exact ⟨rfl, HK.out, rfl⟩
   | false =>
    replace HEQ := Aside0.mk (HEQ.out.trans (if_neg (by rw [hi]; decide)))
    have HI := Aside0.mk hi
    clear hi
    cases hj : isP sRbra l1 with
    | true =>
     replace HEQ := Aside0.mk (HEQ.out.trans (if_pos hj))
     have HJ := Aside0.mk hj
     clear hj
     have HNIL : Aside0 (l1 ≠ []) := ⟨by intro h; rw [h] at HJ; exact Bool.noConfusion HJ.out⟩
     go_wp2_with (first
       | (
        go_at_call 41
        (with_reducible refine Calls.mono (take_no sSemi HP.out HI.out) ?_)
        rintro en w5 ⟨he5, hk5, hp5⟩
        subst he5
        replace HK := Aside0.mk (Kept.then_ HK.out (Kept.mono hk5 fun kk h => .inl h))
        replace HX := Aside0.mk (Kept.has hk5 HX.out (by omega))
        replace HV := Aside0.mk (VO.kps HV.out HP.out hk5)
        replace HKID := Aside0.mk (R_kps HKID.out HP.out hk5)
        replace HP := Aside0.mk hp5
        have hs5 := Kept.size hk5
        try simp at hs5)
       | (
        go_at_call 60
        (with_reducible refine Calls.mono (is_ps sRbra HP.out) ?_)
        rintro en w6 ⟨he6, hb6⟩
        rw [HJ.out] at he6
        subst he6
        replace HK := Aside0.mk (Kept.below HK.out hb6)
        replace HP := Aside0.mk (HP.out.below hb6)
        replace HX := Aside0.mk (HX.out.belowS hb6)
        replace HV := Aside0.mk (HV.out.below hb6)
        replace HKID := Aside0.mk (Kd.R_below HKID.out hb6)
        have hs6 := Below.size hb6
        try simp at hs6)
       | (
        go_at_call 54
        (with_reducible refine Calls.mono (next_ps HP.out HNIL.out) ?_)
        rintro en w7 ⟨he7, hk7, hp7⟩
        obtain ⟨_, _, _, he7⟩ := he7
        subst he7
        replace HK := Aside0.mk (Kept.then_ HK.out (Kept.mono hk7 fun kk h => .inl h))
        replace HX := Aside0.mk (Kept.has hk7 HX.out (by omega))
        replace HV := Aside0.mk (VO.kps HV.out HP.out hk7)
        replace HKID := Aside0.mk (R_kps HKID.out HP.out hk7)
        replace HP := Aside0.mk hp7
        have hs7 := Kept.size hk7
        try simp at hs7))
     refine bodyPost_end (results_none rfl _ _ _) rfl ?_
     rw [HEQ.out]
     exact ⟨HK.out, rfl, ⟨_, HX.out, VO.node 17 a 0 ⟨#[]⟩ (Kd.R_lower HKID.out (by omega))⟩, HP.out⟩
    | false =>
     replace HEQ := Aside0.mk (HEQ.out.trans (if_neg (by rw [hj]; decide)))
     have HJ := Aside0.mk hj
     clear hj
     cases hk : isP sComma l1 with
     | false =>
      replace HEQ := Aside0.mk (HEQ.out.trans (if_neg (by rw [hk]; decide)))
      have HKK := Aside0.mk hk
      clear hk
      go_wp2_with (first
        | (
         go_at_call 41
         (with_reducible refine Calls.mono (take_no sSemi HP.out HI.out) ?_)
         rintro en w5 ⟨he5, hk5, hp5⟩
         subst he5
         replace HK := Aside0.mk (Kept.then_ HK.out (Kept.mono hk5 fun kk h => .inl h))
         replace HX := Aside0.mk (Kept.has hk5 HX.out (by omega))
         replace HV := Aside0.mk (VO.kps HV.out HP.out hk5)
         replace HKID := Aside0.mk (R_kps HKID.out HP.out hk5)
         replace HP := Aside0.mk hp5
         have hs5 := Kept.size hk5
         try simp at hs5)
        | (
         go_at_call 60
         (with_reducible refine Calls.mono (is_ps sRbra HP.out) ?_)
         rintro en w6 ⟨he6, hb6⟩
         rw [HJ.out] at he6
         subst he6
         replace HK := Aside0.mk (Kept.below HK.out hb6)
         replace HP := Aside0.mk (HP.out.below hb6)
         replace HX := Aside0.mk (HX.out.belowS hb6)
         replace HV := Aside0.mk (HV.out.below hb6)
         replace HKID := Aside0.mk (Kd.R_below HKID.out hb6)
         have hs6 := Below.size hb6
         try simp at hs6)
        | (
         go_at_call 42
         (with_reducible refine Calls.mono (need_no sComma HP.out HKK.out) ?_)
         rintro en w7 ⟨he7, hk7⟩
         subst he7
         replace HK := Aside0.mk (Kept.then_ HK.out (Kept.mono hk7 fun kk h => .inl h))
         replace HX := Aside0.mk (Kept.has hk7 HX.out (by omega))
         replace HV := Aside0.mk (VO.kps HV.out HP.out hk7)
         replace HKID := Aside0.mk (R_kps HKID.out HP.out hk7)
         have hs7 := Kept.size hk7
         try simp at hs7))
      rw [HEQ.out]
      exact ⟨rfl, HK.out, rfl⟩
     | true =>
      replace HEQ := Aside0.mk (HEQ.out.trans (if_pos hk))
      have HKK := Aside0.mk hk
      clear hk
      go_wp2_with (first
        | (
         go_at_call 41
         (with_reducible refine Calls.mono (take_no sSemi HP.out HI.out) ?_)
         rintro en w5 ⟨he5, hk5, hp5⟩
         subst he5
         replace HK := Aside0.mk (Kept.then_ HK.out (Kept.mono hk5 fun kk h => .inl h))
         replace HX := Aside0.mk (Kept.has hk5 HX.out (by omega))
         replace HV := Aside0.mk (VO.kps HV.out HP.out hk5)
         replace HKID := Aside0.mk (R_kps HKID.out HP.out hk5)
         replace HP := Aside0.mk hp5
         have hs5 := Kept.size hk5
         try simp at hs5)
        | (
         go_at_call 60
         (with_reducible refine Calls.mono (is_ps sRbra HP.out) ?_)
         rintro en w6 ⟨he6, hb6⟩
         rw [HJ.out] at he6
         subst he6
         replace HK := Aside0.mk (Kept.below HK.out hb6)
         replace HP := Aside0.mk (HP.out.below hb6)
         replace HX := Aside0.mk (HX.out.belowS hb6)
         replace HV := Aside0.mk (HV.out.below hb6)
         replace HKID := Aside0.mk (Kd.R_below HKID.out hb6)
         have hs6 := Below.size hb6
         try simp at hs6)
        | (
         go_at_call 42
         (with_reducible refine Calls.mono (need_yes sComma HP.out HKK.out) ?_)
         rintro en w7 ⟨he7, hk7, hp7⟩
         subst he7
         replace HK := Aside0.mk (Kept.then_ HK.out (Kept.mono hk7 fun kk h => .inl h))
         replace HX := Aside0.mk (Kept.has hk7 HX.out (by omega))
         replace HV := Aside0.mk (VO.kps HV.out HP.out hk7)
         replace HKID := Aside0.mk (R_kps HKID.out HP.out hk7)
         replace HP := Aside0.mk hp7
         have hs7 := Kept.size hk7
         try simp at hs7))
      have hD := below_drew (Below.refl w7.heap.size w7)
      replace HK := Aside0.mk (Kept.below HK.out hD)
      replace HP := Aside0.mk (HP.out.below hD)
      replace HX := Aside0.mk (HX.out.belowS hD)
      replace HV := Aside0.mk (HV.out.below hD)
      replace HKID := Aside0.mk (Kd.R_below HKID.out hD)
      clear hD
      have c8 := Has.cell HX.out 4
      simp only [List.getElem?_toArray, List.getElem?_cons_zero, List.getElem?_cons_succ] at c8
      have f8 := Has.frozen HX.out 4
      obtain ⟨W, hW⟩ : ∃ W, w7.drew = W := ⟨_, rfl⟩
      rw [hW] at HK HP HX HV HKID c8
      refine region_treeT 9 (by kernel_rfl) (by kernel_rfl) (fun w' => w'.cell? ⟨r, 4, none⟩ = some (.slice (some ⟨w3.heap.size, 0, none⟩) 1 1)) (hW ▸ c8) fun hS => ?_
      rw [hW] at hS ⊢
      clear hW
      simp only [List.take_succ_cons, List.take_zero]
      generalize hQQ : tailQ _ _ _ _ = QQ
      have hsure : Sure QQ := by
       rw [← hQQ]
       intro c a a' w1 hd h
       simp +zetaDelta only [tailQ, Exit.then, Exit.inBlock, bodyPost] at h ⊢
       simpa [hd] using h
      refine treeQ_h hsure hS (i := 0) (by kernel_rfl) (by rfl) (by rfl) (by kernel_rfl) (by rfl) ?_
      apply Exists.intro
      apply And.intro
      ·rintro w' k1
       apply VR.mk
       go_simp
       with_reducible rfl
      simp only [List.setIfInBounds_toArray, List.set_cons_zero, List.set_cons_succ]
      refine treeQ_h hsure hS (i := 1) (by kernel_rfl) (by rfl) (by rfl) (by kernel_rfl) (by rfl) ?_
      apply Exists.intro
      apply And.intro
      ·rintro w' k1
       apply VR.mk
       go_simp
       with_reducible rfl
      simp only [List.setIfInBounds_toArray, List.set_cons_zero, List.set_cons_succ]
      refine treeQ_h hsure hS (i := 2) (by kernel_rfl) (by rfl) (by rfl) (by kernel_rfl) (by rfl) ?_
      apply Exists.intro
      apply And.intro
      ·rintro w' k1
       apply VR.mk
       go_simp
       with_reducible rfl
      simp only [List.setIfInBounds_toArray, List.set_cons_zero, List.set_cons_succ]
      refine treeQ_h hsure hS (i := 3) (by kernel_rfl) (by rfl) (by rfl) (by kernel_rfl) (by rfl) ?_
      apply Exists.intro
      apply And.intro
      ·rintro w' k1
       apply VR.mk
       go_simp
       with_reducible rfl
      simp only [List.setIfInBounds_toArray, List.set_cons_zero, List.set_cons_succ]
      refine treeQ_h hsure hS (i := 4) (by kernel_rfl) (by rfl) (by rfl) (by kernel_rfl) (by rfl) ?_
      apply Exists.intro
      apply And.intro
      ·rintro w' k1
       apply VR.mk
       go_simp
       with_reducible rfl
      simp only [List.setIfInBounds_toArray, List.set_cons_zero, List.set_cons_succ]
      refine treeQ_h hsure hS (i := 5) (by kernel_rfl) (by rfl) (by rfl) (by kernel_rfl) (by rfl) ?_
      apply Exists.intro
      apply And.intro
      ·rintro w' k1
       apply VR.mk
       go_simp
       with_reducible rfl
      simp only [List.setIfInBounds_toArray, List.set_cons_zero, List.set_cons_succ]
      refine treeQ_h hsure hS (i := 6) (by kernel_rfl) (by rfl) (by rfl) (by kernel_rfl) (by rfl) ?_
      apply Exists.intro
      apply And.intro
      ·rintro w' k1
       apply VR.mk
       go_simp
       with_reducible rfl
      simp only [List.setIfInBounds_toArray, List.set_cons_zero, List.set_cons_succ]
      refine tree_1Q (i := 7) (by kernel_rfl) ?_
      refine step_callQ (by rfl) (by rfl) (by rfl) (ER.go (by go_simp; with_reducible exact ⟨rfl, rfl⟩)) ?_
      have hne2 : treesP e n d sRbra l1.tail ≠ .out := fun h => HNE.out (by rw [HEQ.out, h] <;> rfl)
      refine (HTTS.out g e d sRbra l1.tail W h0 (by omega) HP.out hne2).mono ?_
      intro en w1 hq
      rcases hq.ways with ⟨v, ks, l2, hr, rfl, hk, hv, hp⟩ | ⟨b, er, hr, rfl, hk⟩
      ·have hsr : r < W.heap.size := HX.out.lt
       rw [hr] at HEQ
       simp only [PR.andThen] at HEQ
       have hks : ¬ ks.length ≥ 1000000 := fun h => HNE.out (HEQ.out.trans (if_pos h))
       replace HEQ := Aside0.mk (HEQ.out.trans (if_neg hks))
       have HKID0 := HKID
       replace HK := Aside0.mk (Kept.then_ HK.out (Kept.mono hk fun kk h => .inl h))
       replace HX := Aside0.mk (Kept.has hk HX.out (by omega))
       replace HV := Aside0.mk (VO.kps HV.out HP.out hk)
       replace HKID := Aside0.mk (R_kps HKID.out HP.out hk)
       replace HP := Aside0.mk hp
       have hs8 := Kept.size hk
       try simp at hs8
       have hX1 := HX.out.cell 4
       simp only [List.getElem?_toArray, List.getElem?_cons_zero, List.getElem?_cons_succ] at hX1
       have fX1 := HX.out.frozen 4
       refine .inl ⟨v, rfl, hX1, ?_⟩
       obtain ⟨A2, c2, rfl⟩ := Kd.R_slice hv
       simp only [List.setIfInBounds_toArray, List.set_cons_zero, List.set_cons_succ]
       refine tree_1Q (i := 8) (by kernel_rfl) ?_
       refine step_list (by rfl) ?_
       have hlit : ∀ k, (Value.ownBlock (.slice (some ⟨w3.heap.size, 0, none⟩) 1 1)) = some k → w2.heap.size ≤ k ∧ k < W.heap.size := fun k hk => ⟨((Kd.R_bound HKID0.out).1 k hk).2.1, ((Kd.R_bound HKID0.out).1 k hk).2.2.1⟩
       refine append27 Tryd.underlying22 info27 (w2.heap.size) (W.heap.size) rfl _ _ rfl (.slice (some ⟨w3.heap.size, 0, none⟩) 1 1) [x] ks A2 ks.length c2 (by rfl) (by rfl) HKID.out hv (by have := hlit _ rfl; omega) (fun kk hkk => (hlit kk hkk).2) (by simp; omega) (by have := hlit _ rfl; omega) ?_
       intro v1 w2 hR2 hG2
       have hP2 := HP.out.grown hG2 (fun k hk => R_own27 HKID.out k hk)
       have hrn : some r ≠ Value.ownBlock (.slice (some ⟨w3.heap.size, 0, none⟩) 1 1) := fun h => by have := (hlit r h.symm).1; omega
       have hX2 := HX.out.of_block (hG2.block r HX.out.lt hrn)
       have hK2 := Kept.grown HK.out hG2 (fun k hk => .inr ⟨by have := (hlit k hk).1; omega, by have := (hlit k hk).2; omega⟩)
       obtain ⟨A3, c3, rfl⟩ := Kd.R_slice hR2
       have hX3 := hX2.cell 4
       simp only [List.getElem?_toArray, List.getElem?_cons_zero, List.getElem?_cons_succ] at hX3
       have fX3 := hX2.frozen 4
       clear hX1 fX1
       refine ⟨hX3, ?_⟩
       rw [← hQQ]
       refine tree_doneT (by kernel_rfl) ?_
       simp only [List.drop_succ_cons, List.drop_zero, Act.put, List.setIfInBounds_toArray, List.set_cons_zero, List.set_cons_succ]
       go_wp2
       refine bodyPost_end (results_none rfl _ _ _) rfl ?_
       rw [HEQ.out]
       exact ⟨Kept.setCellX hK2 (a := ⟨r, 4, none⟩) (.inl (.inr rfl)) _, rfl, ⟨_, hX2.set_ 4 _, VO.node 17 a 0 ⟨#[]⟩ (Kd.R_lower (R_far hR2 (fun kk h1 _ => Below.heap_setCell _ ⟨r, 4, none⟩ _ kk (by show kk ≠ r; omega))) (by omega))⟩, hP2.setT hX2 (by decide) (by decide) 4 _⟩
      ·refine .inr ⟨_, rfl, ?_⟩
       replace HEQ : Aside0 (R = .bad b er) := ⟨by rw [HEQ.out, hr] <;> rfl⟩
       rw [← hQQ, HEQ.out]
       exact ⟨rfl, Kept.then_ HK.out (Kept.mono hk fun kk h => .inl h), rfl⟩
end Go.Proofs.YtngpgdmafmkddaaDoor.Par
end
section
namespace Go.Proofs.YtngpgdmafmkddaaDoor.Par
open Go.Proofs.YtngpgdmafmkddaaDoor.Calm Go.RowKit Go.Proofs.YtngpgdmafmkddaaDoorW.PrintWords Go.Proofs.YtngpgdmafmkddaaDoorW.PrintLast Go.Proofs.YtngpgdmafmkddaaDoorW.PrintMore
open Go.Proofs.YtngpgdmafmkddaaDoor.PParseBlanks (S35 S25 S27 k35 k25 k27 rd_T35 rd_T25 rd_T27 at_T35 at_T25 at_T27)
set_option linter.unusedVariables false
set_option linter.unusedSimpArgs false
def NamedOK (n : Nat) : Prop := ∀ (g : Nat) (e d : Int) (op : Bool) (r : Nat) (l : List S35) (w : World), 0 ≤ d → d < 60 → PS w g l e → Has w r #[.int .i64 0, .int .i64 (atP e l), .int .i64 0, .string ⟨#[]⟩, .slice none 0 0, .slice none 0 0, .int .i64 0, .string ⟨#[]⟩, .int .i64 0, .slice none 0 0] 27 → namedP e n d op l ≠ .out →
 Calls Tryd.prog 86 #[.pointer (some ⟨g, 0, none⟩), .pointer (some ⟨r, 0, none⟩), .int .i64 d, .bool op] w (BPost g e r (namedP e n d op l) w)
set_option maxRecDepth 100000 in
set_option maxHeartbeats 4000000 in
theorem named_ok {n : Nat} (HTS : TreesOK n) : NamedOK (n + 1) := by
 intro g e d op r l w h0 h1 HP HX hne
 unfold TreesOK at HTS
 have hu27 := Tryd.underlying27
 have HE : namedP e (n + 1) d op l = (nameP e l).andThen fun s l1 =>
  if isP sLpar l1 = true then (treesP e n d sRpar l1.tail).andThen fun ks l2 => .ok (mkE 11 (atP e l) 0 s ks []) l2
  else if isP sColons l1 = true then (nameP e l1.tail).andThen fun s2 l2 =>
   if s.size + s2.size ≥ 4611686018427387904 then .out
   else if isP sLpar l2 = true then (treesP e n d sRpar l2.tail).andThen fun ks l3 => .ok (mkE 16 (atP e l) 0 (s ++ (sColons ++ s2)) ks []) l3
   else .ok (mkE 16 (atP e l) 0 (s ++ (sColons ++ s2)) [] []) l2
  else if op = true ∧ isP sLbrace l1 = true then .out
  else .ok (mkE 4 (atP e l) 0 s [] []) l1 := by simp only [namedP]
 obtain ⟨R, hR⟩ : ∃ R, namedP e (n + 1) d op l = R := ⟨_, rfl⟩
 rw [hR] at HE hne ⊢
 clear hR
 have hgw := HP.glt
 have hrw := HX.lt
 have hrg : r ≠ g := by
  obtain ⟨_, _, q⟩ := HP
  exact HX.ne q.has (by decide)
 obtain ⟨a0, ha0⟩ : ∃ a, atP e l = a := ⟨_, rfl⟩
 rw [ha0] at HE HX
 clear ha0
 have HEQ := Aside0.mk HE
 have HNE := Aside0.mk hne
 have HTTS := Aside0.mk HTS
 have HK : Aside0 (Kept (fun b => b = g ∨ b = r) w w) := ⟨Kept.refl _ w⟩
 have HP := Aside0.mk HP
 have HX := Aside0.mk HX
 clear HE hne HTS
 replace HK := Aside0.mk (Kept.alloc HK.out (Obj.cells #[.pointer (some ⟨g, 0, none⟩)] 52))
 replace HP := Aside0.mk (HP.out.below (below_alloc (Below.refl (w).heap.size (w)) (Obj.cells #[.pointer (some ⟨g, 0, none⟩)] 52)))
 replace HX := Aside0.mk (Has.alloc HX.out (Obj.cells #[.pointer (some ⟨g, 0, none⟩)] 52))
 have HB0 : Aside0 (Has (w.alloc (Obj.cells #[.pointer (some ⟨g, 0, none⟩)] 52)) (w.heap.size) #[.pointer (some ⟨g, 0, none⟩)] 52) := ⟨by have h := Has.new (w) #[.pointer (some ⟨g, 0, none⟩)] 52; first | exact h | (simpa using h)⟩
 have hz1 : ((w.alloc (Obj.cells #[.pointer (some ⟨g, 0, none⟩)] 52))).heap.size = w.heap.size + 1 := by simp
 replace HK := Aside0.mk (Kept.alloc HK.out (Obj.cells #[.pointer (some ⟨r, 0, none⟩)] 115))
 replace HP := Aside0.mk (HP.out.below (below_alloc (Below.refl ((w.alloc (Obj.cells #[.pointer (some ⟨g, 0, none⟩)] 52))).heap.size ((w.alloc (Obj.cells #[.pointer (some ⟨g, 0, none⟩)] 52)))) (Obj.cells #[.pointer (some ⟨r, 0, none⟩)] 115)))
 replace HX := Aside0.mk (Has.alloc HX.out (Obj.cells #[.pointer (some ⟨r, 0, none⟩)] 115))
 replace HB0 := Aside0.mk (Has.alloc HB0.out (Obj.cells #[.pointer (some ⟨r, 0, none⟩)] 115))
 have HB1 : Aside0 (Has (((w.alloc (Obj.cells #[.pointer (some ⟨g, 0, none⟩)] 52))).alloc (Obj.cells #[.pointer (some ⟨r, 0, none⟩)] 115)) (w.heap.size + 1) #[.pointer (some ⟨r, 0, none⟩)] 115) := ⟨by have h := Has.new ((w.alloc (Obj.cells #[.pointer (some ⟨g, 0, none⟩)] 52))) #[.pointer (some ⟨r, 0, none⟩)] 115; first | exact h | (simpa using h)⟩
 replace HK := Aside0.mk (Kept.alloc HK.out (Obj.cells #[.int .i64 d] 3))
 replace HP := Aside0.mk (HP.out.below (below_alloc (Below.refl ((((w.alloc (Obj.cells #[.pointer (some ⟨g, 0, none⟩)] 52))).alloc (Obj.cells #[.pointer (some ⟨r, 0, none⟩)] 115))).heap.size ((((w.alloc (Obj.cells #[.pointer (some ⟨g, 0, none⟩)] 52))).alloc (Obj.cells #[.pointer (some ⟨r, 0, none⟩)] 115)))) (Obj.cells #[.int .i64 d] 3)))
 replace HX := Aside0.mk (Has.alloc HX.out (Obj.cells #[.int .i64 d] 3))
 replace HB0 := Aside0.mk (Has.alloc HB0.out (Obj.cells #[.int .i64 d] 3))
 replace HB1 := Aside0.mk (Has.alloc HB1.out (Obj.cells #[.int .i64 d] 3))
 have HB2 : Aside0 (Has (((((w.alloc (Obj.cells #[.pointer (some ⟨g, 0, none⟩)] 52))).alloc (Obj.cells #[.pointer (some ⟨r, 0, none⟩)] 115))).alloc (Obj.cells #[.int .i64 d] 3)) (w.heap.size + 2) #[.int .i64 d] 3) := ⟨by have h := Has.new ((((w.alloc (Obj.cells #[.pointer (some ⟨g, 0, none⟩)] 52))).alloc (Obj.cells #[.pointer (some ⟨r, 0, none⟩)] 115))) #[.int .i64 d] 3; first | exact h | (simpa using h)⟩
 obtain ⟨W1, hW1⟩ : ∃ W, ((((((w.alloc (Obj.cells #[.pointer (some ⟨g, 0, none⟩)] 52))).alloc (Obj.cells #[.pointer (some ⟨r, 0, none⟩)] 115))).alloc (Obj.cells #[.int .i64 d] 3))).drew = W := ⟨_, rfl⟩
 have hD := below_drew (Below.refl ((((((w.alloc (Obj.cells #[.pointer (some ⟨g, 0, none⟩)] 52))).alloc (Obj.cells #[.pointer (some ⟨r, 0, none⟩)] 115))).alloc (Obj.cells #[.int .i64 d] 3))).heap.size ((((((w.alloc (Obj.cells #[.pointer (some ⟨g, 0, none⟩)] 52))).alloc (Obj.cells #[.pointer (some ⟨r, 0, none⟩)] 115))).alloc (Obj.cells #[.int .i64 d] 3))))
 replace HK := Aside0.mk (Kept.below HK.out hD)
 replace HP := Aside0.mk (HP.out.below hD)
 replace HX := Aside0.mk (HX.out.belowS hD)
 replace HB0 := Aside0.mk (HB0.out.belowS hD)
 replace HB1 := Aside0.mk (HB1.out.belowS hD)
 replace HB2 := Aside0.mk (HB2.out.belowS hD)
 clear hD
 rw [hW1] at HK HP HX HB0 HB1 HB2
 have hz2 := HB2.out.lt
 go_enter Tryd.func86, Tryd.ntmps86
 go_wp2
 refine region_treeR 7 (by kernel_rfl) (by kernel_rfl) (fun w' => Has w' w.heap.size #[.pointer (some ⟨g, 0, none⟩)] 52 ∧ Has w' (w.heap.size + 1) #[.pointer (some ⟨r, 0, none⟩)] 115 ∧ Has w' (w.heap.size + 2) #[.int .i64 d] 3) (hW1 ▸ ⟨HB0.out, HB1.out, HB2.out⟩) fun hS => ?_
 rw [hW1] at hS ⊢
 clear hW1
 simp only [List.take_succ_cons, List.take_zero]
 generalize hQQ : tailK _ _ = QQ
 have hsure : Sure QQ := by
  rw [← hQQ]
  intro c a a' w1 hd h
  simp +zetaDelta only [tailK, Exit.then, Exit.inBlock, bodyPost] at h ⊢
  simpa [hd] using h
 refine treeQ_h hsure hS (i := 0) (by kernel_rfl) (by rfl) (by rfl) (by kernel_rfl) (by rfl) ?_
 apply Exists.intro
 apply And.intro
 ·rintro w' ⟨k1, k2, k3⟩
  have cc0 := k1.cell 0
  have cc1 := k2.cell 0
  have cc2 := k3.cell 0
  simp only [List.getElem?_toArray, List.getElem?_cons_zero, List.getElem?_cons_succ] at cc0 cc1 cc2
  apply VR.mk
  go_simp
  with_reducible rfl
 simp only [List.setIfInBounds_toArray, List.set_cons_zero, List.set_cons_succ]
 refine treeQ_h hsure hS (i := 1) (by kernel_rfl) (by rfl) (by rfl) (by kernel_rfl) (by rfl) ?_
 apply Exists.intro
 apply And.intro
 ·rintro w' ⟨k1, k2, k3⟩
  have cc0 := k1.cell 0
  have cc1 := k2.cell 0
  have cc2 := k3.cell 0
  simp only [List.getElem?_toArray, List.getElem?_cons_zero, List.getElem?_cons_succ] at cc0 cc1 cc2
  apply VR.mk
  go_simp
  with_reducible rfl
 simp only [List.setIfInBounds_toArray, List.set_cons_zero, List.set_cons_succ]
 refine treeQ_h hsure hS (i := 2) (by kernel_rfl) (by rfl) (by rfl) (by kernel_rfl) (by rfl) ?_
 apply Exists.intro
 apply And.intro
 ·rintro w' ⟨k1, k2, k3⟩
  have cc0 := k1.cell 0
  have cc1 := k2.cell 0
  have cc2 := k3.cell 0
  simp only [List.getElem?_toArray, List.getElem?_cons_zero, List.getElem?_cons_succ] at cc0 cc1 cc2
  apply VR.mk
  go_simp
  with_reducible rfl
 simp only [List.setIfInBounds_toArray, List.set_cons_zero, List.set_cons_succ]
 refine tree_1Q (i := 3) (by kernel_rfl) ?_
 refine step_callQ (by rfl) (by rfl) (by rfl) (ER.go (by go_simp; with_reducible exact ⟨rfl, rfl⟩)) ?_
 refine (name_said g l e W1 HP.out).mono ?_
 intro en w1 hq
 rcases hq.ways with ⟨v, s, l1, hr, rfl, hk, rfl, hp⟩ | ⟨b, er, hr, rfl, hk⟩
 ·rw [hr] at HEQ
  simp only [PR.andThen] at HEQ
  replace HK := Aside0.mk (Kept.then_ HK.out (Kept.mono hk fun kk h => .inl h))
  replace HX := Aside0.mk (Kept.has hk HX.out (by omega))
  replace HB0 := Aside0.mk (Kept.has hk HB0.out (by omega))
  replace HB1 := Aside0.mk (Kept.has hk HB1.out (by omega))
  replace HB2 := Aside0.mk (Kept.has hk HB2.out (by omega))
  replace HP := Aside0.mk hp
  have hs0 := Kept.size hk
  try simp at hs0
  refine .inl ⟨.string s, rfl, ⟨HB0.out, HB1.out, HB2.out⟩, ?_⟩
  simp only [List.setIfInBounds_toArray, List.set_cons_zero, List.set_cons_succ]
  clear hr hk
  refine treeQ_h hsure ⟨HB0.out, HB1.out, HB2.out⟩ (i := 4) (by kernel_rfl) (by rfl) (by rfl) (by kernel_rfl) (by rfl) ?_
  apply Exists.intro
  apply And.intro
  ·rintro w' ⟨k1, k2, k3⟩
   apply VR.mk
   go_simp
   with_reducible rfl
  simp only [List.setIfInBounds_toArray, List.set_cons_zero, List.set_cons_succ]
  refine treeQ_h hsure ⟨HB0.out, HB1.out, HB2.out⟩ (i := 5) (by kernel_rfl) (by rfl) (by rfl) (by kernel_rfl) (by rfl) ?_
  apply Exists.intro
  apply And.intro
  ·rintro w' ⟨k1, k2, k3⟩
   apply VR.mk
   go_simp
   with_reducible rfl
  simp only [List.setIfInBounds_toArray, List.set_cons_zero, List.set_cons_succ]
  refine tree_1Q (i := 6) (by kernel_rfl) ?_
  refine step_list (by rfl) ?_
  have c1 := Has.cell HX.out 0
  simp only [List.getElem?_toArray, List.getElem?_cons_zero, List.getElem?_cons_succ] at c1
  have f1 := Has.frozen HX.out 0
  go_wp2
  clear c1 f1
  replace HK := Aside0.mk (Kept.setCellX HK.out (a := ⟨r, 0, none⟩) (.inl (.inr rfl)) (.int .i64 4))
  replace HP := Aside0.mk (PS.setT HP.out HX.out (by decide) (by decide) 0 (.int .i64 4))
  replace HB0 := Aside0.mk (Has.other HB0.out (a := ⟨r, 0, none⟩) (by show w.heap.size ≠ r; omega) (.int .i64 4))
  replace HB1 := Aside0.mk (Has.other HB1.out (a := ⟨r, 0, none⟩) (by show w.heap.size + 1 ≠ r; omega) (.int .i64 4))
  replace HB2 := Aside0.mk (Has.other HB2.out (a := ⟨r, 0, none⟩) (by show w.heap.size + 2 ≠ r; omega) (.int .i64 4))
  replace HX : Aside0 (Has (w1.setCell ⟨r, 0, none⟩ (.int .i64 4)) (r) #[.int .i64 4, .int .i64 a0, .int .i64 0, .string ⟨#[]⟩, .slice none 0 0, .slice none 0 0, .int .i64 0, .string ⟨#[]⟩, .int .i64 0, .slice none 0 0] 27) := ⟨by have h := Has.set_ HX.out 0 (.int .i64 4); exact h⟩
  refine ⟨⟨HB0.out, HB1.out, HB2.out⟩, ?_⟩
  rw [← hQQ]
  refine tree_doneR (by kernel_rfl) ?_
  refine restQ_tree (fun _ => True) ?_
  clear hsure hS hQQ
  refine treeQ_h (by
   intro c a a' w1 hd h
   simp +zetaDelta only [Exit.then, Exit.inBlock, bodyPost] at h ⊢
   simpa [hd] using h) trivial (i := 7) (by kernel_rfl) (by rfl) (by rfl) (by kernel_rfl) (by rfl) ?_
  apply Exists.intro
  apply And.intro
  ·rintro w' -
   apply VR.mk
   go_simp
   with_reducible rfl
  simp only [List.setIfInBounds_toArray, List.set_cons_zero, List.set_cons_succ]
  refine treeQ_h (by
   intro c a a' w1 hd h
   simp +zetaDelta only [Exit.then, Exit.inBlock, bodyPost] at h ⊢
   simpa [hd] using h) trivial (i := 8) (by kernel_rfl) (by rfl) (by rfl) (by kernel_rfl) (by rfl) ?_
  apply Exists.intro
  apply And.intro
  ·rintro w' -
   apply VR.mk
   go_simp
   with_reducible rfl
  simp only [List.setIfInBounds_toArray, List.set_cons_zero, List.set_cons_succ]
  have c2 := Has.cell HX.out 3
  simp only [List.getElem?_toArray, List.getElem?_cons_zero, List.getElem?_cons_succ] at c2
  have f2 := Has.frozen HX.out 3
  refine tree_1Q (i := 9) (by kernel_rfl) ?_
  refine step_list (by rfl) ?_
  go_wp2
  refine ⟨trivial, tree_endQ (by kernel_rfl) ?_⟩
  clear c2 f2
  replace HK := Aside0.mk (Kept.setCellX HK.out (a := ⟨r, 3, none⟩) (.inl (.inr rfl)) (.string s))
  replace HP := Aside0.mk (PS.setT HP.out HX.out (by decide) (by decide) 3 (.string s))
  replace HB0 := Aside0.mk (Has.other HB0.out (a := ⟨r, 3, none⟩) (by show w.heap.size ≠ r; omega) (.string s))
  replace HB1 := Aside0.mk (Has.other HB1.out (a := ⟨r, 3, none⟩) (by show w.heap.size + 1 ≠ r; omega) (.string s))
  replace HB2 := Aside0.mk (Has.other HB2.out (a := ⟨r, 3, none⟩) (by show w.heap.size + 2 ≠ r; omega) (.string s))
  replace HX : Aside0 (Has (((w1.setCell ⟨r, 0, none⟩ (.int .i64 4))).setCell ⟨r, 3, none⟩ (.string s)) (r) #[.int .i64 4, .int .i64 a0, .int .i64 0, .string s, .slice none 0 0, .slice none 0 0, .int .i64 0, .string ⟨#[]⟩, .int .i64 0, .slice none 0 0] 27) := ⟨by have h := Has.set_ HX.out 3 (.string s); exact h⟩
  cases hi : isP sLpar l1 with
  | true =>
   replace HEQ := Aside0.mk (HEQ.out.trans (if_pos hi))
   have HI := Aside0.mk hi
   clear hi
   have c3 := Has.cell HB0.out 0
   simp only [List.getElem?_toArray, List.getElem?_cons_zero, List.getElem?_cons_succ] at c3
   have f3 := Has.frozen HB0.out 0
   go_wp2_with ((
         go_at_call 41
         (with_reducible refine Calls.mono (take_yes sLpar HP.out HI.out) ?_)
         rintro en w4 ⟨he4, hk4, hp4⟩
         clear c3 f3
         subst he4
         replace HK := Aside0.mk (Kept.then_ HK.out (Kept.mono hk4 fun kk h => .inl h))
         replace HX := Aside0.mk (Kept.has hk4 HX.out (by omega))
         replace HB0 := Aside0.mk (Kept.has hk4 HB0.out (by omega))
         replace HB1 := Aside0.mk (Kept.has hk4 HB1.out (by omega))
         replace HB2 := Aside0.mk (Kept.has hk4 HB2.out (by omega))
         replace HP := Aside0.mk hp4
         have hs4 := Kept.size hk4
         try simp at hs4))
   clear HI
   have hD := below_drew (Below.refl (w4).heap.size (w4))
   replace HK := Aside0.mk (Kept.below HK.out hD)
   replace HP := Aside0.mk (HP.out.below hD)
   replace HX := Aside0.mk (HX.out.belowS hD)
   replace HB0 := Aside0.mk (HB0.out.belowS hD)
   replace HB1 := Aside0.mk (HB1.out.belowS hD)
   replace HB2 := Aside0.mk (HB2.out.belowS hD)
   clear hD
   obtain ⟨W3, hW1⟩ : ∃ W, (w4).drew = W := ⟨_, rfl⟩
   rw [hW1] at HK HP HX HB0 HB1 HB2
   have hzW3 := HB2.out.lt
   refine region_treeR 8 (by kernel_rfl) (by kernel_rfl) (fun w' => Has w' w.heap.size #[.pointer (some ⟨g, 0, none⟩)] 52 ∧ Has w' (w.heap.size + 1) #[.pointer (some ⟨r, 0, none⟩)] 115 ∧ Has w' (w.heap.size + 2) #[.int .i64 d] 3) (hW1 ▸ ⟨HB0.out, HB1.out, HB2.out⟩) fun hS => ?_
   rw [hW1] at hS ⊢
   clear hW1
   simp only [List.take_succ_cons, List.take_zero]
   generalize hQQ : tailK _ _ = QQ
   have hsure : Sure QQ := by
    rw [← hQQ]
    intro c a a' w1 hd h
    simp +zetaDelta only [tailK, Exit.then, Exit.inBlock, bodyPost] at h ⊢
    simpa [hd] using h
   refine treeQ_h hsure hS (i := 0) (by kernel_rfl) (by rfl) (by rfl) (by kernel_rfl) (by rfl) ?_
   apply Exists.intro
   apply And.intro
   ·rintro w' ⟨k1, k2, k3⟩
    have cc0 := k1.cell 0
    have cc1 := k2.cell 0
    have cc2 := k3.cell 0
    simp only [List.getElem?_toArray, List.getElem?_cons_zero, List.getElem?_cons_succ] at cc0 cc1 cc2
    apply VR.mk
    go_simp
    with_reducible rfl
   simp only [List.setIfInBounds_toArray, List.set_cons_zero, List.set_cons_succ]
   refine treeQ_h hsure hS (i := 1) (by kernel_rfl) (by rfl) (by rfl) (by kernel_rfl) (by rfl) ?_
   apply Exists.intro
   apply And.intro
   ·rintro w' ⟨k1, k2, k3⟩
    have cc0 := k1.cell 0
    have cc1 := k2.cell 0
    have cc2 := k3.cell 0
    simp only [List.getElem?_toArray, List.getElem?_cons_zero, List.getElem?_cons_succ] at cc0 cc1 cc2
    apply VR.mk
    go_simp
    with_reducible rfl
   simp only [List.setIfInBounds_toArray, List.set_cons_zero, List.set_cons_succ]
   refine treeQ_h hsure hS (i := 2) (by kernel_rfl) (by rfl) (by rfl) (by kernel_rfl) (by rfl) ?_
   apply Exists.intro
   apply And.intro
   ·rintro w' ⟨k1, k2, k3⟩
    have cc0 := k1.cell 0
    have cc1 := k2.cell 0
    have cc2 := k3.cell 0
    simp only [List.getElem?_toArray, List.getElem?_cons_zero, List.getElem?_cons_succ] at cc0 cc1 cc2
    apply VR.mk
    go_simp
    with_reducible rfl
   simp only [List.setIfInBounds_toArray, List.set_cons_zero, List.set_cons_succ]
   refine treeQ_h hsure hS (i := 3) (by kernel_rfl) (by rfl) (by rfl) (by kernel_rfl) (by rfl) ?_
   apply Exists.intro
   apply And.intro
   ·rintro w' ⟨k1, k2, k3⟩
    have cc0 := k1.cell 0
    have cc1 := k2.cell 0
    have cc2 := k3.cell 0
    simp only [List.getElem?_toArray, List.getElem?_cons_zero, List.getElem?_cons_succ] at cc0 cc1 cc2
    apply VR.mk
    go_simp
    with_reducible rfl
   simp only [List.setIfInBounds_toArray, List.set_cons_zero, List.set_cons_succ]
   refine tree_1Q (i := 4) (by kernel_rfl) ?_
   refine step_callQ (by rfl) (by rfl) (by rfl) (ER.go (by go_simp; with_reducible exact ⟨rfl, rfl⟩)) ?_
   have hne2 : treesP e n d sRpar l1.tail ≠ .out := fun h => HNE.out (by rw [HEQ.out, h] <;> rfl)
   refine (HTTS.out g e d sRpar l1.tail W3 h0 (by omega) HP.out hne2).mono ?_
   intro en w5 hq
   rcases hq.ways with ⟨v, ks, l2, hr, rfl, hk, hv, hp⟩ | ⟨b, er, hr, rfl, hk⟩
   ·rw [hr] at HEQ
    simp only [PR.andThen] at HEQ
    replace HK := Aside0.mk (Kept.then_ HK.out (Kept.mono hk fun kk h => .inl h))
    replace HX := Aside0.mk (Kept.has hk HX.out (by omega))
    replace HB0 := Aside0.mk (Kept.has hk HB0.out (by omega))
    replace HB1 := Aside0.mk (Kept.has hk HB1.out (by omega))
    replace HB2 := Aside0.mk (Kept.has hk HB2.out (by omega))
    replace HP := Aside0.mk hp
    have hs5 := Kept.size hk
    try simp at hs5
    have HKS := Aside0.mk hv
    clear hv hr hk
    obtain ⟨A2, c2, rfl⟩ := Kd.R_slice HKS.out
    refine .inl ⟨.slice A2 ks.length c2, rfl, ⟨HB0.out, HB1.out, HB2.out⟩, ?_⟩
    simp only [List.setIfInBounds_toArray, List.set_cons_zero, List.set_cons_succ]
    refine treeQ_h hsure ⟨HB0.out, HB1.out, HB2.out⟩ (i := 5) (by kernel_rfl) (by rfl) (by rfl) (by kernel_rfl) (by rfl) ?_
    apply Exists.intro
    apply And.intro
    ·rintro w' ⟨k1, k2, k3⟩
     apply VR.mk
     go_simp
     with_reducible rfl
    simp only [List.setIfInBounds_toArray, List.set_cons_zero, List.set_cons_succ]
    refine treeQ_h hsure ⟨HB0.out, HB1.out, HB2.out⟩ (i := 6) (by kernel_rfl) (by rfl) (by rfl) (by kernel_rfl) (by rfl) ?_
    apply Exists.intro
    apply And.intro
    ·rintro w' ⟨k1, k2, k3⟩
     apply VR.mk
     go_simp
     with_reducible rfl
    simp only [List.setIfInBounds_toArray, List.set_cons_zero, List.set_cons_succ]
    refine tree_1Q (i := 7) (by kernel_rfl) ?_
    refine step_list (by rfl) ?_
    have c6 := Has.cell HX.out 0
    simp only [List.getElem?_toArray, List.getElem?_cons_zero, List.getElem?_cons_succ] at c6
    have f6 := Has.frozen HX.out 0
    go_wp2
    clear c6 f6
    replace HK := Aside0.mk (Kept.setCellX HK.out (a := ⟨r, 0, none⟩) (.inl (.inr rfl)) (.int .i64 11))
    replace HP := Aside0.mk (PS.setT HP.out HX.out (by decide) (by decide) 0 (.int .i64 11))
    replace HB0 := Aside0.mk (Has.other HB0.out (a := ⟨r, 0, none⟩) (by show w.heap.size ≠ r; omega) (.int .i64 11))
    replace HB1 := Aside0.mk (Has.other HB1.out (a := ⟨r, 0, none⟩) (by show w.heap.size + 1 ≠ r; omega) (.int .i64 11))
    replace HB2 := Aside0.mk (Has.other HB2.out (a := ⟨r, 0, none⟩) (by show w.heap.size + 2 ≠ r; omega) (.int .i64 11))
    replace HKS := Aside0.mk (R_far HKS.out (fun kk h1 _ => Below.heap_setCell _ ⟨r, 0, none⟩ (.int .i64 11) kk (by show kk ≠ r; omega)))
    replace HX : Aside0 (Has (w5.setCell ⟨r, 0, none⟩ (.int .i64 11)) (r) #[.int .i64 11, .int .i64 a0, .int .i64 0, .string s, .slice none 0 0, .slice none 0 0, .int .i64 0, .string ⟨#[]⟩, .int .i64 0, .slice none 0 0] 27) := ⟨by have h := Has.set_ HX.out 0 (.int .i64 11); exact h⟩
    refine ⟨⟨HB0.out, HB1.out, HB2.out⟩, ?_⟩
    rw [← hQQ]
    refine tree_doneR (by kernel_rfl) ?_
    refine restQ_tree (fun _ => True) ?_
    clear hsure hS hQQ
    refine treeQ_h (by
     intro c a a' w1 hd h
     simp +zetaDelta only [Exit.then, Exit.inBlock, bodyPost] at h ⊢
     simpa [hd] using h) trivial (i := 8) (by kernel_rfl) (by rfl) (by rfl) (by kernel_rfl) (by rfl) ?_
    apply Exists.intro
    apply And.intro
    ·rintro w' -
     apply VR.mk
     go_simp
     with_reducible rfl
    simp only [List.setIfInBounds_toArray, List.set_cons_zero, List.set_cons_succ]
    refine treeQ_h (by
     intro c a a' w1 hd h
     simp +zetaDelta only [Exit.then, Exit.inBlock, bodyPost] at h ⊢
     simpa [hd] using h) trivial (i := 9) (by kernel_rfl) (by rfl) (by rfl) (by kernel_rfl) (by rfl) ?_
    apply Exists.intro
    apply And.intro
    ·rintro w' -
     apply VR.mk
     go_simp
     with_reducible rfl
    simp only [List.setIfInBounds_toArray, List.set_cons_zero, List.set_cons_succ]
    have c7 := Has.cell HX.out 4
    simp only [List.getElem?_toArray, List.getElem?_cons_zero, List.getElem?_cons_succ] at c7
    have f7 := Has.frozen HX.out 4
    refine tree_1Q (i := 10) (by kernel_rfl) ?_
    refine step_list (by rfl) ?_
    go_wp2
    refine ⟨trivial, tree_endQ (by kernel_rfl) ?_⟩
    clear c7 f7
    replace HK := Aside0.mk (Kept.setCellX HK.out (a := ⟨r, 4, none⟩) (.inl (.inr rfl)) (.slice A2 ks.length c2))
    replace HP := Aside0.mk (PS.setT HP.out HX.out (by decide) (by decide) 4 (.slice A2 ks.length c2))
    replace HB0 := Aside0.mk (Has.other HB0.out (a := ⟨r, 4, none⟩) (by show w.heap.size ≠ r; omega) (.slice A2 ks.length c2))
    replace HB1 := Aside0.mk (Has.other HB1.out (a := ⟨r, 4, none⟩) (by show w.heap.size + 1 ≠ r; omega) (.slice A2 ks.length c2))
    replace HB2 := Aside0.mk (Has.other HB2.out (a := ⟨r, 4, none⟩) (by show w.heap.size + 2 ≠ r; omega) (.slice A2 ks.length c2))
    replace HKS := Aside0.mk (R_far HKS.out (fun kk h1 _ => Below.heap_setCell _ ⟨r, 4, none⟩ (.slice A2 ks.length c2) kk (by show kk ≠ r; omega)))
    replace HX : Aside0 (Has (((w5.setCell ⟨r, 0, none⟩ (.int .i64 11))).setCell ⟨r, 4, none⟩ (.slice A2 ks.length c2)) (r) #[.int .i64 11, .int .i64 a0, .int .i64 0, .string s, .slice A2 ks.length c2, .slice none 0 0, .int .i64 0, .string ⟨#[]⟩, .int .i64 0, .slice none 0 0] 27) := ⟨by have h := Has.set_ HX.out 4 (.slice A2 ks.length c2); exact h⟩
    refine bodyPost_end (results_none rfl _ _ _) rfl ?_
    rw [HEQ.out]
    exact ⟨HK.out, rfl, ⟨_, HX.out, VO.node 11 a0 0 s (Kd.R_lower HKS.out (by omega))⟩, HP.out⟩
   ·refine .inr ⟨_, rfl, ?_⟩
    replace HEQ : Aside0 (R = .bad b er) := ⟨by rw [HEQ.out, hr] <;> rfl⟩
    rw [← hQQ, HEQ.out]
    exact ⟨rfl, Kept.then_ HK.out (Kept.mono hk fun kk h => .inl h), rfl⟩
  | false =>
   replace HEQ := Aside0.mk (HEQ.out.trans (if_neg (by rw [hi]; decide)))
   have HI := Aside0.mk hi
   clear hi
   cases hj : isP sColons l1 with
   | true =>
    replace HEQ := Aside0.mk (HEQ.out.trans (if_pos hj))
    have HJ := Aside0.mk hj
    clear hj
    have c3 := Has.cell HB0.out 0
    simp only [List.getElem?_toArray, List.getElem?_cons_zero, List.getElem?_cons_succ] at c3
    have f3 := Has.frozen HB0.out 0
    go_wp2_with (first
      | (
       go_at_call 41
       (with_reducible refine Calls.mono (take_no sLpar HP.out HI.out) ?_)
       rintro en w4 ⟨he4, hk4, hp4⟩
       clear c3 f3
       subst he4
       replace HK := Aside0.mk (Kept.then_ HK.out (Kept.mono hk4 fun kk h => .inl h))
       replace HX := Aside0.mk (Kept.has hk4 HX.out (by omega))
       replace HB0 := Aside0.mk (Kept.has hk4 HB0.out (by omega))
       replace HB1 := Aside0.mk (Kept.has hk4 HB1.out (by omega))
       replace HB2 := Aside0.mk (Kept.has hk4 HB2.out (by omega))
       replace HP := Aside0.mk hp4
       have hs4 := Kept.size hk4
       try simp at hs4
       have c5 := Has.cell HB0.out 0
       simp only [List.getElem?_toArray, List.getElem?_cons_zero, List.getElem?_cons_succ] at c5
       have f5 := Has.frozen HB0.out 0)
      | (
       go_at_call 41
       (with_reducible refine Calls.mono (take_yes sColons HP.out HJ.out) ?_)
       rintro en w6 ⟨he6, hk6, hp6⟩
       clear c5 f5
       subst he6
       replace HK := Aside0.mk (Kept.then_ HK.out (Kept.mono hk6 fun kk h => .inl h))
       replace HX := Aside0.mk (Kept.has hk6 HX.out (by omega))
       replace HB0 := Aside0.mk (Kept.has hk6 HB0.out (by omega))
       replace HB1 := Aside0.mk (Kept.has hk6 HB1.out (by omega))
       replace HB2 := Aside0.mk (Kept.has hk6 HB2.out (by omega))
       replace HP := Aside0.mk hp6
       have hs6 := Kept.size hk6
       try simp at hs6
       have c7 := Has.cell HB1.out 0
       simp only [List.getElem?_toArray, List.getElem?_cons_zero, List.getElem?_cons_succ] at c7
       have f7 := Has.frozen HB1.out 0
       have c8 := Has.cell HX.out 0
       simp only [List.getElem?_toArray, List.getElem?_cons_zero, List.getElem?_cons_succ] at c8
       have f8 := Has.frozen HX.out 0))
    clear c7 f7 c8 f8
    replace HK := Aside0.mk (Kept.setCellX HK.out (a := ⟨r, 0, none⟩) (.inl (.inr rfl)) (.int .i64 16))
    replace HP := Aside0.mk (PS.setT HP.out HX.out (by decide) (by decide) 0 (.int .i64 16))
    replace HB0 := Aside0.mk (Has.other HB0.out (a := ⟨r, 0, none⟩) (by show w.heap.size ≠ r; omega) (.int .i64 16))
    replace HB1 := Aside0.mk (Has.other HB1.out (a := ⟨r, 0, none⟩) (by show w.heap.size + 1 ≠ r; omega) (.int .i64 16))
    replace HB2 := Aside0.mk (Has.other HB2.out (a := ⟨r, 0, none⟩) (by show w.heap.size + 2 ≠ r; omega) (.int .i64 16))
    replace HX : Aside0 (Has (w6.setCell ⟨r, 0, none⟩ (.int .i64 16)) (r) #[.int .i64 16, .int .i64 a0, .int .i64 0, .string s, .slice none 0 0, .slice none 0 0, .int .i64 0, .string ⟨#[]⟩, .int .i64 0, .slice none 0 0] 27) := ⟨by have h := Has.set_ HX.out 0 (.int .i64 16); exact h⟩
    have hD := below_drew (Below.refl ((w6.setCell ⟨r, 0, none⟩ (.int .i64 16))).heap.size ((w6.setCell ⟨r, 0, none⟩ (.int .i64 16))))
    replace HK := Aside0.mk (Kept.below HK.out hD)
    replace HP := Aside0.mk (HP.out.below hD)
    replace HX := Aside0.mk (HX.out.belowS hD)
    replace HB0 := Aside0.mk (HB0.out.belowS hD)
    replace HB1 := Aside0.mk (HB1.out.belowS hD)
    replace HB2 := Aside0.mk (HB2.out.belowS hD)
    clear hD
    obtain ⟨W4, hW1⟩ : ∃ W, ((w6.setCell ⟨r, 0, none⟩ (.int .i64 16))).drew = W := ⟨_, rfl⟩
    rw [hW1] at HK HP HX HB0 HB1 HB2
    have hzW4 := HB2.out.lt
    refine region_treeR 8 (by kernel_rfl) (by kernel_rfl) (fun w' => Has w' w.heap.size #[.pointer (some ⟨g, 0, none⟩)] 52 ∧ Has w' (w.heap.size + 1) #[.pointer (some ⟨r, 0, none⟩)] 115 ∧ Has w' (w.heap.size + 2) #[.int .i64 d] 3 ∧ Has w' r #[.int .i64 16, .int .i64 a0, .int .i64 0, .string s, .slice none 0 0, .slice none 0 0, .int .i64 0, .string ⟨#[]⟩, .int .i64 0, .slice none 0 0] 27) (hW1 ▸ ⟨HB0.out, HB1.out, HB2.out, HX.out⟩) fun hS => ?_
    rw [hW1] at hS ⊢
    clear hW1
    simp only [List.take_succ_cons, List.take_zero]
    generalize hQQ : tailK _ _ = QQ
    have hsure : Sure QQ := by
     rw [← hQQ]
     intro c a a' w1 hd h
     simp +zetaDelta only [tailK, Exit.then, Exit.inBlock, bodyPost] at h ⊢
     simpa [hd] using h
    refine treeQ_h hsure hS (i := 0) (by kernel_rfl) (by rfl) (by rfl) (by kernel_rfl) (by rfl) ?_
    apply Exists.intro
    apply And.intro
    ·rintro w' ⟨k1, k2, k3, k4⟩
     have cc0 := k1.cell 0
     have cc1 := k2.cell 0
     have cc2 := k3.cell 0
     have cc3 := k4.cell 3
     simp only [List.getElem?_toArray, List.getElem?_cons_zero, List.getElem?_cons_succ] at cc0 cc1 cc2 cc3
     apply VR.mk
     go_simp
     with_reducible rfl
    simp only [List.setIfInBounds_toArray, List.set_cons_zero, List.set_cons_succ]
    refine treeQ_h hsure hS (i := 1) (by kernel_rfl) (by rfl) (by rfl) (by kernel_rfl) (by rfl) ?_
    apply Exists.intro
    apply And.intro
    ·rintro w' ⟨k1, k2, k3, k4⟩
     have cc0 := k1.cell 0
     have cc1 := k2.cell 0
     have cc2 := k3.cell 0
     have cc3 := k4.cell 3
     simp only [List.getElem?_toArray, List.getElem?_cons_zero, List.getElem?_cons_succ] at cc0 cc1 cc2 cc3
     apply VR.mk
     go_simp
     with_reducible rfl
    simp only [List.setIfInBounds_toArray, List.set_cons_zero, List.set_cons_succ]
    refine treeQ_h hsure hS (i := 2) (by kernel_rfl) (by rfl) (by rfl) (by kernel_rfl) (by rfl) ?_
    apply Exists.intro
    apply And.intro
    ·rintro w' ⟨k1, k2, k3, k4⟩
     have cc0 := k1.cell 0
     have cc1 := k2.cell 0
     have cc2 := k3.cell 0
     have cc3 := k4.cell 3
     simp only [List.getElem?_toArray, List.getElem?_cons_zero, List.getElem?_cons_succ] at cc0 cc1 cc2 cc3
     apply VR.mk
     go_simp
     with_reducible rfl
    simp only [List.setIfInBounds_toArray, List.set_cons_zero, List.set_cons_succ]
    refine treeQ_h hsure hS (i := 3) (by kernel_rfl) (by rfl) (by rfl) (by kernel_rfl) (by rfl) ?_
    apply Exists.intro
    apply And.intro
    ·rintro w' ⟨k1, k2, k3, k4⟩
     have cc0 := k1.cell 0
     have cc1 := k2.cell 0
     have cc2 := k3.cell 0
     have cc3 := k4.cell 3
     simp only [List.getElem?_toArray, List.getElem?_cons_zero, List.getElem?_cons_succ] at cc0 cc1 cc2 cc3
     apply VR.mk
     go_simp
     with_reducible rfl
    simp only [List.setIfInBounds_toArray, List.set_cons_zero, List.set_cons_succ]
    refine treeQ_h hsure hS (i := 4) (by kernel_rfl) (by rfl) (by rfl) (by kernel_rfl) (by rfl) ?_
    apply Exists.intro
    apply And.intro
    ·rintro w' ⟨k1, k2, k3, k4⟩
     have cc0 := k1.cell 0
     have cc1 := k2.cell 0
     have cc2 := k3.cell 0
     have cc3 := k4.cell 3
     simp only [List.getElem?_toArray, List.getElem?_cons_zero, List.getElem?_cons_succ] at cc0 cc1 cc2 cc3
     apply VR.mk
     go_simp
     with_reducible rfl
    simp only [List.setIfInBounds_toArray, List.set_cons_zero, List.set_cons_succ]
    refine tree_1Q (i := 5) (by kernel_rfl) ?_
    refine step_callQ (by rfl) (by rfl) (by rfl) (ER.go (by go_simp; with_reducible exact ⟨rfl, rfl⟩)) ?_
    refine (name_said g l1.tail e W4 HP.out).mono ?_
    intro en w9 hq
    rcases hq.ways with ⟨v, s2, l2, hr, rfl, hk, rfl, hp⟩ | ⟨b, er, hr, rfl, hk⟩
    ·rw [hr] at HEQ
     simp only [PR.andThen] at HEQ
     have hsz : ¬ s.size + s2.size ≥ 4611686018427387904 := fun h => HNE.out (HEQ.out.trans (if_pos h))
     replace HEQ := Aside0.mk (HEQ.out.trans (if_neg hsz))
     replace HK := Aside0.mk (Kept.then_ HK.out (Kept.mono hk fun kk h => .inl h))
     replace HX := Aside0.mk (Kept.has hk HX.out (by omega))
     replace HB0 := Aside0.mk (Kept.has hk HB0.out (by omega))
     replace HB1 := Aside0.mk (Kept.has hk HB1.out (by omega))
     replace HB2 := Aside0.mk (Kept.has hk HB2.out (by omega))
     replace HP := Aside0.mk hp
     have hs9 := Kept.size hk
     try simp at hs9
     refine .inl ⟨.string s2, rfl, ⟨HB0.out, HB1.out, HB2.out, HX.out⟩, ?_⟩
     simp only [List.setIfInBounds_toArray, List.set_cons_zero, List.set_cons_succ]
     clear hr hk
     refine treeQ_h hsure ⟨HB0.out, HB1.out, HB2.out, HX.out⟩ (i := 6) (by kernel_rfl) (by rfl) (by rfl) (by kernel_rfl) (by rfl) ?_
     apply Exists.intro
     apply And.intro
     ·rintro w' ⟨k1, k2, k3, k4⟩
      apply VR.mk
      go_simp
      rw [if_neg (by first | omega | (simp; omega))]
     simp only [List.setIfInBounds_toArray, List.set_cons_zero, List.set_cons_succ]
     refine treeQ_h hsure ⟨HB0.out, HB1.out, HB2.out, HX.out⟩ (i := 7) (by kernel_rfl) (by rfl) (by rfl) (by kernel_rfl) (by rfl) ?_
     apply Exists.intro
     apply And.intro
     ·rintro w' ⟨k1, k2, k3, k4⟩
      apply VR.mk
      go_simp
      rw [if_neg (by first | omega | (simp; omega))]
     simp only [List.setIfInBounds_toArray, List.set_cons_zero, List.set_cons_succ]
     rw [← hQQ]
     refine tree_doneR (by kernel_rfl) ?_
     refine restQ_tree (fun _ => True) ?_
     clear hsure hS hQQ
     refine treeQ_h (by
      intro c a a' w1 hd h
      simp +zetaDelta only [Exit.then, Exit.inBlock, bodyPost] at h ⊢
      simpa [hd] using h) trivial (i := 8) (by kernel_rfl) (by rfl) (by rfl) (by kernel_rfl) (by rfl) ?_
     apply Exists.intro
     apply And.intro
     ·rintro w' -
      apply VR.mk
      go_simp
      with_reducible rfl
     simp only [List.setIfInBounds_toArray, List.set_cons_zero, List.set_cons_succ]
     refine treeQ_h (by
      intro c a a' w1 hd h
      simp +zetaDelta only [Exit.then, Exit.inBlock, bodyPost] at h ⊢
      simpa [hd] using h) trivial (i := 9) (by kernel_rfl) (by rfl) (by rfl) (by kernel_rfl) (by rfl) ?_
     apply Exists.intro
     apply And.intro
     ·rintro w' -
      apply VR.mk
      go_simp
      with_reducible rfl
     simp only [List.setIfInBounds_toArray, List.set_cons_zero, List.set_cons_succ]
     have c10 := Has.cell HX.out 3
     simp only [List.getElem?_toArray, List.getElem?_cons_zero, List.getElem?_cons_succ] at c10
     have f10 := Has.frozen HX.out 3
     refine tree_1Q (i := 10) (by kernel_rfl) ?_
     refine step_list (by rfl) ?_
     go_wp2
     refine ⟨trivial, tree_endQ (by kernel_rfl) ?_⟩
     clear c10 f10
     replace HK := Aside0.mk (Kept.setCellX HK.out (a := ⟨r, 3, none⟩) (.inl (.inr rfl)) (.string (s ++ (sColons ++ s2))))
     replace HP := Aside0.mk (PS.setT HP.out HX.out (by decide) (by decide) 3 (.string (s ++ (sColons ++ s2))))
     replace HB0 := Aside0.mk (Has.other HB0.out (a := ⟨r, 3, none⟩) (by show w.heap.size ≠ r; omega) (.string (s ++ (sColons ++ s2))))
     replace HB1 := Aside0.mk (Has.other HB1.out (a := ⟨r, 3, none⟩) (by show w.heap.size + 1 ≠ r; omega) (.string (s ++ (sColons ++ s2))))
     replace HB2 := Aside0.mk (Has.other HB2.out (a := ⟨r, 3, none⟩) (by show w.heap.size + 2 ≠ r; omega) (.string (s ++ (sColons ++ s2))))
     replace HX : Aside0 (Has (w9.setCell ⟨r, 3, none⟩ (.string (s ++ (sColons ++ s2)))) (r) #[.int .i64 16, .int .i64 a0, .int .i64 0, .string (s ++ (sColons ++ s2)), .slice none 0 0, .slice none 0 0, .int .i64 0, .string ⟨#[]⟩, .int .i64 0, .slice none 0 0] 27) := ⟨by have h := Has.set_ HX.out 3 (.string (s ++ (sColons ++ s2))); exact h⟩
     cases hk : isP sLpar l2 with
     | true =>
      replace HEQ := Aside0.mk (HEQ.out.trans (if_pos hk))
      have HKK := Aside0.mk hk
      clear hk
      have c11 := Has.cell HB0.out 0
      simp only [List.getElem?_toArray, List.getElem?_cons_zero, List.getElem?_cons_succ] at c11
      have f11 := Has.frozen HB0.out 0
      go_wp2_with ((
            go_at_call 41
            (with_reducible refine Calls.mono (take_yes sLpar HP.out HKK.out) ?_)
            rintro en w12 ⟨he12, hk12, hp12⟩
            clear c11 f11
            subst he12
            replace HK := Aside0.mk (Kept.then_ HK.out (Kept.mono hk12 fun kk h => .inl h))
            replace HX := Aside0.mk (Kept.has hk12 HX.out (by omega))
            replace HB0 := Aside0.mk (Kept.has hk12 HB0.out (by omega))
            replace HB1 := Aside0.mk (Kept.has hk12 HB1.out (by omega))
            replace HB2 := Aside0.mk (Kept.has hk12 HB2.out (by omega))
            replace HP := Aside0.mk hp12
            have hs12 := Kept.size hk12
            try simp at hs12))
      have hD := below_drew (Below.refl (w12).heap.size (w12))
      replace HK := Aside0.mk (Kept.below HK.out hD)
      replace HP := Aside0.mk (HP.out.below hD)
      replace HX := Aside0.mk (HX.out.belowS hD)
      replace HB0 := Aside0.mk (HB0.out.belowS hD)
      replace HB1 := Aside0.mk (HB1.out.belowS hD)
      replace HB2 := Aside0.mk (HB2.out.belowS hD)
      clear hD
      obtain ⟨W5, hW1⟩ : ∃ W, (w12).drew = W := ⟨_, rfl⟩
      rw [hW1] at HK HP HX HB0 HB1 HB2
      have hzW5 := HB2.out.lt
      refine region_treeR 4 (by kernel_rfl) (by kernel_rfl) (fun w' => Has w' w.heap.size #[.pointer (some ⟨g, 0, none⟩)] 52 ∧ Has w' (w.heap.size + 1) #[.pointer (some ⟨r, 0, none⟩)] 115 ∧ Has w' (w.heap.size + 2) #[.int .i64 d] 3) (hW1 ▸ ⟨HB0.out, HB1.out, HB2.out⟩) fun hS => ?_
      rw [hW1] at hS ⊢
      clear hW1
      simp only [List.take_succ_cons, List.take_zero]
      generalize hQQ : tailK _ _ = QQ
      have hsure : Sure QQ := by
       rw [← hQQ]
       intro c a a' w1 hd h
       simp +zetaDelta only [tailK, Exit.then, Exit.inBlock, bodyPost] at h ⊢
       simpa [hd] using h
      refine treeQ_h hsure hS (i := 0) (by kernel_rfl) (by rfl) (by rfl) (by kernel_rfl) (by rfl) ?_
      apply Exists.intro
      apply And.intro
      ·rintro w' ⟨k1, k2, k3⟩
       have cc0 := k1.cell 0
       have cc1 := k2.cell 0
       have cc2 := k3.cell 0
       simp only [List.getElem?_toArray, List.getElem?_cons_zero, List.getElem?_cons_succ] at cc0 cc1 cc2
       apply VR.mk
       go_simp
       with_reducible rfl
      simp only [List.setIfInBounds_toArray, List.set_cons_zero, List.set_cons_succ]
      refine treeQ_h hsure hS (i := 1) (by kernel_rfl) (by rfl) (by rfl) (by kernel_rfl) (by rfl) ?_
      apply Exists.intro
      apply And.intro
      ·rintro w' ⟨k1, k2, k3⟩
       have cc0 := k1.cell 0
       have cc1 := k2.cell 0
       have cc2 := k3.cell 0
       simp only [List.getElem?_toArray, List.getElem?_cons_zero, List.getElem?_cons_succ] at cc0 cc1 cc2
       apply VR.mk
       go_simp
       with_reducible rfl
      simp only [List.setIfInBounds_toArray, List.set_cons_zero, List.set_cons_succ]
      refine treeQ_h hsure hS (i := 2) (by kernel_rfl) (by rfl) (by rfl) (by kernel_rfl) (by rfl) ?_
      apply Exists.intro
      apply And.intro
      ·rintro w' ⟨k1, k2, k3⟩
       have cc0 := k1.cell 0
       have cc1 := k2.cell 0
       have cc2 := k3.cell 0
       simp only [List.getElem?_toArray, List.getElem?_cons_zero, List.getElem?_cons_succ] at cc0 cc1 cc2
       apply VR.mk
       go_simp
       with_reducible rfl
      simp only [List.setIfInBounds_toArray, List.set_cons_zero, List.set_cons_succ]
      refine tree_1Q (i := 3) (by kernel_rfl) ?_
      refine step_callQ (by rfl) (by rfl) (by rfl) (ER.go (by go_simp; with_reducible exact ⟨rfl, rfl⟩)) ?_
      have hne2 : treesP e n d sRpar l2.tail ≠ .out := fun h => HNE.out (by rw [HEQ.out, h] <;> rfl)
      refine (HTTS.out g e d sRpar l2.tail W5 h0 (by omega) HP.out hne2).mono ?_
      intro en w13 hq
      rcases hq.ways with ⟨v, ks, l3, hr, rfl, hk, hv, hp⟩ | ⟨b, er, hr, rfl, hk⟩
      ·rw [hr] at HEQ
       simp only [PR.andThen] at HEQ
       replace HK := Aside0.mk (Kept.then_ HK.out (Kept.mono hk fun kk h => .inl h))
       replace HX := Aside0.mk (Kept.has hk HX.out (by omega))
       replace HB0 := Aside0.mk (Kept.has hk HB0.out (by omega))
       replace HB1 := Aside0.mk (Kept.has hk HB1.out (by omega))
       replace HB2 := Aside0.mk (Kept.has hk HB2.out (by omega))
       replace HP := Aside0.mk hp
       have hs13 := Kept.size hk
       try simp at hs13
       have HKS := Aside0.mk hv
       clear hv hr hk
       obtain ⟨A2, c2, rfl⟩ := Kd.R_slice HKS.out
       refine .inl ⟨.slice A2 ks.length c2, rfl, ⟨HB0.out, HB1.out, HB2.out⟩, ?_⟩
       simp only [List.setIfInBounds_toArray, List.set_cons_zero, List.set_cons_succ]
       rw [← hQQ]
       refine tree_doneR (by kernel_rfl) ?_
       refine restQ_tree (fun _ => True) ?_
       clear hsure hS hQQ
       refine treeQ_h (by
        intro c a a' w1 hd h
        simp +zetaDelta only [Exit.then, Exit.inBlock, bodyPost] at h ⊢
        simpa [hd] using h) trivial (i := 4) (by kernel_rfl) (by rfl) (by rfl) (by kernel_rfl) (by rfl) ?_
       apply Exists.intro
       apply And.intro
       ·rintro w' -
        apply VR.mk
        go_simp
        with_reducible rfl
       simp only [List.setIfInBounds_toArray, List.set_cons_zero, List.set_cons_succ]
       refine treeQ_h (by
        intro c a a' w1 hd h
        simp +zetaDelta only [Exit.then, Exit.inBlock, bodyPost] at h ⊢
        simpa [hd] using h) trivial (i := 5) (by kernel_rfl) (by rfl) (by rfl) (by kernel_rfl) (by rfl) ?_
       apply Exists.intro
       apply And.intro
       ·rintro w' -
        apply VR.mk
        go_simp
        with_reducible rfl
       simp only [List.setIfInBounds_toArray, List.set_cons_zero, List.set_cons_succ]
       have c14 := Has.cell HX.out 4
       simp only [List.getElem?_toArray, List.getElem?_cons_zero, List.getElem?_cons_succ] at c14
       have f14 := Has.frozen HX.out 4
       refine tree_1Q (i := 6) (by kernel_rfl) ?_
       refine step_list (by rfl) ?_
       go_wp2
       refine ⟨trivial, tree_endQ (by kernel_rfl) ?_⟩
       clear c14 f14
       replace HK := Aside0.mk (Kept.setCellX HK.out (a := ⟨r, 4, none⟩) (.inl (.inr rfl)) (.slice A2 ks.length c2))
       replace HP := Aside0.mk (PS.setT HP.out HX.out (by decide) (by decide) 4 (.slice A2 ks.length c2))
       replace HB0 := Aside0.mk (Has.other HB0.out (a := ⟨r, 4, none⟩) (by show w.heap.size ≠ r; omega) (.slice A2 ks.length c2))
       replace HB1 := Aside0.mk (Has.other HB1.out (a := ⟨r, 4, none⟩) (by show w.heap.size + 1 ≠ r; omega) (.slice A2 ks.length c2))
       replace HB2 := Aside0.mk (Has.other HB2.out (a := ⟨r, 4, none⟩) (by show w.heap.size + 2 ≠ r; omega) (.slice A2 ks.length c2))
       replace HKS := Aside0.mk (R_far HKS.out (fun kk h1 _ => Below.heap_setCell _ ⟨r, 4, none⟩ (.slice A2 ks.length c2) kk (by show kk ≠ r; omega)))
       replace HX : Aside0 (Has (w13.setCell ⟨r, 4, none⟩ (.slice A2 ks.length c2)) (r) #[.int .i64 16, .int .i64 a0, .int .i64 0, .string (s ++ (sColons ++ s2)), .slice A2 ks.length c2, .slice none 0 0, .int .i64 0, .string ⟨#[]⟩, .int .i64 0, .slice none 0 0] 27) := ⟨by have h := Has.set_ HX.out 4 (.slice A2 ks.length c2); exact h⟩
       refine bodyPost_end (results_none rfl _ _ _) rfl ?_
       rw [HEQ.out]
       exact ⟨HK.out, rfl, ⟨_, HX.out, VO.node 16 a0 0 (s ++ (sColons ++ s2)) (Kd.R_lower HKS.out (by omega))⟩, HP.out⟩
      ·refine .inr ⟨_, rfl, ?_⟩
       replace HEQ : Aside0 (R = .bad b er) := ⟨by rw [HEQ.out, hr] <;> rfl⟩
       rw [← hQQ, HEQ.out]
       exact ⟨rfl, Kept.then_ HK.out (Kept.mono hk fun kk h => .inl h), rfl⟩
     | false =>
      replace HEQ := Aside0.mk (HEQ.out.trans (if_neg (by rw [hk]; decide)))
      have HKK := Aside0.mk hk
      clear hk
      have c11 := Has.cell HB0.out 0
      simp only [List.getElem?_toArray, List.getElem?_cons_zero, List.getElem?_cons_succ] at c11
      have f11 := Has.frozen HB0.out 0
      go_wp2_with ((
            go_at_call 41
            (with_reducible refine Calls.mono (take_no sLpar HP.out HKK.out) ?_)
            rintro en w12 ⟨he12, hk12, hp12⟩
            clear c11 f11
            subst he12
            replace HK := Aside0.mk (Kept.then_ HK.out (Kept.mono hk12 fun kk h => .inl h))
            replace HX := Aside0.mk (Kept.has hk12 HX.out (by omega))
            replace HB0 := Aside0.mk (Kept.has hk12 HB0.out (by omega))
            replace HB1 := Aside0.mk (Kept.has hk12 HB1.out (by omega))
            replace HB2 := Aside0.mk (Kept.has hk12 HB2.out (by omega))
            replace HP := Aside0.mk hp12
            have hs12 := Kept.size hk12
            try simp at hs12))
      refine bodyPost_end (results_none rfl _ _ _) rfl ?_
      rw [HEQ.out]
      exact ⟨HK.out, rfl, ⟨_, HX.out, VO.leaf _ _ _ 16 a0 0 (s ++ (sColons ++ s2))⟩, HP.out⟩
    ·refine .inr ⟨_, rfl, ?_⟩
     replace HEQ : Aside0 (R = .bad b er) := ⟨by rw [HEQ.out, hr] <;> rfl⟩
     rw [← hQQ, HEQ.out]
     exact ⟨rfl, Kept.then_ HK.out (Kept.mono hk fun kk h => .inl h), rfl⟩
   | false =>
    replace HEQ := Aside0.mk (HEQ.out.trans (if_neg (by rw [hj]; decide)))
    have HJ := Aside0.mk hj
    clear hj
    by_cases ho : op = true ∧ isP sLbrace l1 = true
    ·exact absurd (HEQ.out.trans (if_pos ho)) HNE.out
    replace HEQ := Aside0.mk (HEQ.out.trans (if_neg ho))
    cases op with
    | false =>
     have c3 := Has.cell HB0.out 0
     simp only [List.getElem?_toArray, List.getElem?_cons_zero, List.getElem?_cons_succ] at c3
     have f3 := Has.frozen HB0.out 0
     clear ho
     go_wp2_with (first
       | (
        go_at_call 41
        (with_reducible refine Calls.mono (take_no sLpar HP.out HI.out) ?_)
        rintro en w4 ⟨he4, hk4, hp4⟩
        clear c3 f3
        subst he4
        replace HK := Aside0.mk (Kept.then_ HK.out (Kept.mono hk4 fun kk h => .inl h))
        replace HX := Aside0.mk (Kept.has hk4 HX.out (by omega))
        replace HB0 := Aside0.mk (Kept.has hk4 HB0.out (by omega))
        replace HB1 := Aside0.mk (Kept.has hk4 HB1.out (by omega))
        replace HB2 := Aside0.mk (Kept.has hk4 HB2.out (by omega))
        replace HP := Aside0.mk hp4
        have hs4 := Kept.size hk4
        try simp at hs4
        have c5 := Has.cell HB0.out 0
        simp only [List.getElem?_toArray, List.getElem?_cons_zero, List.getElem?_cons_succ] at c5
        have f5 := Has.frozen HB0.out 0)
       | (
        go_at_call 41
        (with_reducible refine Calls.mono (take_no sColons HP.out HJ.out) ?_)
        rintro en w6 ⟨he6, hk6, hp6⟩
        clear c5 f5
        subst he6
        replace HK := Aside0.mk (Kept.then_ HK.out (Kept.mono hk6 fun kk h => .inl h))
        replace HX := Aside0.mk (Kept.has hk6 HX.out (by omega))
        replace HB0 := Aside0.mk (Kept.has hk6 HB0.out (by omega))
        replace HB1 := Aside0.mk (Kept.has hk6 HB1.out (by omega))
        replace HB2 := Aside0.mk (Kept.has hk6 HB2.out (by omega))
        replace HP := Aside0.mk hp6
        have hs6 := Kept.size hk6
        try simp at hs6))
     refine bodyPost_end (results_none rfl _ _ _) rfl ?_
     rw [HEQ.out]
     exact ⟨HK.out, rfl, ⟨_, HX.out, VO.leaf _ _ _ 4 a0 0 s⟩, HP.out⟩
    | true =>
     have hb : isP sLbrace l1 = false := by simpa using ho
     have HBR := Aside0.mk hb
     clear ho hb
     have c3 := Has.cell HB0.out 0
     simp only [List.getElem?_toArray, List.getElem?_cons_zero, List.getElem?_cons_succ] at c3
     have f3 := Has.frozen HB0.out 0
     go_wp2_with (first
       | (
        go_at_call 41
        (with_reducible refine Calls.mono (take_no sLpar HP.out HI.out) ?_)
        rintro en w4 ⟨he4, hk4, hp4⟩
        clear c3 f3
        subst he4
        replace HK := Aside0.mk (Kept.then_ HK.out (Kept.mono hk4 fun kk h => .inl h))
        replace HX := Aside0.mk (Kept.has hk4 HX.out (by omega))
        replace HB0 := Aside0.mk (Kept.has hk4 HB0.out (by omega))
        replace HB1 := Aside0.mk (Kept.has hk4 HB1.out (by omega))
        replace HB2 := Aside0.mk (Kept.has hk4 HB2.out (by omega))
        replace HP := Aside0.mk hp4
        have hs4 := Kept.size hk4
        try simp at hs4
        have c5 := Has.cell HB0.out 0
        simp only [List.getElem?_toArray, List.getElem?_cons_zero, List.getElem?_cons_succ] at c5
        have f5 := Has.frozen HB0.out 0)
       | (
        go_at_call 41
        (with_reducible refine Calls.mono (take_no sColons HP.out HJ.out) ?_)
        rintro en w6 ⟨he6, hk6, hp6⟩
        clear c5 f5
        subst he6
        replace HK := Aside0.mk (Kept.then_ HK.out (Kept.mono hk6 fun kk h => .inl h))
        replace HX := Aside0.mk (Kept.has hk6 HX.out (by omega))
        replace HB0 := Aside0.mk (Kept.has hk6 HB0.out (by omega))
        replace HB1 := Aside0.mk (Kept.has hk6 HB1.out (by omega))
        replace HB2 := Aside0.mk (Kept.has hk6 HB2.out (by omega))
        replace HP := Aside0.mk hp6
        have hs6 := Kept.size hk6
        try simp at hs6
        have c7 := Has.cell HB0.out 0
        simp only [List.getElem?_toArray, List.getElem?_cons_zero, List.getElem?_cons_succ] at c7
        have f7 := Has.frozen HB0.out 0)
       | (
        go_at_call 41
        (with_reducible refine Calls.mono (take_no sLbrace HP.out HBR.out) ?_)
        rintro en w8 ⟨he8, hk8, hp8⟩
        clear c7 f7
        subst he8
        replace HK := Aside0.mk (Kept.then_ HK.out (Kept.mono hk8 fun kk h => .inl h))
        replace HX := Aside0.mk (Kept.has hk8 HX.out (by omega))
        replace HB0 := Aside0.mk (Kept.has hk8 HB0.out (by omega))
        replace HB1 := Aside0.mk (Kept.has hk8 HB1.out (by omega))
        replace HB2 := Aside0.mk (Kept.has hk8 HB2.out (by omega))
        replace HP := Aside0.mk hp8
        have hs8 := Kept.size hk8
        try simp at hs8))
     refine bodyPost_end (results_none rfl _ _ _) rfl ?_
     rw [HEQ.out]
     exact ⟨HK.out, rfl, ⟨_, HX.out, VO.leaf _ _ _ 4 a0 0 s⟩, HP.out⟩
 ·refine .inr ⟨_, rfl, ?_⟩
  replace HEQ : Aside0 (R = .bad b er) := ⟨by rw [HEQ.out, hr] <;> rfl⟩
  rw [← hQQ, HEQ.out]
  exact ⟨rfl, Kept.then_ HK.out (Kept.mono hk fun kk h => .inl h), rfl⟩
end Go.Proofs.YtngpgdmafmkddaaDoor.Par
end
section
namespace Go.Proofs.YtngpgdmafmkddaaDoor.Par
open Go.RowKit Go.Proofs.YtngpgdmafmkddaaDoorW.PrintWords Go.Proofs.YtngpgdmafmkddaaDoorW.PrintLast Go.Proofs.YtngpgdmafmkddaaDoorW.PrintMore
open Go.Proofs.YtngpgdmafmkddaaDoor.PParseBlanks (S35 S25 S27 k35 k25 k27 rd_T35 rd_T25 rd_T27 at_T35 at_T25 at_T27)
set_option linter.unusedVariables false
set_option linter.unusedSimpArgs false
set_option maxRecDepth 100000 in
set_option maxHeartbeats 4000000 in
theorem primary_ok {n : Nat} (HT : TreeOK n) (HA : ArrayOK n) (HC : ClosedOK n) (HN : NamedOK n) : PrimaryOK (n + 1) := by
 intro g e d op l w h0 h1 HP hne
 unfold TreeOK at HT
 unfold ArrayOK at HA
 unfold ClosedOK at HC
 unfold NamedOK at HN
 have hu27 := Tryd.underlying27
 have HE : primaryP e (n + 1) d op l = if kindP l = 2 then (numberP e l).andThen fun v l1 => .ok (mkE 1 (atP e l) v.1 v.2 [] []) l1
  else if isP sTrue l = true then .ok (mkE 2 (atP e l) 1 ⟨#[]⟩ [] []) l.tail
  else if isP sFalse l = true then .ok (mkE 2 (atP e l) 0 ⟨#[]⟩ [] []) l.tail
  else if isP sLpar l = true then
   (if isP sRpar l.tail = true then .ok (mkE 3 (atP e l) 0 ⟨#[]⟩ [] []) l.tail.tail
    else (climbP e n (d + 1) true 1 l.tail).andThen fun x l' => if isP sRpar l' = true then .ok x l'.tail else .bad (atP e l') 30)
  else if isP sLbra l = true then arrayP e n d (atP e l) l.tail
  else if oneP [sIf, sMatch, sLbrace] l = true then closedP e n (d + 1) l
  else namedP e n d op l := by simp only [primaryP]
 obtain ⟨R, hR⟩ : ∃ R, primaryP e (n + 1) d op l = R := ⟨_, rfl⟩
 rw [hR] at HE hne ⊢
 clear hR
 have hgw := HP.glt
 obtain ⟨a0, ha0⟩ : ∃ a, atP e l = a := ⟨_, rfl⟩
 have HAT := Aside0.mk ha0
 rw [ha0] at HE
 clear ha0
 have HEQ := Aside0.mk HE
 have HNE := Aside0.mk hne
 have HTT := Aside0.mk HT
 have HAA := Aside0.mk HA
 have HCC := Aside0.mk HC
 have HNN := Aside0.mk HN
 have HK : Aside0 (KeptG g w w) := ⟨Kept.refl _ w⟩
 have HP := Aside0.mk HP
 clear HE hne HT HA HC HN
 replace HK := Aside0.mk (Kept.alloc HK.out (Obj.cells #[.int .i64 0, .int .i64 0, .int .i64 0, .string ⟨#[]⟩, .slice none 0 0, .slice none 0 0, .int .i64 0, .string ⟨#[]⟩, .int .i64 0, .slice none 0 0] 27))
 replace HP := Aside0.mk (HP.out.below (below_alloc (Below.refl (w).heap.size (w)) (Obj.cells #[.int .i64 0, .int .i64 0, .int .i64 0, .string ⟨#[]⟩, .slice none 0 0, .slice none 0 0, .int .i64 0, .string ⟨#[]⟩, .int .i64 0, .slice none 0 0] 27)))
 have HR : Aside0 (Has (w.alloc (Obj.cells #[.int .i64 0, .int .i64 0, .int .i64 0, .string ⟨#[]⟩, .slice none 0 0, .slice none 0 0, .int .i64 0, .string ⟨#[]⟩, .int .i64 0, .slice none 0 0] 27)) (w.heap.size) #[.int .i64 0, .int .i64 0, .int .i64 0, .string ⟨#[]⟩, .slice none 0 0, .slice none 0 0, .int .i64 0, .string ⟨#[]⟩, .int .i64 0, .slice none 0 0] 27) := ⟨by have h := Has.new (w) #[.int .i64 0, .int .i64 0, .int .i64 0, .string ⟨#[]⟩, .slice none 0 0, .slice none 0 0, .int .i64 0, .string ⟨#[]⟩, .int .i64 0, .slice none 0 0] 27; first | exact h | (simpa using h)⟩
 go_enter Tryd.func79, Tryd.ntmps79
 go_upto_block 0 with ((
       go_at_call 29
       (with_reducible refine Calls.mono (at_ps HP.out) ?_)
       rintro en w1 ⟨he1, hb1⟩
       rw [HAT.out] at he1
       subst he1
       replace HK := Aside0.mk (Kept.below HK.out hb1)
       replace HP := Aside0.mk (HP.out.below hb1)
       replace HR := Aside0.mk (HR.out.belowS hb1)
       have hs1 := Below.size hb1
       try simp at hs1
       replace HK := Aside0.mk (Kept.alloc HK.out (Obj.cells #[.int .i64 0, .int .i64 a0, .int .i64 0, .string ⟨#[]⟩, .slice none 0 0, .slice none 0 0, .int .i64 0, .string ⟨#[]⟩, .int .i64 0, .slice none 0 0] 27))
       replace HP := Aside0.mk (HP.out.below (below_alloc (Below.refl (w1).heap.size (w1)) (Obj.cells #[.int .i64 0, .int .i64 a0, .int .i64 0, .string ⟨#[]⟩, .slice none 0 0, .slice none 0 0, .int .i64 0, .string ⟨#[]⟩, .int .i64 0, .slice none 0 0] 27)))
       replace HR := Aside0.mk (Has.alloc HR.out (Obj.cells #[.int .i64 0, .int .i64 a0, .int .i64 0, .string ⟨#[]⟩, .slice none 0 0, .slice none 0 0, .int .i64 0, .string ⟨#[]⟩, .int .i64 0, .slice none 0 0] 27))
       have HX : Aside0 (Has (w1.alloc (Obj.cells #[.int .i64 0, .int .i64 a0, .int .i64 0, .string ⟨#[]⟩, .slice none 0 0, .slice none 0 0, .int .i64 0, .string ⟨#[]⟩, .int .i64 0, .slice none 0 0] 27)) (w1.heap.size) #[.int .i64 0, .int .i64 a0, .int .i64 0, .string ⟨#[]⟩, .slice none 0 0, .slice none 0 0, .int .i64 0, .string ⟨#[]⟩, .int .i64 0, .slice none 0 0] 27) := ⟨by have h := Has.new (w1) #[.int .i64 0, .int .i64 a0, .int .i64 0, .string ⟨#[]⟩, .slice none 0 0, .slice none 0 0, .int .i64 0, .string ⟨#[]⟩, .int .i64 0, .slice none 0 0] 27; first | exact h | (simpa using h)⟩))
 have hbx : w.heap.size < w1.heap.size := by omega
 have hbg : w1.heap.size ≠ g := by omega
 have hsx := HX.out.lt
 obtain ⟨q, hq⟩ : ∃ q, kindP l = q := ⟨_, rfl⟩
 go_cut [] (fun wc => ∃ (cs : Array Value) (x : S27) (l' : List S35), Aside0 (R = .ok x l') ∧ Aside0 (KeptG g w wc) ∧ Aside0 (PS wc g l' e) ∧ Aside0 (Has wc w.heap.size #[.int .i64 0, .int .i64 0, .int .i64 0, .string ⟨#[]⟩, .slice none 0 0, .slice none 0 0, .int .i64 0, .string ⟨#[]⟩, .int .i64 0, .slice none 0 0] 27) ∧ Aside0 (Has wc w1.heap.size cs 27) ∧ Aside0 (VE (w.heap.size + 1) wc (.agg cs) x))
 case first =>
  have HKQ := Aside0.mk hq
  by_cases k2 : q = 2
  ·have b2 : (q == 2) = true := by simp [k2]
   replace HEQ := Aside0.mk (HEQ.out.trans (if_pos (hq.trans k2)))
   clear hq k2
   cases hr : numberP e l with
   | out => exact absurd (by rw [HEQ.out, hr] <;> rfl) HNE.out
   | bad b er =>
    have HRR := Aside0.mk hr
    replace HEQ : Aside0 (R = .bad b er) := ⟨by rw [HEQ.out, hr] <;> rfl⟩
    clear hr
    go_wp2_with (first
      | (
       go_at_call 19
       (with_reducible refine Calls.mono (kind_ps HP.out) ?_)
       rintro en w2 ⟨he2, hb2⟩
       rw [HKQ.out] at he2
       subst he2
       replace HK := Aside0.mk (Kept.below HK.out hb2)
       replace HP := Aside0.mk (HP.out.below hb2)
       replace HR := Aside0.mk (HR.out.belowS hb2)
       replace HX := Aside0.mk (HX.out.belowS hb2)
       have hs2 := Below.size hb2
       try simp at hs2
       have c3 := Has.cell HX.out 0
       simp only [List.getElem?_toArray, List.getElem?_cons_zero, List.getElem?_cons_succ] at c3
       have f3 := Has.frozen HX.out 0)
      | (
       go_at_call 69
       clear c3 f3
       replace HK := Aside0.mk (Kept.setCellX HK.out (a := ⟨w1.heap.size, 0, none⟩) (.inr (by show w.heap.size ≤ w1.heap.size; omega)) (.int .i64 1))
       replace HP := Aside0.mk (PS.setT HP.out HX.out (by decide) (by decide) 0 (.int .i64 1))
       replace HR := Aside0.mk (Has.other HR.out (a := ⟨w1.heap.size, 0, none⟩) (by show w.heap.size ≠ w1.heap.size; omega) (.int .i64 1))
       replace HX : Aside0 (Has (w2.setCell ⟨w1.heap.size, 0, none⟩ (.int .i64 1)) (w1.heap.size) #[.int .i64 1, .int .i64 a0, .int .i64 0, .string ⟨#[]⟩, .slice none 0 0, .slice none 0 0, .int .i64 0, .string ⟨#[]⟩, .int .i64 0, .slice none 0 0] 27) := ⟨by have h := Has.set_ HX.out 0 (.int .i64 1); exact h⟩
       (with_reducible refine Calls.mono (number_said g _ e _ HP.out (by rw [HRR.out]; exact PR.bad_ne _ _)) ?_)
       rintro en w4 ⟨hk4, he4⟩
       rw [HRR.out] at he4
       subst he4
       replace HK := Aside0.mk (Kept.then_ HK.out hk4)
       replace HR := Aside0.mk (Kept.has hk4 HR.out (by omega))
       replace HX := Aside0.mk (Kept.has hk4 HX.out (by omega))
       have hs4 := Kept.size hk4
       try simp at hs4))
    rw [HEQ.out]
    exact ⟨rfl, HK.out, rfl⟩
   | ok v l1 =>
    have HRR := Aside0.mk hr
    rw [hr] at HEQ
    simp only [PR.andThen] at HEQ
    clear hr
    go_wp2_with (first
      | (
       go_at_call 19
       (with_reducible refine Calls.mono (kind_ps HP.out) ?_)
       rintro en w2 ⟨he2, hb2⟩
       rw [HKQ.out] at he2
       subst he2
       replace HK := Aside0.mk (Kept.below HK.out hb2)
       replace HP := Aside0.mk (HP.out.below hb2)
       replace HR := Aside0.mk (HR.out.belowS hb2)
       replace HX := Aside0.mk (HX.out.belowS hb2)
       have hs2 := Below.size hb2
       try simp at hs2
       have c3 := Has.cell HX.out 0
       simp only [List.getElem?_toArray, List.getElem?_cons_zero, List.getElem?_cons_succ] at c3
       have f3 := Has.frozen HX.out 0)
      | (
       go_at_call 69
       clear c3 f3
       replace HK := Aside0.mk (Kept.setCellX HK.out (a := ⟨w1.heap.size, 0, none⟩) (.inr (by show w.heap.size ≤ w1.heap.size; omega)) (.int .i64 1))
       replace HP := Aside0.mk (PS.setT HP.out HX.out (by decide) (by decide) 0 (.int .i64 1))
       replace HR := Aside0.mk (Has.other HR.out (a := ⟨w1.heap.size, 0, none⟩) (by show w.heap.size ≠ w1.heap.size; omega) (.int .i64 1))
       replace HX : Aside0 (Has (w2.setCell ⟨w1.heap.size, 0, none⟩ (.int .i64 1)) (w1.heap.size) #[.int .i64 1, .int .i64 a0, .int .i64 0, .string ⟨#[]⟩, .slice none 0 0, .slice none 0 0, .int .i64 0, .string ⟨#[]⟩, .int .i64 0, .slice none 0 0] 27) := ⟨by have h := Has.set_ HX.out 0 (.int .i64 1); exact h⟩
       (with_reducible refine Calls.mono (number_said g _ e _ HP.out (by rw [HRR.out]; exact PR.ok_ne _ _)) ?_)
       rintro en w4 ⟨hk4, he4⟩
       rw [HRR.out] at he4
       obtain ⟨v4, rfl, hv4, hp4⟩ := he4
       obtain rfl := hv4
       replace HK := Aside0.mk (Kept.then_ HK.out hk4)
       replace HR := Aside0.mk (Kept.has hk4 HR.out (by omega))
       replace HX := Aside0.mk (Kept.has hk4 HX.out (by omega))
       replace HP := Aside0.mk hp4
       have hs4 := Kept.size hk4
       try simp at hs4
       have c5 := Has.cell HX.out 2
       simp only [List.getElem?_toArray, List.getElem?_cons_zero, List.getElem?_cons_succ] at c5
       have f5 := Has.frozen HX.out 2
       have q6 : Has (World.setCell (w4) ⟨w1.heap.size, 2, none⟩ (.int .i64 v.fst)) (w1.heap.size) #[.int .i64 1, .int .i64 a0, .int .i64 v.fst, .string ⟨#[]⟩, .slice none 0 0, .slice none 0 0, .int .i64 0, .string ⟨#[]⟩, .int .i64 0, .slice none 0 0] 27 := Has.set_ HX.out 2 (.int .i64 v.fst)
       have c6 := q6.cell 3
       simp only [List.getElem?_toArray, List.getElem?_cons_zero, List.getElem?_cons_succ] at c6
       have f6 := q6.frozen 3
       clear q6))
    clear c5 f5 c6 f6
    replace HK := Aside0.mk (Kept.setCellX HK.out (a := ⟨w1.heap.size, 2, none⟩) (.inr (by show w.heap.size ≤ w1.heap.size; omega)) (.int .i64 v.fst))
    replace HP := Aside0.mk (PS.setT HP.out HX.out (by decide) (by decide) 2 (.int .i64 v.fst))
    replace HR := Aside0.mk (Has.other HR.out (a := ⟨w1.heap.size, 2, none⟩) (by show w.heap.size ≠ w1.heap.size; omega) (.int .i64 v.fst))
    replace HX : Aside0 (Has (w4.setCell ⟨w1.heap.size, 2, none⟩ (.int .i64 v.fst)) (w1.heap.size) #[.int .i64 1, .int .i64 a0, .int .i64 v.fst, .string ⟨#[]⟩, .slice none 0 0, .slice none 0 0, .int .i64 0, .string ⟨#[]⟩, .int .i64 0, .slice none 0 0] 27) := ⟨by have h := Has.set_ HX.out 2 (.int .i64 v.fst); exact h⟩
    replace HK := Aside0.mk (Kept.setCellX HK.out (a := ⟨w1.heap.size, 3, none⟩) (.inr (by show w.heap.size ≤ w1.heap.size; omega)) (.string v.snd))
    replace HP := Aside0.mk (PS.setT HP.out HX.out (by decide) (by decide) 3 (.string v.snd))
    replace HR := Aside0.mk (Has.other HR.out (a := ⟨w1.heap.size, 3, none⟩) (by show w.heap.size ≠ w1.heap.size; omega) (.string v.snd))
    replace HX : Aside0 (Has (((w4.setCell ⟨w1.heap.size, 2, none⟩ (.int .i64 v.fst))).setCell ⟨w1.heap.size, 3, none⟩ (.string v.snd)) (w1.heap.size) #[.int .i64 1, .int .i64 a0, .int .i64 v.fst, .string v.snd, .slice none 0 0, .slice none 0 0, .int .i64 0, .string ⟨#[]⟩, .int .i64 0, .slice none 0 0] 27) := ⟨by have h := Has.set_ HX.out 3 (.string v.snd); exact h⟩
    go_meet
    case rel => exact ⟨_, _, _, HEQ, HK, HP, HR, HX, ⟨VO.leaf _ _ _ 1 a0 v.fst v.snd⟩⟩
  ·have b2 : (q == 2) = false := by simp [k2]
   replace HEQ := Aside0.mk (HEQ.out.trans (if_neg (show ¬ kindP l = 2 from fun h => k2 (hq.symm.trans h))))
   clear hq k2
   cases hi : isP sTrue l with
   | true =>
    replace HEQ := Aside0.mk (HEQ.out.trans (if_pos hi))
    have HT1 := Aside0.mk hi
    clear hi
    go_wp2_with (first
      | (
       go_at_call 19
       (with_reducible refine Calls.mono (kind_ps HP.out) ?_)
       rintro en w2 ⟨he2, hb2⟩
       rw [HKQ.out] at he2
       subst he2
       replace HK := Aside0.mk (Kept.below HK.out hb2)
       replace HP := Aside0.mk (HP.out.below hb2)
       replace HR := Aside0.mk (HR.out.belowS hb2)
       replace HX := Aside0.mk (HX.out.belowS hb2)
       have hs2 := Below.size hb2
       try simp at hs2)
      | (
       go_at_call 41
       (with_reducible refine Calls.mono (take_yes sTrue HP.out HT1.out) ?_)
       rintro en w3 ⟨he3, hk3, hp3⟩
       subst he3
       replace HK := Aside0.mk (Kept.then_ HK.out hk3)
       replace HR := Aside0.mk (Kept.has hk3 HR.out (by omega))
       replace HX := Aside0.mk (Kept.has hk3 HX.out (by omega))
       replace HP := Aside0.mk hp3
       have hs3 := Kept.size hk3
       try simp at hs3
       have c4 := Has.cell HX.out 0
       simp only [List.getElem?_toArray, List.getElem?_cons_zero, List.getElem?_cons_succ] at c4
       have f4 := Has.frozen HX.out 0
       have q5 : Has (World.setCell (w3) ⟨w1.heap.size, 0, none⟩ (.int .i64 2)) (w1.heap.size) #[.int .i64 2, .int .i64 a0, .int .i64 0, .string ⟨#[]⟩, .slice none 0 0, .slice none 0 0, .int .i64 0, .string ⟨#[]⟩, .int .i64 0, .slice none 0 0] 27 := Has.set_ HX.out 0 (.int .i64 2)
       have c5 := q5.cell 2
       simp only [List.getElem?_toArray, List.getElem?_cons_zero, List.getElem?_cons_succ] at c5
       have f5 := q5.frozen 2
       clear q5))
    clear c4 f4 c5 f5
    replace HK := Aside0.mk (Kept.setCellX HK.out (a := ⟨w1.heap.size, 0, none⟩) (.inr (by show w.heap.size ≤ w1.heap.size; omega)) (.int .i64 2))
    replace HP := Aside0.mk (PS.setT HP.out HX.out (by decide) (by decide) 0 (.int .i64 2))
    replace HR := Aside0.mk (Has.other HR.out (a := ⟨w1.heap.size, 0, none⟩) (by show w.heap.size ≠ w1.heap.size; omega) (.int .i64 2))
    replace HX : Aside0 (Has (w3.setCell ⟨w1.heap.size, 0, none⟩ (.int .i64 2)) (w1.heap.size) #[.int .i64 2, .int .i64 a0, .int .i64 0, .string ⟨#[]⟩, .slice none 0 0, .slice none 0 0, .int .i64 0, .string ⟨#[]⟩, .int .i64 0, .slice none 0 0] 27) := ⟨by have h := Has.set_ HX.out 0 (.int .i64 2); exact h⟩
    replace HK := Aside0.mk (Kept.setCellX HK.out (a := ⟨w1.heap.size, 2, none⟩) (.inr (by show w.heap.size ≤ w1.heap.size; omega)) (.int .i64 1))
    replace HP := Aside0.mk (PS.setT HP.out HX.out (by decide) (by decide) 2 (.int .i64 1))
    replace HR := Aside0.mk (Has.other HR.out (a := ⟨w1.heap.size, 2, none⟩) (by show w.heap.size ≠ w1.heap.size; omega) (.int .i64 1))
    replace HX : Aside0 (Has (((w3.setCell ⟨w1.heap.size, 0, none⟩ (.int .i64 2))).setCell ⟨w1.heap.size, 2, none⟩ (.int .i64 1)) (w1.heap.size) #[.int .i64 2, .int .i64 a0, .int .i64 1, .string ⟨#[]⟩, .slice none 0 0, .slice none 0 0, .int .i64 0, .string ⟨#[]⟩, .int .i64 0, .slice none 0 0] 27) := ⟨by have h := Has.set_ HX.out 2 (.int .i64 1); exact h⟩
    go_meet
    case rel => exact ⟨_, _, _, HEQ, HK, HP, HR, HX, ⟨VO.leaf _ _ _ 2 a0 1 ⟨#[]⟩⟩⟩
   | false =>
    replace HEQ := Aside0.mk (HEQ.out.trans (if_neg (by rw [hi]; decide)))
    have HT1 := Aside0.mk hi
    clear hi
    cases hi : isP sFalse l with
    | true =>
     replace HEQ := Aside0.mk (HEQ.out.trans (if_pos hi))
     have HT2 := Aside0.mk hi
     clear hi
     go_wp2_with (first
       | (
        go_at_call 19
        (with_reducible refine Calls.mono (kind_ps HP.out) ?_)
        rintro en w2 ⟨he2, hb2⟩
        rw [HKQ.out] at he2
        subst he2
        replace HK := Aside0.mk (Kept.below HK.out hb2)
        replace HP := Aside0.mk (HP.out.below hb2)
        replace HR := Aside0.mk (HR.out.belowS hb2)
        replace HX := Aside0.mk (HX.out.belowS hb2)
        have hs2 := Below.size hb2
        try simp at hs2)
       | (
        go_at_call 41
        (with_reducible refine Calls.mono (take_no sTrue HP.out HT1.out) ?_)
        rintro en w3 ⟨he3, hk3, hp3⟩
        subst he3
        replace HK := Aside0.mk (Kept.then_ HK.out hk3)
        replace HR := Aside0.mk (Kept.has hk3 HR.out (by omega))
        replace HX := Aside0.mk (Kept.has hk3 HX.out (by omega))
        replace HP := Aside0.mk hp3
        have hs3 := Kept.size hk3
        try simp at hs3)
       | (
        go_at_call 41
        (with_reducible refine Calls.mono (take_yes sFalse HP.out HT2.out) ?_)
        rintro en w4 ⟨he4, hk4, hp4⟩
        subst he4
        replace HK := Aside0.mk (Kept.then_ HK.out hk4)
        replace HR := Aside0.mk (Kept.has hk4 HR.out (by omega))
        replace HX := Aside0.mk (Kept.has hk4 HX.out (by omega))
        replace HP := Aside0.mk hp4
        have hs4 := Kept.size hk4
        try simp at hs4
        have c5 := Has.cell HX.out 0
        simp only [List.getElem?_toArray, List.getElem?_cons_zero, List.getElem?_cons_succ] at c5
        have f5 := Has.frozen HX.out 0))
     clear c5 f5
     replace HK := Aside0.mk (Kept.setCellX HK.out (a := ⟨w1.heap.size, 0, none⟩) (.inr (by show w.heap.size ≤ w1.heap.size; omega)) (.int .i64 2))
     replace HP := Aside0.mk (PS.setT HP.out HX.out (by decide) (by decide) 0 (.int .i64 2))
     replace HR := Aside0.mk (Has.other HR.out (a := ⟨w1.heap.size, 0, none⟩) (by show w.heap.size ≠ w1.heap.size; omega) (.int .i64 2))
     replace HX : Aside0 (Has (w4.setCell ⟨w1.heap.size, 0, none⟩ (.int .i64 2)) (w1.heap.size) #[.int .i64 2, .int .i64 a0, .int .i64 0, .string ⟨#[]⟩, .slice none 0 0, .slice none 0 0, .int .i64 0, .string ⟨#[]⟩, .int .i64 0, .slice none 0 0] 27) := ⟨by have h := Has.set_ HX.out 0 (.int .i64 2); exact h⟩
     go_meet
     case rel => exact ⟨_, _, _, HEQ, HK, HP, HR, HX, ⟨VO.leaf _ _ _ 2 a0 0 ⟨#[]⟩⟩⟩
    | false =>
     replace HEQ := Aside0.mk (HEQ.out.trans (if_neg (by rw [hi]; decide)))
     have HT2 := Aside0.mk hi
     clear hi
     cases hi : isP sLpar l with
     | true =>
      replace HEQ := Aside0.mk (HEQ.out.trans (if_pos hi))
      have HT3 := Aside0.mk hi
      clear hi
      cases hj : isP sRpar l.tail with
      | true =>
       replace HEQ := Aside0.mk (HEQ.out.trans (if_pos hj))
       have HT4 := Aside0.mk hj
       clear hj
       go_wp2_with (first
         | (
          go_at_call 19
          (with_reducible refine Calls.mono (kind_ps HP.out) ?_)
          rintro en w2 ⟨he2, hb2⟩
          rw [HKQ.out] at he2
          subst he2
          replace HK := Aside0.mk (Kept.below HK.out hb2)
          replace HP := Aside0.mk (HP.out.below hb2)
          replace HR := Aside0.mk (HR.out.belowS hb2)
          replace HX := Aside0.mk (HX.out.belowS hb2)
          have hs2 := Below.size hb2
          try simp at hs2)
         | (
          go_at_call 41
          (with_reducible refine Calls.mono (take_no sTrue HP.out HT1.out) ?_)
          rintro en w3 ⟨he3, hk3, hp3⟩
          subst he3
          replace HK := Aside0.mk (Kept.then_ HK.out hk3)
          replace HR := Aside0.mk (Kept.has hk3 HR.out (by omega))
          replace HX := Aside0.mk (Kept.has hk3 HX.out (by omega))
          replace HP := Aside0.mk hp3
          have hs3 := Kept.size hk3
          try simp at hs3)
         | (
          go_at_call 41
          (with_reducible refine Calls.mono (take_no sFalse HP.out HT2.out) ?_)
          rintro en w4 ⟨he4, hk4, hp4⟩
          subst he4
          replace HK := Aside0.mk (Kept.then_ HK.out hk4)
          replace HR := Aside0.mk (Kept.has hk4 HR.out (by omega))
          replace HX := Aside0.mk (Kept.has hk4 HX.out (by omega))
          replace HP := Aside0.mk hp4
          have hs4 := Kept.size hk4
          try simp at hs4)
         | (
          go_at_call 41
          (with_reducible refine Calls.mono (take_yes sLpar HP.out HT3.out) ?_)
          rintro en w5 ⟨he5, hk5, hp5⟩
          subst he5
          replace HK := Aside0.mk (Kept.then_ HK.out hk5)
          replace HR := Aside0.mk (Kept.has hk5 HR.out (by omega))
          replace HX := Aside0.mk (Kept.has hk5 HX.out (by omega))
          replace HP := Aside0.mk hp5
          have hs5 := Kept.size hk5
          try simp at hs5)
         | (
          go_at_call 41
          (with_reducible refine Calls.mono (take_yes sRpar HP.out HT4.out) ?_)
          rintro en w6 ⟨he6, hk6, hp6⟩
          subst he6
          replace HK := Aside0.mk (Kept.then_ HK.out hk6)
          replace HR := Aside0.mk (Kept.has hk6 HR.out (by omega))
          replace HX := Aside0.mk (Kept.has hk6 HX.out (by omega))
          replace HP := Aside0.mk hp6
          have hs6 := Kept.size hk6
          try simp at hs6
          have c7 := Has.cell HX.out 0
          simp only [List.getElem?_toArray, List.getElem?_cons_zero, List.getElem?_cons_succ] at c7
          have f7 := Has.frozen HX.out 0))
       clear c7 f7
       replace HK := Aside0.mk (Kept.setCellX HK.out (a := ⟨w1.heap.size, 0, none⟩) (.inr (by show w.heap.size ≤ w1.heap.size; omega)) (.int .i64 3))
       replace HP := Aside0.mk (PS.setT HP.out HX.out (by decide) (by decide) 0 (.int .i64 3))
       replace HR := Aside0.mk (Has.other HR.out (a := ⟨w1.heap.size, 0, none⟩) (by show w.heap.size ≠ w1.heap.size; omega) (.int .i64 3))
       replace HX : Aside0 (Has (w6.setCell ⟨w1.heap.size, 0, none⟩ (.int .i64 3)) (w1.heap.size) #[.int .i64 3, .int .i64 a0, .int .i64 0, .string ⟨#[]⟩, .slice none 0 0, .slice none 0 0, .int .i64 0, .string ⟨#[]⟩, .int .i64 0, .slice none 0 0] 27) := ⟨by have h := Has.set_ HX.out 0 (.int .i64 3); exact h⟩
       go_meet
       case rel => exact ⟨_, _, _, HEQ, HK, HP, HR, HX, ⟨VO.leaf _ _ _ 3 a0 0 ⟨#[]⟩⟩⟩
      | false =>
       replace HEQ := Aside0.mk (HEQ.out.trans (if_neg (by rw [hj]; decide)))
       have HT4 := Aside0.mk hj
       clear hj
       cases hr : climbP e n (d + 1) true 1 l.tail with
       | out => exact absurd (by rw [HEQ.out, hr] <;> rfl) HNE.out
       | bad b er =>
        have HRR := Aside0.mk hr
        replace HEQ : Aside0 (R = .bad b er) := ⟨by rw [HEQ.out, hr] <;> rfl⟩
        clear hr
        go_wp2_with (first
          | (
           go_at_call 19
           (with_reducible refine Calls.mono (kind_ps HP.out) ?_)
           rintro en w2 ⟨he2, hb2⟩
           rw [HKQ.out] at he2
           subst he2
           replace HK := Aside0.mk (Kept.below HK.out hb2)
           replace HP := Aside0.mk (HP.out.below hb2)
           replace HR := Aside0.mk (HR.out.belowS hb2)
           replace HX := Aside0.mk (HX.out.belowS hb2)
           have hs2 := Below.size hb2
           try simp at hs2)
          | (
           go_at_call 41
           (with_reducible refine Calls.mono (take_no sTrue HP.out HT1.out) ?_)
           rintro en w3 ⟨he3, hk3, hp3⟩
           subst he3
           replace HK := Aside0.mk (Kept.then_ HK.out hk3)
           replace HR := Aside0.mk (Kept.has hk3 HR.out (by omega))
           replace HX := Aside0.mk (Kept.has hk3 HX.out (by omega))
           replace HP := Aside0.mk hp3
           have hs3 := Kept.size hk3
           try simp at hs3)
          | (
           go_at_call 41
           (with_reducible refine Calls.mono (take_no sFalse HP.out HT2.out) ?_)
           rintro en w4 ⟨he4, hk4, hp4⟩
           subst he4
           replace HK := Aside0.mk (Kept.then_ HK.out hk4)
           replace HR := Aside0.mk (Kept.has hk4 HR.out (by omega))
           replace HX := Aside0.mk (Kept.has hk4 HX.out (by omega))
           replace HP := Aside0.mk hp4
           have hs4 := Kept.size hk4
           try simp at hs4)
          | (
           go_at_call 41
           (with_reducible refine Calls.mono (take_yes sLpar HP.out HT3.out) ?_)
           rintro en w5 ⟨he5, hk5, hp5⟩
           subst he5
           replace HK := Aside0.mk (Kept.then_ HK.out hk5)
           replace HR := Aside0.mk (Kept.has hk5 HR.out (by omega))
           replace HX := Aside0.mk (Kept.has hk5 HX.out (by omega))
           replace HP := Aside0.mk hp5
           have hs5 := Kept.size hk5
           try simp at hs5)
          | (
           go_at_call 41
           (with_reducible refine Calls.mono (take_no sRpar HP.out HT4.out) ?_)
           rintro en w6 ⟨he6, hk6, hp6⟩
           subst he6
           replace HK := Aside0.mk (Kept.then_ HK.out hk6)
           replace HR := Aside0.mk (Kept.has hk6 HR.out (by omega))
           replace HX := Aside0.mk (Kept.has hk6 HX.out (by omega))
           replace HP := Aside0.mk hp6
           have hs6 := Kept.size hk6
           try simp at hs6)
          | (
           go_at_call 18
           (with_reducible refine Calls.mono (HTT.out g e (d + 1) true l.tail _ (by omega) (by omega) HP.out (by rw [HRR.out]; exact PR.bad_ne _ _)) ?_)
           rintro en w7 ⟨hk7, he7⟩
           rw [HRR.out] at he7
           subst he7
           replace HK := Aside0.mk (Kept.then_ HK.out hk7)
           replace HR := Aside0.mk (Kept.has hk7 HR.out (by omega))
           replace HX := Aside0.mk (Kept.has hk7 HX.out (by omega))
           have hs7 := Kept.size hk7
           try simp at hs7))
        rw [HEQ.out]
        exact ⟨rfl, HK.out, rfl⟩
       | ok x l1 =>
        have HRR := Aside0.mk hr
        rw [hr] at HEQ
        simp only [PR.andThen] at HEQ
        clear hr
        cases hk : isP sRpar l1 with
        | true =>
         replace HEQ := Aside0.mk (HEQ.out.trans (if_pos hk))
         have HT5 := Aside0.mk hk
         clear hk
         go_wp2_with (first
           | (
            go_at_call 19
            (with_reducible refine Calls.mono (kind_ps HP.out) ?_)
            rintro en w2 ⟨he2, hb2⟩
            rw [HKQ.out] at he2
            subst he2
            replace HK := Aside0.mk (Kept.below HK.out hb2)
            replace HP := Aside0.mk (HP.out.below hb2)
            replace HR := Aside0.mk (HR.out.belowS hb2)
            replace HX := Aside0.mk (HX.out.belowS hb2)
            have hs2 := Below.size hb2
            try simp at hs2)
           | (
            go_at_call 41
            (with_reducible refine Calls.mono (take_no sTrue HP.out HT1.out) ?_)
            rintro en w3 ⟨he3, hk3, hp3⟩
            subst he3
            replace HK := Aside0.mk (Kept.then_ HK.out hk3)
            replace HR := Aside0.mk (Kept.has hk3 HR.out (by omega))
            replace HX := Aside0.mk (Kept.has hk3 HX.out (by omega))
            replace HP := Aside0.mk hp3
            have hs3 := Kept.size hk3
            try simp at hs3)
           | (
            go_at_call 41
            (with_reducible refine Calls.mono (take_no sFalse HP.out HT2.out) ?_)
            rintro en w4 ⟨he4, hk4, hp4⟩
            subst he4
            replace HK := Aside0.mk (Kept.then_ HK.out hk4)
            replace HR := Aside0.mk (Kept.has hk4 HR.out (by omega))
            replace HX := Aside0.mk (Kept.has hk4 HX.out (by omega))
            replace HP := Aside0.mk hp4
            have hs4 := Kept.size hk4
            try simp at hs4)
           | (
            go_at_call 41
            (with_reducible refine Calls.mono (take_yes sLpar HP.out HT3.out) ?_)
            rintro en w5 ⟨he5, hk5, hp5⟩
            subst he5
            replace HK := Aside0.mk (Kept.then_ HK.out hk5)
            replace HR := Aside0.mk (Kept.has hk5 HR.out (by omega))
            replace HX := Aside0.mk (Kept.has hk5 HX.out (by omega))
            replace HP := Aside0.mk hp5
            have hs5 := Kept.size hk5
            try simp at hs5)
           | (
            go_at_call 41
            (with_reducible refine Calls.mono (take_no sRpar HP.out HT4.out) ?_)
            rintro en w6 ⟨he6, hk6, hp6⟩
            subst he6
            replace HK := Aside0.mk (Kept.then_ HK.out hk6)
            replace HR := Aside0.mk (Kept.has hk6 HR.out (by omega))
            replace HX := Aside0.mk (Kept.has hk6 HX.out (by omega))
            replace HP := Aside0.mk hp6
            have hs6 := Kept.size hk6
            try simp at hs6)
           | (
            go_at_call 18
            (with_reducible refine Calls.mono (HTT.out g e (d + 1) true l.tail _ (by omega) (by omega) HP.out (by rw [HRR.out]; exact PR.ok_ne _ _)) ?_)
            rintro en w7 ⟨hk7, he7⟩
            rw [HRR.out] at he7
            obtain ⟨v7, rfl, hv7, hp7⟩ := he7
            obtain ⟨a4, ac4, a5, ac5, a9, ac9, rfl⟩ := VO.form hv7
            have HV := Aside0.mk hv7
            replace HK := Aside0.mk (Kept.then_ HK.out hk7)
            replace HR := Aside0.mk (Kept.has hk7 HR.out (by omega))
            replace HX := Aside0.mk (Kept.has hk7 HX.out (by omega))
            replace HP := Aside0.mk hp7
            have hs7 := Kept.size hk7
            try simp at hs7)
           | (
            (with_reducible refine gate_store (t := 27) (p := 7) rfl ?_)
            go_must (refine store_event (t := 27) (p := 7) (v := .tmp 45) (w1 := w7.setRow (w1.heap.size) #[.int .i64 x.f0, .int .i64 x.f1, .int .i64 x.f2, .string x.f3, .slice a4 x.f4.length ac4, .slice a5 x.f5.length ac5, .int .i64 x.f6.f0, .string x.f6.f1, .int .i64 x.f6.f2, .slice a9 x.f6.f3.length ac9]) ?hg ?ho ?hn ?hr ?_; (case ho => rfl); (case hg => rfl); (case hn => rfl); (case hr => exact store27 w7 _ _ _ HX.out rfl rfl (by first | kernel_rfl | (simp [Value.oneCell'])) _ _ _ _ rfl rfl rfl); intro w77 hw77; subst hw77))
           | (
            go_at_call 42
            replace HK := Aside0.mk (kept_rowX HK.out (g := w1.heap.size) (.inr (by show w.heap.size ≤ w1.heap.size; omega)) #[.int .i64 x.f0, .int .i64 x.f1, .int .i64 x.f2, .string x.f3, .slice a4 x.f4.length ac4, .slice a5 x.f5.length ac5, .int .i64 x.f6.f0, .string x.f6.f1, .int .i64 x.f6.f2, .slice a9 x.f6.f3.length ac9])
            replace HP := Aside0.mk (PS.rowP HP.out HX.out #[.int .i64 x.f0, .int .i64 x.f1, .int .i64 x.f2, .string x.f3, .slice a4 x.f4.length ac4, .slice a5 x.f5.length ac5, .int .i64 x.f6.f0, .string x.f6.f1, .int .i64 x.f6.f2, .slice a9 x.f6.f3.length ac9])
            replace HR := Aside0.mk (has_row_other HR.out (g := w1.heap.size) (cs' := #[.int .i64 x.f0, .int .i64 x.f1, .int .i64 x.f2, .string x.f3, .slice a4 x.f4.length ac4, .slice a5 x.f5.length ac5, .int .i64 x.f6.f0, .string x.f6.f1, .int .i64 x.f6.f2, .slice a9 x.f6.f3.length ac9]) (by omega))
            replace HV := Aside0.mk (VO.rowO HV.out (g := w1.heap.size) (fun kk h1 h2 => by omega) #[.int .i64 x.f0, .int .i64 x.f1, .int .i64 x.f2, .string x.f3, .slice a4 x.f4.length ac4, .slice a5 x.f5.length ac5, .int .i64 x.f6.f0, .string x.f6.f1, .int .i64 x.f6.f2, .slice a9 x.f6.f3.length ac9])
            replace HX := Aside0.mk (has_row HX.out #[.int .i64 x.f0, .int .i64 x.f1, .int .i64 x.f2, .string x.f3, .slice a4 x.f4.length ac4, .slice a5 x.f5.length ac5, .int .i64 x.f6.f0, .string x.f6.f1, .int .i64 x.f6.f2, .slice a9 x.f6.f3.length ac9])
            (with_reducible refine Calls.mono (need_yes sRpar HP.out HT5.out) ?_)
            rintro en w8 ⟨he8, hk8, hp8⟩
            subst he8
            replace HK := Aside0.mk (Kept.then_ HK.out hk8)
            replace HR := Aside0.mk (Kept.has hk8 HR.out (by omega))
            replace HX := Aside0.mk (Kept.has hk8 HX.out (by omega))
            replace HV := Aside0.mk (VO.kps HV.out HP.out hk8)
            replace HP := Aside0.mk hp8
            have hs8 := Kept.size hk8
            try simp at hs8))
         go_meet
         case rel => exact ⟨_, _, _, HEQ, HK, HP, HR, HX, ⟨HV.out.lower (by omega)⟩⟩
        | false =>
         replace HEQ := Aside0.mk (HEQ.out.trans (if_neg (by rw [hk]; decide)))
         have HT5 := Aside0.mk hk
         clear hk
         go_wp2_with (first
           | (
            go_at_call 19
            (with_reducible refine Calls.mono (kind_ps HP.out) ?_)
            rintro en w2 ⟨he2, hb2⟩
            rw [HKQ.out] at he2
            subst he2
            replace HK := Aside0.mk (Kept.below HK.out hb2)
            replace HP := Aside0.mk (HP.out.below hb2)
            replace HR := Aside0.mk (HR.out.belowS hb2)
            replace HX := Aside0.mk (HX.out.belowS hb2)
            have hs2 := Below.size hb2
            try simp at hs2)
           | (
            go_at_call 41
            (with_reducible refine Calls.mono (take_no sTrue HP.out HT1.out) ?_)
            rintro en w3 ⟨he3, hk3, hp3⟩
            subst he3
            replace HK := Aside0.mk (Kept.then_ HK.out hk3)
            replace HR := Aside0.mk (Kept.has hk3 HR.out (by omega))
            replace HX := Aside0.mk (Kept.has hk3 HX.out (by omega))
            replace HP := Aside0.mk hp3
            have hs3 := Kept.size hk3
            try simp at hs3)
           | (
            go_at_call 41
            (with_reducible refine Calls.mono (take_no sFalse HP.out HT2.out) ?_)
            rintro en w4 ⟨he4, hk4, hp4⟩
            subst he4
            replace HK := Aside0.mk (Kept.then_ HK.out hk4)
            replace HR := Aside0.mk (Kept.has hk4 HR.out (by omega))
            replace HX := Aside0.mk (Kept.has hk4 HX.out (by omega))
            replace HP := Aside0.mk hp4
            have hs4 := Kept.size hk4
            try simp at hs4)
           | (
            go_at_call 41
            (with_reducible refine Calls.mono (take_yes sLpar HP.out HT3.out) ?_)
            rintro en w5 ⟨he5, hk5, hp5⟩
            subst he5
            replace HK := Aside0.mk (Kept.then_ HK.out hk5)
            replace HR := Aside0.mk (Kept.has hk5 HR.out (by omega))
            replace HX := Aside0.mk (Kept.has hk5 HX.out (by omega))
            replace HP := Aside0.mk hp5
            have hs5 := Kept.size hk5
            try simp at hs5)
           | (
            go_at_call 41
            (with_reducible refine Calls.mono (take_no sRpar HP.out HT4.out) ?_)
            rintro en w6 ⟨he6, hk6, hp6⟩
            subst he6
            replace HK := Aside0.mk (Kept.then_ HK.out hk6)
            replace HR := Aside0.mk (Kept.has hk6 HR.out (by omega))
            replace HX := Aside0.mk (Kept.has hk6 HX.out (by omega))
            replace HP := Aside0.mk hp6
            have hs6 := Kept.size hk6
            try simp at hs6)
           | (
            go_at_call 18
            (with_reducible refine Calls.mono (HTT.out g e (d + 1) true l.tail _ (by omega) (by omega) HP.out (by rw [HRR.out]; exact PR.ok_ne _ _)) ?_)
            rintro en w7 ⟨hk7, he7⟩
            rw [HRR.out] at he7
            obtain ⟨v7, rfl, hv7, hp7⟩ := he7
            obtain ⟨a4, ac4, a5, ac5, a9, ac9, rfl⟩ := VO.form hv7
            have HV := Aside0.mk hv7
            replace HK := Aside0.mk (Kept.then_ HK.out hk7)
            replace HR := Aside0.mk (Kept.has hk7 HR.out (by omega))
            replace HX := Aside0.mk (Kept.has hk7 HX.out (by omega))
            replace HP := Aside0.mk hp7
            have hs7 := Kept.size hk7
            try simp at hs7)
           | (
            (with_reducible refine gate_store (t := 27) (p := 7) rfl ?_)
            go_must (refine store_event (t := 27) (p := 7) (v := .tmp 45) (w1 := w7.setRow (w1.heap.size) #[.int .i64 x.f0, .int .i64 x.f1, .int .i64 x.f2, .string x.f3, .slice a4 x.f4.length ac4, .slice a5 x.f5.length ac5, .int .i64 x.f6.f0, .string x.f6.f1, .int .i64 x.f6.f2, .slice a9 x.f6.f3.length ac9]) ?hg ?ho ?hn ?hr ?_; (case ho => rfl); (case hg => rfl); (case hn => rfl); (case hr => exact store27 w7 _ _ _ HX.out rfl rfl (by first | kernel_rfl | (simp [Value.oneCell'])) _ _ _ _ rfl rfl rfl); intro w77 hw77; subst hw77))
           | (
            go_at_call 42
            replace HK := Aside0.mk (kept_rowX HK.out (g := w1.heap.size) (.inr (by show w.heap.size ≤ w1.heap.size; omega)) #[.int .i64 x.f0, .int .i64 x.f1, .int .i64 x.f2, .string x.f3, .slice a4 x.f4.length ac4, .slice a5 x.f5.length ac5, .int .i64 x.f6.f0, .string x.f6.f1, .int .i64 x.f6.f2, .slice a9 x.f6.f3.length ac9])
            replace HP := Aside0.mk (PS.rowP HP.out HX.out #[.int .i64 x.f0, .int .i64 x.f1, .int .i64 x.f2, .string x.f3, .slice a4 x.f4.length ac4, .slice a5 x.f5.length ac5, .int .i64 x.f6.f0, .string x.f6.f1, .int .i64 x.f6.f2, .slice a9 x.f6.f3.length ac9])
            replace HR := Aside0.mk (has_row_other HR.out (g := w1.heap.size) (cs' := #[.int .i64 x.f0, .int .i64 x.f1, .int .i64 x.f2, .string x.f3, .slice a4 x.f4.length ac4, .slice a5 x.f5.length ac5, .int .i64 x.f6.f0, .string x.f6.f1, .int .i64 x.f6.f2, .slice a9 x.f6.f3.length ac9]) (by omega))
            replace HV := Aside0.mk (VO.rowO HV.out (g := w1.heap.size) (fun kk h1 h2 => by omega) #[.int .i64 x.f0, .int .i64 x.f1, .int .i64 x.f2, .string x.f3, .slice a4 x.f4.length ac4, .slice a5 x.f5.length ac5, .int .i64 x.f6.f0, .string x.f6.f1, .int .i64 x.f6.f2, .slice a9 x.f6.f3.length ac9])
            replace HX := Aside0.mk (has_row HX.out #[.int .i64 x.f0, .int .i64 x.f1, .int .i64 x.f2, .string x.f3, .slice a4 x.f4.length ac4, .slice a5 x.f5.length ac5, .int .i64 x.f6.f0, .string x.f6.f1, .int .i64 x.f6.f2, .slice a9 x.f6.f3.length ac9])
            (with_reducible refine Calls.mono (need_no sRpar HP.out HT5.out) ?_)
            rintro en w8 ⟨he8, hk8⟩
            subst he8
            replace HK := Aside0.mk (Kept.then_ HK.out hk8)
            replace HR := Aside0.mk (Kept.has hk8 HR.out (by omega))
            replace HX := Aside0.mk (Kept.has hk8 HX.out (by omega))
            replace HV := Aside0.mk (VO.kps HV.out HP.out hk8)
            have hs8 := Kept.size hk8
            try simp at hs8))
         rw [HEQ.out]
         exact ⟨rfl, HK.out, rfl⟩
     | false =>
      replace HEQ := Aside0.mk (HEQ.out.trans (if_neg (by rw [hi]; decide)))
      have HT3 := Aside0.mk hi
      clear hi
      cases hi : isP sLbra l with
      | true =>
       replace HEQ := Aside0.mk (HEQ.out.trans (if_pos hi))
       have HT4 := Aside0.mk hi
       clear hi
       cases hr : arrayP e n d a0 l.tail with
       | out => exact absurd (HEQ.out.trans hr) HNE.out
       | bad b er =>
        have HRR := Aside0.mk hr
        replace HEQ := Aside0.mk (HEQ.out.trans hr)
        clear hr
        go_wp2_with (first
          | (
           go_at_call 19
           (with_reducible refine Calls.mono (kind_ps HP.out) ?_)
           rintro en w2 ⟨he2, hb2⟩
           rw [HKQ.out] at he2
           subst he2
           replace HK := Aside0.mk (Kept.below HK.out hb2)
           replace HP := Aside0.mk (HP.out.below hb2)
           replace HR := Aside0.mk (HR.out.belowS hb2)
           replace HX := Aside0.mk (HX.out.belowS hb2)
           have hs2 := Below.size hb2
           try simp at hs2)
          | (
           go_at_call 41
           (with_reducible refine Calls.mono (take_no sTrue HP.out HT1.out) ?_)
           rintro en w3 ⟨he3, hk3, hp3⟩
           subst he3
           replace HK := Aside0.mk (Kept.then_ HK.out hk3)
           replace HR := Aside0.mk (Kept.has hk3 HR.out (by omega))
           replace HX := Aside0.mk (Kept.has hk3 HX.out (by omega))
           replace HP := Aside0.mk hp3
           have hs3 := Kept.size hk3
           try simp at hs3)
          | (
           go_at_call 41
           (with_reducible refine Calls.mono (take_no sFalse HP.out HT2.out) ?_)
           rintro en w4 ⟨he4, hk4, hp4⟩
           subst he4
           replace HK := Aside0.mk (Kept.then_ HK.out hk4)
           replace HR := Aside0.mk (Kept.has hk4 HR.out (by omega))
           replace HX := Aside0.mk (Kept.has hk4 HX.out (by omega))
           replace HP := Aside0.mk hp4
           have hs4 := Kept.size hk4
           try simp at hs4)
          | (
           go_at_call 41
           (with_reducible refine Calls.mono (take_no sLpar HP.out HT3.out) ?_)
           rintro en w5 ⟨he5, hk5, hp5⟩
           subst he5
           replace HK := Aside0.mk (Kept.then_ HK.out hk5)
           replace HR := Aside0.mk (Kept.has hk5 HR.out (by omega))
           replace HX := Aside0.mk (Kept.has hk5 HX.out (by omega))
           replace HP := Aside0.mk hp5
           have hs5 := Kept.size hk5
           try simp at hs5)
          | (
           go_at_call 41
           (with_reducible refine Calls.mono (take_yes sLbra HP.out HT4.out) ?_)
           rintro en w6 ⟨he6, hk6, hp6⟩
           subst he6
           replace HK := Aside0.mk (Kept.then_ HK.out hk6)
           replace HR := Aside0.mk (Kept.has hk6 HR.out (by omega))
           replace HX := Aside0.mk (Kept.has hk6 HX.out (by omega))
           replace HP := Aside0.mk hp6
           have hs6 := Kept.size hk6
           try simp at hs6)
          | (
           go_at_call 85
           (with_reducible refine Calls.mono (HAA.out g e d _ a0 l.tail _ h0 h1 HP.out HX.out (by rw [HRR.out]; exact PR.bad_ne _ _)) ?_)
           rintro en w7 ⟨hk7, he7⟩
           rw [HRR.out] at he7
           subst he7
           replace HK := Aside0.mk (Kept.thenX HK.out hk7 rfl (.inr ⟨by omega, HX.out.lt⟩))))
        rw [HEQ.out]
        exact ⟨rfl, HK.out, rfl⟩
       | ok x l1 =>
        have HRR := Aside0.mk hr
        replace HEQ := Aside0.mk (HEQ.out.trans hr)
        clear hr
        go_wp2_with (first
          | (
           go_at_call 19
           (with_reducible refine Calls.mono (kind_ps HP.out) ?_)
           rintro en w2 ⟨he2, hb2⟩
           rw [HKQ.out] at he2
           subst he2
           replace HK := Aside0.mk (Kept.below HK.out hb2)
           replace HP := Aside0.mk (HP.out.below hb2)
           replace HR := Aside0.mk (HR.out.belowS hb2)
           replace HX := Aside0.mk (HX.out.belowS hb2)
           have hs2 := Below.size hb2
           try simp at hs2)
          | (
           go_at_call 41
           (with_reducible refine Calls.mono (take_no sTrue HP.out HT1.out) ?_)
           rintro en w3 ⟨he3, hk3, hp3⟩
           subst he3
           replace HK := Aside0.mk (Kept.then_ HK.out hk3)
           replace HR := Aside0.mk (Kept.has hk3 HR.out (by omega))
           replace HX := Aside0.mk (Kept.has hk3 HX.out (by omega))
           replace HP := Aside0.mk hp3
           have hs3 := Kept.size hk3
           try simp at hs3)
          | (
           go_at_call 41
           (with_reducible refine Calls.mono (take_no sFalse HP.out HT2.out) ?_)
           rintro en w4 ⟨he4, hk4, hp4⟩
           subst he4
           replace HK := Aside0.mk (Kept.then_ HK.out hk4)
           replace HR := Aside0.mk (Kept.has hk4 HR.out (by omega))
           replace HX := Aside0.mk (Kept.has hk4 HX.out (by omega))
           replace HP := Aside0.mk hp4
           have hs4 := Kept.size hk4
           try simp at hs4)
          | (
           go_at_call 41
           (with_reducible refine Calls.mono (take_no sLpar HP.out HT3.out) ?_)
           rintro en w5 ⟨he5, hk5, hp5⟩
           subst he5
           replace HK := Aside0.mk (Kept.then_ HK.out hk5)
           replace HR := Aside0.mk (Kept.has hk5 HR.out (by omega))
           replace HX := Aside0.mk (Kept.has hk5 HX.out (by omega))
           replace HP := Aside0.mk hp5
           have hs5 := Kept.size hk5
           try simp at hs5)
          | (
           go_at_call 41
           (with_reducible refine Calls.mono (take_yes sLbra HP.out HT4.out) ?_)
           rintro en w6 ⟨he6, hk6, hp6⟩
           subst he6
           replace HK := Aside0.mk (Kept.then_ HK.out hk6)
           replace HR := Aside0.mk (Kept.has hk6 HR.out (by omega))
           replace HX := Aside0.mk (Kept.has hk6 HX.out (by omega))
           replace HP := Aside0.mk hp6
           have hs6 := Kept.size hk6
           try simp at hs6)
          | (
           go_at_call 85
           (with_reducible refine Calls.mono (HAA.out g e d _ a0 l.tail _ h0 h1 HP.out HX.out (by rw [HRR.out]; exact PR.ok_ne _ _)) ?_)
           rintro en w7 ⟨hk7, he7⟩
           rw [HRR.out] at he7
           obtain ⟨rfl, ⟨cs7, hx7, hv7⟩, hp7⟩ := he7
           replace HK := Aside0.mk (Kept.thenX HK.out hk7 rfl (.inr ⟨by omega, HX.out.lt⟩))
           replace HR := Aside0.mk (Kept.has hk7 HR.out (by rintro (h | h) <;> omega))
           replace HX := Aside0.mk hx7
           replace HP := Aside0.mk hp7
           have HV := Aside0.mk hv7
           have hs7 := Kept.size hk7
           try simp at hs7))
        go_meet
        case rel => exact ⟨_, _, _, HEQ, HK, HP, HR, HX, ⟨HV.out.lower (by omega)⟩⟩
      | false =>
       replace HEQ := Aside0.mk (HEQ.out.trans (if_neg (by rw [hi]; decide)))
       have HT4 := Aside0.mk hi
       clear hi
       cases hi : oneP [sIf, sMatch, sLbrace] l with
       | true =>
        replace HEQ := Aside0.mk (HEQ.out.trans (if_pos hi))
        have HT5 := Aside0.mk hi
        clear hi
        cases hr : closedP e n (d + 1) l with
        | out => exact absurd (HEQ.out.trans hr) HNE.out
        | bad b er =>
         have HRR := Aside0.mk hr
         replace HEQ := Aside0.mk (HEQ.out.trans hr)
         clear hr
         go_wp2_with (first
           | (
            go_at_call 19
            (with_reducible refine Calls.mono (kind_ps HP.out) ?_)
            rintro en w2 ⟨he2, hb2⟩
            rw [HKQ.out] at he2
            subst he2
            replace HK := Aside0.mk (Kept.below HK.out hb2)
            replace HP := Aside0.mk (HP.out.below hb2)
            replace HR := Aside0.mk (HR.out.belowS hb2)
            replace HX := Aside0.mk (HX.out.belowS hb2)
            have hs2 := Below.size hb2
            try simp at hs2)
           | (
            go_at_call 41
            (with_reducible refine Calls.mono (take_no sTrue HP.out HT1.out) ?_)
            rintro en w3 ⟨he3, hk3, hp3⟩
            subst he3
            replace HK := Aside0.mk (Kept.then_ HK.out hk3)
            replace HR := Aside0.mk (Kept.has hk3 HR.out (by omega))
            replace HX := Aside0.mk (Kept.has hk3 HX.out (by omega))
            replace HP := Aside0.mk hp3
            have hs3 := Kept.size hk3
            try simp at hs3)
           | (
            go_at_call 41
            (with_reducible refine Calls.mono (take_no sFalse HP.out HT2.out) ?_)
            rintro en w4 ⟨he4, hk4, hp4⟩
            subst he4
            replace HK := Aside0.mk (Kept.then_ HK.out hk4)
            replace HR := Aside0.mk (Kept.has hk4 HR.out (by omega))
            replace HX := Aside0.mk (Kept.has hk4 HX.out (by omega))
            replace HP := Aside0.mk hp4
            have hs4 := Kept.size hk4
            try simp at hs4)
           | (
            go_at_call 41
            (with_reducible refine Calls.mono (take_no sLpar HP.out HT3.out) ?_)
            rintro en w5 ⟨he5, hk5, hp5⟩
            subst he5
            replace HK := Aside0.mk (Kept.then_ HK.out hk5)
            replace HR := Aside0.mk (Kept.has hk5 HR.out (by omega))
            replace HX := Aside0.mk (Kept.has hk5 HX.out (by omega))
            replace HP := Aside0.mk hp5
            have hs5 := Kept.size hk5
            try simp at hs5)
           | (
            go_at_call 41
            (with_reducible refine Calls.mono (take_no sLbra HP.out HT4.out) ?_)
            rintro en w6 ⟨he6, hk6, hp6⟩
            subst he6
            replace HK := Aside0.mk (Kept.then_ HK.out hk6)
            replace HR := Aside0.mk (Kept.has hk6 HR.out (by omega))
            replace HX := Aside0.mk (Kept.has hk6 HX.out (by omega))
            replace HP := Aside0.mk hp6
            have hs6 := Kept.size hk6
            try simp at hs6)
           | (
            go_at_call 61
            replace HK := Aside0.mk (Kept.alloc HK.out (Obj.cells ([sIf, sMatch, sLbrace].map Value.string).toArray 9))
            replace HP := Aside0.mk (HP.out.below (below_alloc (Below.refl (w6).heap.size (w6)) (Obj.cells ([sIf, sMatch, sLbrace].map Value.string).toArray 9)))
            replace HR := Aside0.mk (Has.alloc HR.out (Obj.cells ([sIf, sMatch, sLbrace].map Value.string).toArray 9))
            replace HX := Aside0.mk (Has.alloc HX.out (Obj.cells ([sIf, sMatch, sLbrace].map Value.string).toArray 9))
            refine Calls.mono (one_ps [sIf, sMatch, sLbrace] (some ⟨w6.heap.size, 0, none⟩) 3 HP.out (lit_S w6 [sIf, sMatch, sLbrace] (by decide)) (by decide)) ?_
            rintro en w7 ⟨he7, hb7⟩
            rw [HT5.out] at he7
            subst he7
            replace HK := Aside0.mk (Kept.below HK.out hb7)
            replace HP := Aside0.mk (HP.out.below hb7)
            replace HR := Aside0.mk (HR.out.belowS hb7)
            replace HX := Aside0.mk (HX.out.belowS hb7)
            have hs7 := Below.size hb7
            try simp at hs7)
           | (
            go_at_call 76
            (with_reducible refine Calls.mono (HCC.out g e (d + 1) l _ (by omega) (by omega) HP.out (by rw [HRR.out]; exact PR.bad_ne _ _)) ?_)
            rintro en w8 ⟨hk8, he8⟩
            rw [HRR.out] at he8
            subst he8
            replace HK := Aside0.mk (Kept.then_ HK.out hk8)
            replace HR := Aside0.mk (Kept.has hk8 HR.out (by omega))
            replace HX := Aside0.mk (Kept.has hk8 HX.out (by omega))
            have hs8 := Kept.size hk8
            try simp at hs8))
         rw [HEQ.out]
         exact ⟨rfl, HK.out, rfl⟩
        | ok x l1 =>
         have HRR := Aside0.mk hr
         replace HEQ := Aside0.mk (HEQ.out.trans hr)
         clear hr
         go_wp2_with (first
           | (
            go_at_call 19
            (with_reducible refine Calls.mono (kind_ps HP.out) ?_)
            rintro en w2 ⟨he2, hb2⟩
            rw [HKQ.out] at he2
            subst he2
            replace HK := Aside0.mk (Kept.below HK.out hb2)
            replace HP := Aside0.mk (HP.out.below hb2)
            replace HR := Aside0.mk (HR.out.belowS hb2)
            replace HX := Aside0.mk (HX.out.belowS hb2)
            have hs2 := Below.size hb2
            try simp at hs2)
           | (
            go_at_call 41
            (with_reducible refine Calls.mono (take_no sTrue HP.out HT1.out) ?_)
            rintro en w3 ⟨he3, hk3, hp3⟩
            subst he3
            replace HK := Aside0.mk (Kept.then_ HK.out hk3)
            replace HR := Aside0.mk (Kept.has hk3 HR.out (by omega))
            replace HX := Aside0.mk (Kept.has hk3 HX.out (by omega))
            replace HP := Aside0.mk hp3
            have hs3 := Kept.size hk3
            try simp at hs3)
           | (
            go_at_call 41
            (with_reducible refine Calls.mono (take_no sFalse HP.out HT2.out) ?_)
            rintro en w4 ⟨he4, hk4, hp4⟩
            subst he4
            replace HK := Aside0.mk (Kept.then_ HK.out hk4)
            replace HR := Aside0.mk (Kept.has hk4 HR.out (by omega))
            replace HX := Aside0.mk (Kept.has hk4 HX.out (by omega))
            replace HP := Aside0.mk hp4
            have hs4 := Kept.size hk4
            try simp at hs4)
           | (
            go_at_call 41
            (with_reducible refine Calls.mono (take_no sLpar HP.out HT3.out) ?_)
            rintro en w5 ⟨he5, hk5, hp5⟩
            subst he5
            replace HK := Aside0.mk (Kept.then_ HK.out hk5)
            replace HR := Aside0.mk (Kept.has hk5 HR.out (by omega))
            replace HX := Aside0.mk (Kept.has hk5 HX.out (by omega))
            replace HP := Aside0.mk hp5
            have hs5 := Kept.size hk5
            try simp at hs5)
           | (
            go_at_call 41
            (with_reducible refine Calls.mono (take_no sLbra HP.out HT4.out) ?_)
            rintro en w6 ⟨he6, hk6, hp6⟩
            subst he6
            replace HK := Aside0.mk (Kept.then_ HK.out hk6)
            replace HR := Aside0.mk (Kept.has hk6 HR.out (by omega))
            replace HX := Aside0.mk (Kept.has hk6 HX.out (by omega))
            replace HP := Aside0.mk hp6
            have hs6 := Kept.size hk6
            try simp at hs6)
           | (
            go_at_call 61
            replace HK := Aside0.mk (Kept.alloc HK.out (Obj.cells ([sIf, sMatch, sLbrace].map Value.string).toArray 9))
            replace HP := Aside0.mk (HP.out.below (below_alloc (Below.refl (w6).heap.size (w6)) (Obj.cells ([sIf, sMatch, sLbrace].map Value.string).toArray 9)))
            replace HR := Aside0.mk (Has.alloc HR.out (Obj.cells ([sIf, sMatch, sLbrace].map Value.string).toArray 9))
            replace HX := Aside0.mk (Has.alloc HX.out (Obj.cells ([sIf, sMatch, sLbrace].map Value.string).toArray 9))
            refine Calls.mono (one_ps [sIf, sMatch, sLbrace] (some ⟨w6.heap.size, 0, none⟩) 3 HP.out (lit_S w6 [sIf, sMatch, sLbrace] (by decide)) (by decide)) ?_
            rintro en w7 ⟨he7, hb7⟩
            rw [HT5.out] at he7
            subst he7
            replace HK := Aside0.mk (Kept.below HK.out hb7)
            replace HP := Aside0.mk (HP.out.below hb7)
            replace HR := Aside0.mk (HR.out.belowS hb7)
            replace HX := Aside0.mk (HX.out.belowS hb7)
            have hs7 := Below.size hb7
            try simp at hs7)
           | (
            go_at_call 76
            (with_reducible refine Calls.mono (HCC.out g e (d + 1) l _ (by omega) (by omega) HP.out (by rw [HRR.out]; exact PR.ok_ne _ _)) ?_)
            rintro en w8 ⟨hk8, he8⟩
            rw [HRR.out] at he8
            obtain ⟨v8, rfl, hv8, hp8⟩ := he8
            obtain ⟨a4, ac4, a5, ac5, a9, ac9, rfl⟩ := VO.form hv8
            have HV := Aside0.mk hv8
            replace HK := Aside0.mk (Kept.then_ HK.out hk8)
            replace HR := Aside0.mk (Kept.has hk8 HR.out (by omega))
            replace HX := Aside0.mk (Kept.has hk8 HX.out (by omega))
            replace HP := Aside0.mk hp8
            have hs8 := Kept.size hk8
            try simp at hs8)
           | (
            (with_reducible refine gate_store (t := 27) (p := 6) rfl ?_)
            go_must (refine store_event (t := 27) (p := 6) (v := .tmp 61) (w1 := w8.setRow (w.heap.size) #[.int .i64 x.f0, .int .i64 x.f1, .int .i64 x.f2, .string x.f3, .slice a4 x.f4.length ac4, .slice a5 x.f5.length ac5, .int .i64 x.f6.f0, .string x.f6.f1, .int .i64 x.f6.f2, .slice a9 x.f6.f3.length ac9]) ?hg ?ho ?hn ?hr ?_; (case ho => rfl); (case hg => rfl); (case hn => rfl); (case hr => exact store27 w8 _ _ _ HR.out rfl rfl (by first | kernel_rfl | (simp [Value.oneCell'])) _ _ _ _ rfl rfl rfl); intro w77 hw77; subst hw77)))
         replace HK := Aside0.mk (kept_rowX HK.out (g := w.heap.size) (.inr (by show w.heap.size ≤ w.heap.size; omega)) #[.int .i64 x.f0, .int .i64 x.f1, .int .i64 x.f2, .string x.f3, .slice a4 x.f4.length ac4, .slice a5 x.f5.length ac5, .int .i64 x.f6.f0, .string x.f6.f1, .int .i64 x.f6.f2, .slice a9 x.f6.f3.length ac9])
         replace HP := Aside0.mk (PS.rowP HP.out HR.out #[.int .i64 x.f0, .int .i64 x.f1, .int .i64 x.f2, .string x.f3, .slice a4 x.f4.length ac4, .slice a5 x.f5.length ac5, .int .i64 x.f6.f0, .string x.f6.f1, .int .i64 x.f6.f2, .slice a9 x.f6.f3.length ac9])
         replace HX := Aside0.mk (has_row_other HX.out (g := w.heap.size) (cs' := #[.int .i64 x.f0, .int .i64 x.f1, .int .i64 x.f2, .string x.f3, .slice a4 x.f4.length ac4, .slice a5 x.f5.length ac5, .int .i64 x.f6.f0, .string x.f6.f1, .int .i64 x.f6.f2, .slice a9 x.f6.f3.length ac9]) (by omega))
         replace HV := Aside0.mk (VO.rowO HV.out (g := w.heap.size) (fun kk h1 h2 => by omega) #[.int .i64 x.f0, .int .i64 x.f1, .int .i64 x.f2, .string x.f3, .slice a4 x.f4.length ac4, .slice a5 x.f5.length ac5, .int .i64 x.f6.f0, .string x.f6.f1, .int .i64 x.f6.f2, .slice a9 x.f6.f3.length ac9])
         replace HR := Aside0.mk (has_row HR.out #[.int .i64 x.f0, .int .i64 x.f1, .int .i64 x.f2, .string x.f3, .slice a4 x.f4.length ac4, .slice a5 x.f5.length ac5, .int .i64 x.f6.f0, .string x.f6.f1, .int .i64 x.f6.f2, .slice a9 x.f6.f3.length ac9])
         refine bodyPost_ret (results_cell_row rfl _ _ w.heap.size 27 #[.int .i64 x.f0, .int .i64 x.f1, .int .i64 x.f2, .string x.f3, .slice a4 x.f4.length ac4, .slice a5 x.f5.length ac5, .int .i64 x.f6.f0, .string x.f6.f1, .int .i64 x.f6.f2, .slice a9 x.f6.f3.length ac9] (0, 0) _ rfl HR.out Tryd.underlying27 rfl (by rfl)) rfl ?_
         rw [HEQ.out]
         exact ⟨HK.out, _, rfl, HV.out.lower (by omega), HP.out⟩
       | false =>
        replace HEQ := Aside0.mk (HEQ.out.trans (if_neg (by rw [hi]; decide)))
        have HT5 := Aside0.mk hi
        clear hi
        cases hr : namedP e n d op l with
        | out => exact absurd (HEQ.out.trans hr) HNE.out
        | bad b er =>
         have HRR := Aside0.mk hr
         replace HEQ := Aside0.mk (HEQ.out.trans hr)
         clear hr
         go_wp2_with (first
           | (
            go_at_call 19
            (with_reducible refine Calls.mono (kind_ps HP.out) ?_)
            rintro en w2 ⟨he2, hb2⟩
            rw [HKQ.out] at he2
            subst he2
            replace HK := Aside0.mk (Kept.below HK.out hb2)
            replace HP := Aside0.mk (HP.out.below hb2)
            replace HR := Aside0.mk (HR.out.belowS hb2)
            replace HX := Aside0.mk (HX.out.belowS hb2)
            have hs2 := Below.size hb2
            try simp at hs2)
           | (
            go_at_call 41
            (with_reducible refine Calls.mono (take_no sTrue HP.out HT1.out) ?_)
            rintro en w3 ⟨he3, hk3, hp3⟩
            subst he3
            replace HK := Aside0.mk (Kept.then_ HK.out hk3)
            replace HR := Aside0.mk (Kept.has hk3 HR.out (by omega))
            replace HX := Aside0.mk (Kept.has hk3 HX.out (by omega))
            replace HP := Aside0.mk hp3
            have hs3 := Kept.size hk3
            try simp at hs3)
           | (
            go_at_call 41
            (with_reducible refine Calls.mono (take_no sFalse HP.out HT2.out) ?_)
            rintro en w4 ⟨he4, hk4, hp4⟩
            subst he4
            replace HK := Aside0.mk (Kept.then_ HK.out hk4)
            replace HR := Aside0.mk (Kept.has hk4 HR.out (by omega))
            replace HX := Aside0.mk (Kept.has hk4 HX.out (by omega))
            replace HP := Aside0.mk hp4
            have hs4 := Kept.size hk4
            try simp at hs4)
           | (
            go_at_call 41
            (with_reducible refine Calls.mono (take_no sLpar HP.out HT3.out) ?_)
            rintro en w5 ⟨he5, hk5, hp5⟩
            subst he5
            replace HK := Aside0.mk (Kept.then_ HK.out hk5)
            replace HR := Aside0.mk (Kept.has hk5 HR.out (by omega))
            replace HX := Aside0.mk (Kept.has hk5 HX.out (by omega))
            replace HP := Aside0.mk hp5
            have hs5 := Kept.size hk5
            try simp at hs5)
           | (
            go_at_call 41
            (with_reducible refine Calls.mono (take_no sLbra HP.out HT4.out) ?_)
            rintro en w6 ⟨he6, hk6, hp6⟩
            subst he6
            replace HK := Aside0.mk (Kept.then_ HK.out hk6)
            replace HR := Aside0.mk (Kept.has hk6 HR.out (by omega))
            replace HX := Aside0.mk (Kept.has hk6 HX.out (by omega))
            replace HP := Aside0.mk hp6
            have hs6 := Kept.size hk6
            try simp at hs6)
           | (
            go_at_call 61
            replace HK := Aside0.mk (Kept.alloc HK.out (Obj.cells ([sIf, sMatch, sLbrace].map Value.string).toArray 9))
            replace HP := Aside0.mk (HP.out.below (below_alloc (Below.refl (w6).heap.size (w6)) (Obj.cells ([sIf, sMatch, sLbrace].map Value.string).toArray 9)))
            replace HR := Aside0.mk (Has.alloc HR.out (Obj.cells ([sIf, sMatch, sLbrace].map Value.string).toArray 9))
            replace HX := Aside0.mk (Has.alloc HX.out (Obj.cells ([sIf, sMatch, sLbrace].map Value.string).toArray 9))
            refine Calls.mono (one_ps [sIf, sMatch, sLbrace] (some ⟨w6.heap.size, 0, none⟩) 3 HP.out (lit_S w6 [sIf, sMatch, sLbrace] (by decide)) (by decide)) ?_
            rintro en w7 ⟨he7, hb7⟩
            rw [HT5.out] at he7
            subst he7
            replace HK := Aside0.mk (Kept.below HK.out hb7)
            replace HP := Aside0.mk (HP.out.below hb7)
            replace HR := Aside0.mk (HR.out.belowS hb7)
            replace HX := Aside0.mk (HX.out.belowS hb7)
            have hs7 := Below.size hb7
            try simp at hs7)
           | (
            go_at_call 86
            (with_reducible refine Calls.mono (HNN.out g e d op _ l _ h0 h1 HP.out (by rw [HAT.out]; exact HX.out) (by rw [HRR.out]; exact PR.bad_ne _ _)) ?_)
            rintro en w8 ⟨hk8, he8⟩
            rw [HRR.out] at he8
            subst he8
            replace HK := Aside0.mk (Kept.thenX HK.out hk8 rfl (.inr ⟨by omega, HX.out.lt⟩))))
         rw [HEQ.out]
         exact ⟨rfl, HK.out, rfl⟩
        | ok x l1 =>
         have HRR := Aside0.mk hr
         replace HEQ := Aside0.mk (HEQ.out.trans hr)
         clear hr
         go_wp2_with (first
           | (
            go_at_call 19
            (with_reducible refine Calls.mono (kind_ps HP.out) ?_)
            rintro en w2 ⟨he2, hb2⟩
            rw [HKQ.out] at he2
            subst he2
            replace HK := Aside0.mk (Kept.below HK.out hb2)
            replace HP := Aside0.mk (HP.out.below hb2)
            replace HR := Aside0.mk (HR.out.belowS hb2)
            replace HX := Aside0.mk (HX.out.belowS hb2)
            have hs2 := Below.size hb2
            try simp at hs2)
           | (
            go_at_call 41
            (with_reducible refine Calls.mono (take_no sTrue HP.out HT1.out) ?_)
            rintro en w3 ⟨he3, hk3, hp3⟩
            subst he3
            replace HK := Aside0.mk (Kept.then_ HK.out hk3)
            replace HR := Aside0.mk (Kept.has hk3 HR.out (by omega))
            replace HX := Aside0.mk (Kept.has hk3 HX.out (by omega))
            replace HP := Aside0.mk hp3
            have hs3 := Kept.size hk3
            try simp at hs3)
           | (
            go_at_call 41
            (with_reducible refine Calls.mono (take_no sFalse HP.out HT2.out) ?_)
            rintro en w4 ⟨he4, hk4, hp4⟩
            subst he4
            replace HK := Aside0.mk (Kept.then_ HK.out hk4)
            replace HR := Aside0.mk (Kept.has hk4 HR.out (by omega))
            replace HX := Aside0.mk (Kept.has hk4 HX.out (by omega))
            replace HP := Aside0.mk hp4
            have hs4 := Kept.size hk4
            try simp at hs4)
           | (
            go_at_call 41
            (with_reducible refine Calls.mono (take_no sLpar HP.out HT3.out) ?_)
            rintro en w5 ⟨he5, hk5, hp5⟩
            subst he5
            replace HK := Aside0.mk (Kept.then_ HK.out hk5)
            replace HR := Aside0.mk (Kept.has hk5 HR.out (by omega))
            replace HX := Aside0.mk (Kept.has hk5 HX.out (by omega))
            replace HP := Aside0.mk hp5
            have hs5 := Kept.size hk5
            try simp at hs5)
           | (
            go_at_call 41
            (with_reducible refine Calls.mono (take_no sLbra HP.out HT4.out) ?_)
            rintro en w6 ⟨he6, hk6, hp6⟩
            subst he6
            replace HK := Aside0.mk (Kept.then_ HK.out hk6)
            replace HR := Aside0.mk (Kept.has hk6 HR.out (by omega))
            replace HX := Aside0.mk (Kept.has hk6 HX.out (by omega))
            replace HP := Aside0.mk hp6
            have hs6 := Kept.size hk6
            try simp at hs6)
           | (
            go_at_call 61
            replace HK := Aside0.mk (Kept.alloc HK.out (Obj.cells ([sIf, sMatch, sLbrace].map Value.string).toArray 9))
            replace HP := Aside0.mk (HP.out.below (below_alloc (Below.refl (w6).heap.size (w6)) (Obj.cells ([sIf, sMatch, sLbrace].map Value.string).toArray 9)))
            replace HR := Aside0.mk (Has.alloc HR.out (Obj.cells ([sIf, sMatch, sLbrace].map Value.string).toArray 9))
            replace HX := Aside0.mk (Has.alloc HX.out (Obj.cells ([sIf, sMatch, sLbrace].map Value.string).toArray 9))
            refine Calls.mono (one_ps [sIf, sMatch, sLbrace] (some ⟨w6.heap.size, 0, none⟩) 3 HP.out (lit_S w6 [sIf, sMatch, sLbrace] (by decide)) (by decide)) ?_
            rintro en w7 ⟨he7, hb7⟩
            rw [HT5.out] at he7
            subst he7
            replace HK := Aside0.mk (Kept.below HK.out hb7)
            replace HP := Aside0.mk (HP.out.below hb7)
            replace HR := Aside0.mk (HR.out.belowS hb7)
            replace HX := Aside0.mk (HX.out.belowS hb7)
            have hs7 := Below.size hb7
            try simp at hs7)
           | (
            go_at_call 86
            (with_reducible refine Calls.mono (HNN.out g e d op _ l _ h0 h1 HP.out (by rw [HAT.out]; exact HX.out) (by rw [HRR.out]; exact PR.ok_ne _ _)) ?_)
            rintro en w8 ⟨hk8, he8⟩
            rw [HRR.out] at he8
            obtain ⟨rfl, ⟨cs8, hx8, hv8⟩, hp8⟩ := he8
            replace HK := Aside0.mk (Kept.thenX HK.out hk8 rfl (.inr ⟨by omega, HX.out.lt⟩))
            replace HR := Aside0.mk (Kept.has hk8 HR.out (by rintro (h | h) <;> omega))
            replace HX := Aside0.mk hx8
            replace HP := Aside0.mk hp8
            have HV := Aside0.mk hv8
            have hs8 := Kept.size hk8
            try simp at hs8))
         go_meet
         case rel => exact ⟨_, _, _, HEQ, HK, HP, HR, HX, ⟨HV.out.lower (by omega)⟩⟩
 case rest =>
  clear HK HP HR HX HEQ
  obtain ⟨cs, x, l', HEQ, HK, HP, HR, HX, HV⟩ := hcut
  obtain ⟨a4, ac4, a5, ac5, a9, ac9, hcs⟩ := VO.form HV.out
  injection hcs with hcs
  subst hcs
  go_wp2_with (first
    | (
     (with_reducible refine gate_dst (N := 62) rfl ?_)
     go_must (refine Kd.event_run rfl (load27 wc (w1.heap.size) #[.int .i64 x.f0, .int .i64 x.f1, .int .i64 x.f2, .string x.f3, .slice a4 x.f4.length ac4, .slice a5 x.f5.length ac5, .int .i64 x.f6.f0, .string x.f6.f1, .int .i64 x.f6.f2, .slice a9 x.f6.f3.length ac9] HX.out rfl _ _ _ rfl rfl) ?_))
    | (
     (with_reducible refine gate_store (t := 27) (p := 6) rfl ?_)
     go_must (refine store_event (t := 27) (p := 6) (v := .tmp 62) (w1 := wc.setRow (w.heap.size) #[.int .i64 x.f0, .int .i64 x.f1, .int .i64 x.f2, .string x.f3, .slice a4 x.f4.length ac4, .slice a5 x.f5.length ac5, .int .i64 x.f6.f0, .string x.f6.f1, .int .i64 x.f6.f2, .slice a9 x.f6.f3.length ac9]) ?hg ?ho ?hn ?hr ?_; (case ho => rfl); (case hg => rfl); (case hn => rfl); (case hr => exact store27 wc _ _ _ HR.out rfl rfl (by first | kernel_rfl | (simp [Value.oneCell'])) _ _ _ _ rfl rfl rfl); intro w77 hw77; subst hw77)))
  replace HK := Aside0.mk (kept_rowX HK.out (g := w.heap.size) (.inr (by show w.heap.size ≤ w.heap.size; omega)) #[.int .i64 x.f0, .int .i64 x.f1, .int .i64 x.f2, .string x.f3, .slice a4 x.f4.length ac4, .slice a5 x.f5.length ac5, .int .i64 x.f6.f0, .string x.f6.f1, .int .i64 x.f6.f2, .slice a9 x.f6.f3.length ac9])
  replace HP := Aside0.mk (PS.rowP HP.out HR.out #[.int .i64 x.f0, .int .i64 x.f1, .int .i64 x.f2, .string x.f3, .slice a4 x.f4.length ac4, .slice a5 x.f5.length ac5, .int .i64 x.f6.f0, .string x.f6.f1, .int .i64 x.f6.f2, .slice a9 x.f6.f3.length ac9])
  replace HX := Aside0.mk (has_row_other HX.out (g := w.heap.size) (cs' := #[.int .i64 x.f0, .int .i64 x.f1, .int .i64 x.f2, .string x.f3, .slice a4 x.f4.length ac4, .slice a5 x.f5.length ac5, .int .i64 x.f6.f0, .string x.f6.f1, .int .i64 x.f6.f2, .slice a9 x.f6.f3.length ac9]) (by omega))
  replace HV := Aside0.mk (VO.rowO HV.out (g := w.heap.size) (fun kk h1 h2 => by omega) #[.int .i64 x.f0, .int .i64 x.f1, .int .i64 x.f2, .string x.f3, .slice a4 x.f4.length ac4, .slice a5 x.f5.length ac5, .int .i64 x.f6.f0, .string x.f6.f1, .int .i64 x.f6.f2, .slice a9 x.f6.f3.length ac9])
  replace HR := Aside0.mk (has_row HR.out #[.int .i64 x.f0, .int .i64 x.f1, .int .i64 x.f2, .string x.f3, .slice a4 x.f4.length ac4, .slice a5 x.f5.length ac5, .int .i64 x.f6.f0, .string x.f6.f1, .int .i64 x.f6.f2, .slice a9 x.f6.f3.length ac9])
  refine bodyPost_ret (results_cell_row rfl _ _ w.heap.size 27 #[.int .i64 x.f0, .int .i64 x.f1, .int .i64 x.f2, .string x.f3, .slice a4 x.f4.length ac4, .slice a5 x.f5.length ac5, .int .i64 x.f6.f0, .string x.f6.f1, .int .i64 x.f6.f2, .slice a9 x.f6.f3.length ac9] (0, 0) _ rfl HR.out Tryd.underlying27 rfl (by rfl)) rfl ?_
  rw [HEQ.out]
  exact ⟨HK.out, _, rfl, HV.out.lower (by omega), HP.out⟩
end Go.Proofs.YtngpgdmafmkddaaDoor.Par
end
section
namespace Go.Proofs.YtngpgdmafmkddaaDoor.Par
open Go.RowKit Go.Proofs.YtngpgdmafmkddaaDoorW.PrintWords Go.Proofs.YtngpgdmafmkddaaDoorW.PrintLast Go.Proofs.YtngpgdmafmkddaaDoorW.PrintMore
open Go.Proofs.YtngpgdmafmkddaaDoor.PParseBlanks (S35 S25 S27 k35 k25 k27 rd_T35 rd_T25 rd_T27 at_T35 at_T25 at_T27)
set_option linter.unusedVariables false
set_option linter.unusedSimpArgs false
structure AllOK (n : Nat) : Prop where
 climb : ∀ m, m ≤ n → ClimbOK m
 cast : CastOK n
 operand : OperandOK n
 behind : BehindOK n
 trees : TreesOK n
 primary : PrimaryOK n
 named : NamedOK n
 array : ArrayOK n
 closed : ClosedOK n
 block : BlockOK n
 stmt : StmtOK n
 plainly : PlainlyOK n
theorem all_ok (n : Nat) : AllOK n := by
 induction n with
 | zero =>
  refine ⟨fun m hm => ?_, ?_, ?_, ?_, ?_, ?_, ?_, ?_, ?_, ?_, ?_, ?_⟩
  ·obtain rfl : m = 0 := by omega
   intro g e d op least l w _ _ _ _ _ hne
   exact absurd (by simp only [climbP]) hne
  ·intro g e d op l w _ _ _ hne
   exact absurd (by simp only [castP]) hne
  ·intro g e d op l w _ _ _ hne
   exact absurd (by simp only [operandP]) hne
  ·intro g e d x v B l w _ _ _ _ _ hne
   exact absurd (by simp only [behindP]) hne
  ·intro g e d stop l w _ _ _ hne
   exact absurd (by simp only [treesP]) hne
  ·intro g e d op l w _ _ _ hne
   exact absurd (by simp only [primaryP]) hne
  ·intro g e d op r l w _ _ _ _ hne
   exact absurd (by simp only [namedP]) hne
  ·intro g e d r a l w _ _ _ _ hne
   exact absurd (by simp only [arrayP]) hne
  ·intro g e d l w _ _ _ hne
   exact absurd (by simp only [closedP]) hne
  ·intro g e d l w _ _ _ hne
   exact absurd (by simp only [blockP]) hne
  ·intro g e d l w _ _ _ hne
   exact absurd (by simp only [stmtP]) hne
  ·intro g e d l w _ _ _ hne
   exact absurd (by simp only [plainlyP]) hne
 | succ n ih =>
  have hT : TreeOK n := tree_ok (ih.climb n (Nat.le_refl n))
  refine ⟨fun m hm => ?_, cast_ok ih.operand, operand_ok ih.operand ih.primary ih.behind, behind_ok n, trees_ok hT, primary_ok hT ih.array ih.closed ih.named, named_ok ih.trees, array_ok hT ih.trees, closed_ok ih.block, block_ok ih.stmt, stmt_ok ih.closed ih.plainly, plainly_ok hT⟩
  by_cases h : m ≤ n
  ·exact ih.climb m h
  ·obtain rfl : m = n + 1 := by omega
   exact climb_ok rank_ok ih.cast fun k hk => ih.climb k (by omega)
end Go.Proofs.YtngpgdmafmkddaaDoor.Par
end
section
namespace Go.Proofs.YtngpgdmafmkddaaDoor.Tre
open Go.Proofs.YtngpgdmafmkddaaDoor.Lex Go.Proofs.YtngpgdmafmkddaaDoor.Calm Go.Proofs.YtngpgdmafmkddaaDoor.Par Go.RowKit Go.Proofs.YtngpgdmafmkddaaDoorW.PrintWords Go.Proofs.YtngpgdmafmkddaaDoorW.PrintLast Go.Proofs.YtngpgdmafmkddaaDoorW.PrintMore
open Go.Proofs.YtngpgdmafmkddaaDoor.PParseBlanks (S35 S25 S27 k35 k25 k27 rd_T35 rd_T25 rd_T27 at_T35 at_T25 at_T27)
set_option linter.unusedVariables false
set_option linter.unusedSimpArgs false
theorem lexN_sz : ∀ (k a : Nat) (l : List UInt8) (ts : List S35), lexN k a l = .ok ts → ∀ t ∈ ts, t.f1.size ≤ l.length := by
 intro k
 induction k with
 | zero => intro a l ts h; cases h
 | succ k ih =>
  intro a l ts h
  cases l with
  | nil =>
   injection h with h
   subst h
   intro t ht
   cases ht
  | cons b r =>
   simp only [lexN] at h
   split at h
   ·cases h
   ·split at h
    ·cases h
    ·rename_i ts2 h2
     injection h with h
     subst h
     intro t ht
     rcases List.mem_cons.1 ht with rfl | ht
     ·simp only [ByteArray.size, List.size_toArray, List.length_take]
      omega
     ·have h3 := ih _ _ _ h2 t ht
      simp only [List.length_drop] at h3
      omega
theorem lexP_sz {s : ByteArray} {ts : List S35} (h : lexP s = .ok ts) : TokSz ts := by
 unfold lexP at h
 split at h
 ·cases h
 ·intro t ht
  have h2 := lexN_sz _ _ _ _ h t ht
  have h3 : s.data.toList.length = s.size := by simp
  simp only [List.length_drop] at h2
  omega
def BegPost (s : ByteArray) (w : World) (en : Ending) (w' : World) : Prop :=
 Below w.heap.size w w' ∧ match lexP s with
 | .ok ts => ∃ g, en = .returned (.tuple #[.pointer (some ⟨g, 0, none⟩), .int .i64 0, .int .i64 0]) ∧ w.heap.size ≤ g ∧ PS w' g ts s.size
 | .error x => ∃ g, en = .returned (.tuple #[.pointer (some ⟨g, 0, none⟩), .int .i64 x.1, .int .i64 x.2])
set_option maxRecDepth 100000 in
set_option maxHeartbeats 2000000 in
theorem begin_said (s : ByteArray) (w : World) (HT : Tab w) : Calls Tryd.prog 15 #[.string s] w (BegPost s w) := by
 have HTT := Aside0.mk HT
 clear HT
 unfold BegPost
 cases hr : lexP s with
 | error x =>
  have HR := Aside0.mk hr
  clear hr
  go_enter Tryd.func15, Tryd.ntmps15
  go_wp2_with (
   go_at_call 9
   (with_reducible refine Calls.mono (lex_said s _ HTT.out) ?_)
   rintro en w1 ⟨hb, hq⟩
   rw [HR.out] at hq
   subst hq)
  go_ret3
  exact ⟨below_alloc hb _, _, rfl⟩
 | ok ts =>
  have HR := Aside0.mk hr
  clear hr
  go_enter Tryd.func15, Tryd.ntmps15
  go_wp2_with (
   go_at_call 9
   (with_reducible refine Calls.mono (lex_said s _ HTT.out) ?_)
   rintro en w1 ⟨hb, hq⟩
   rw [HR.out] at hq
   obtain ⟨A, c, rfl, hc, hC, hrt⟩ := hq
   have hC := Aside0.mk hC)
  go_ret3
  refine ⟨below_alloc hb _, w1.heap.size, rfl, hb.size, A, c, Has.new w1 _ 76, ⟨hc, lexP_sz HR.out⟩, Kd.C_alloc hC.out _, hrt.below (below_alloc (Below.refl _ _) _)⟩
set_option maxRecDepth 100000 in
set_option maxHeartbeats 2000000 in
theorem clear_said (rb : Nat) (w : World) (old : Array Value) (H : Has w rb old 27) (ho : old.size = 10) : Calls Tryd.prog 17 #[.pointer (some ⟨rb, 0, none⟩)] w fun en w' => en = .returned (.tuple #[]) ∧ w' = w.setRow rb #[.int .i64 0, .int .i64 0, .int .i64 0, .string ⟨#[]⟩, .slice none 0 0, .slice none 0 0, .int .i64 0, .string ⟨#[]⟩, .int .i64 0, .slice none 0 0] := by
 have HH := Aside0.mk H
 clear H
 go_enter Tryd.func17, Tryd.ntmps17
 go_wp2_with (
  (with_reducible refine gate_store (t := 27) (p := 0) rfl ?_)
  go_must (refine store_event (t := 27) (p := 0) (v := .tmp 1) (w1 := w.setRow rb #[.int .i64 0, .int .i64 0, .int .i64 0, .string ⟨#[]⟩, .slice none 0 0, .slice none 0 0, .int .i64 0, .string ⟨#[]⟩, .int .i64 0, .slice none 0 0]) ?hg ?ho ?hn ?hr ?_; (case ho => rfl); (case hg => rfl); (case hn => rfl); (case hr => exact store27 w _ _ _ HH.out ho rfl (by first | kernel_rfl | (simp [Value.oneCell'])) _ _ _ _ rfl rfl rfl); intro w77 hw77; subst hw77))
 exact bodyPost_end (results_none rfl _ _ _) rfl ⟨rfl, rfl⟩
theorem ta78 (v : Value) (w : World) : (Instr.typeAssert (.iface 78 v) 20 78 true).run Tryd.prog w = .ok (.tuple #[v, .bool true]) w := by
 simp [Instr.typeAssert, run_underlying Tryd.underlying78]
def CauPost (ab eb rb : Nat) (a er : Int) (u : FrameMode) (w : World) (e : Ending) (u' : FrameMode) (w' : World) : Prop :=
 e = .returned (.tuple #[]) ∧ u' = u ∧ Kept (fun b => b = ab ∨ b = eb ∨ b = rb) w w' ∧ Has w' ab #[.int .i64 a] 3 ∧ Has w' eb #[.int .i64 er] 28 ∧ Has w' rb #[.int .i64 0, .int .i64 0, .int .i64 0, .string ⟨#[]⟩, .slice none 0 0, .slice none 0 0, .int .i64 0, .string ⟨#[]⟩, .int .i64 0, .slice none 0 0] 27
set_option maxRecDepth 100000 in
set_option maxHeartbeats 4000000 in
theorem caught_idle (ab eb rb : Nat) (w : World) :
  CallsD Tryd.prog 16 #[Value.pointer (some ⟨ab, 0, none⟩), .pointer (some ⟨eb, 0, none⟩), .func (.func 17) #[] #[.pointer (some ⟨rb, 0, none⟩)]] (.returning) w (fun e u' w' => e = .returned (.tuple #[]) ∧ u' = .returning ∧ w' = w) := by
 refine callsD_of_wpS Tryd.func16 rfl fun c₀ cs hu => ?_
 rw [show (#[Value.pointer (some ⟨ab, 0, none⟩), .pointer (some ⟨eb, 0, none⟩), .func (.func 17) #[] #[.pointer (some ⟨rb, 0, none⟩)]] ++ Array.replicate (Tryd.f16.ntmps - (#[Value.pointer (some ⟨ab, 0, none⟩), .pointer (some ⟨eb, 0, none⟩), .func (.func 17) #[] #[.pointer (some ⟨rb, 0, none⟩)]] : Array Value).size) undef) = #[.pointer (some ⟨ab, 0, none⟩), .pointer (some ⟨eb, 0, none⟩), .func (.func 17) #[] #[.pointer (some ⟨rb, 0, none⟩)], undef, undef, undef, undef, undef, undef, undef, undef, undef, undef, undef, undef, undef, undef, undef, undef, undef, undef, undef, undef, undef, undef] from by kernel_rfl]
 apply wpS_seq
 apply wpS_region
 simp [wpOpsS, go_sem, recoverD, hu, Exit.thenS]
 refine wpS_of_wp ?_
 go_wp2
 exact ⟨rfl, _, by first | rfl | (cases c₀; simp_all), .tuple #[], results_none rfl _ _ _, rfl, by first | rfl | assumption, rfl⟩
set_option maxRecDepth 100000 in
set_option maxHeartbeats 4000000 in
theorem caught_stop (ab eb rb : Nat) (a er a1 e1 : Int) (old : Array Value) (w : World) (ha : Has w ab #[.int .i64 a1] 3) (he : Has w eb #[.int .i64 e1] 28) (hr : Has w rb old 27) (ho : old.size = 10) :
  CallsD Tryd.prog 16 #[Value.pointer (some ⟨ab, 0, none⟩), .pointer (some ⟨eb, 0, none⟩), .func (.func 17) #[] #[.pointer (some ⟨rb, 0, none⟩)]] (.panicking [stopE a er]) w (CauPost ab eb rb a er (.panicking [{ v := .iface 78 (.agg #[.int .i64 a, .int .i64 er]), recovered := true }]) w) := by
 have hu78 := Tryd.underlying78
 have hta := ta78
 refine callsD_of_wpS Tryd.func16 rfl fun c₀ cs hu => ?_
 rw [show (#[Value.pointer (some ⟨ab, 0, none⟩), .pointer (some ⟨eb, 0, none⟩), .func (.func 17) #[] #[.pointer (some ⟨rb, 0, none⟩)]] ++ Array.replicate (Tryd.f16.ntmps - (#[Value.pointer (some ⟨ab, 0, none⟩), .pointer (some ⟨eb, 0, none⟩), .func (.func 17) #[] #[.pointer (some ⟨rb, 0, none⟩)]] : Array Value).size) undef) = #[.pointer (some ⟨ab, 0, none⟩), .pointer (some ⟨eb, 0, none⟩), .func (.func 17) #[] #[.pointer (some ⟨rb, 0, none⟩)], undef, undef, undef, undef, undef, undef, undef, undef, undef, undef, undef, undef, undef, undef, undef, undef, undef, undef, undef, undef, undef, undef] from by kernel_rfl]
 apply wpS_seq
 apply wpS_region
 simp [wpOpsS, go_sem, recoverD, hu, stopE, Exit.thenS]
 refine wpS_of_wp ?_
 go_wp2
 have hA := (ha.alloc (Obj.cells #[.int .i64 a, .int .i64 er] 78)).drewN 1
 have hE := (he.alloc (Obj.cells #[.int .i64 a, .int .i64 er] 78)).drewN 1
 have hR := (hr.alloc (Obj.cells #[.int .i64 a, .int .i64 er] 78)).drewN 1
 have hS0 := (Has.new w #[.int .i64 a, .int .i64 er] 78).drewN 1
 have hK := (Par.Kept.of_below (S := fun b => b = ab ∨ b = eb ∨ b = rb) (below_alloc (Below.refl _ w) (Obj.cells #[.int .i64 a, .int .i64 er] 78))).drewN 1
 obtain ⟨W, hW⟩ : ∃ W, (w.alloc (Obj.cells #[.int .i64 a, .int .i64 er] 78)).drew = W := ⟨_, rfl⟩
 have hW1 : (w.alloc (Obj.cells #[.int .i64 a, .int .i64 er] 78)).drewN 1 = W := hW
 rw [hW1] at hA hE hR hS0 hK
 have hna : ab ≠ w.heap.size := by have := ha.lt; omega
 have hne : eb ≠ w.heap.size := by have := he.lt; omega
 have hae : ab ≠ eb := ha.ne he (by decide)
 have har : rb ≠ ab := fun h => by subst h; exact absurd rfl (hr.ne ha (by decide))
 have her : rb ≠ eb := fun h => by subst h; exact absurd rfl (hr.ne he (by decide))
 refine region_treeQ (by kernel_rfl) (fun w' => Has w' w.heap.size #[.int .i64 a, .int .i64 er] 78) (hW ▸ hS0) fun hS => ?_
 rw [hW] at hS ⊢
 clear hW hW1
 generalize hQQ : Exit.then _ _ = QQ
 have hsure : Sure QQ := by
  rw [← hQQ]
  intro c x x' w1 hd h
  simp +zetaDelta only [Exit.then, Exit.thenS, Exit.inBlock, bodyPost, bodyPostS] at h ⊢
  first | (simp at h; done) | simpa [hd] using h
 refine treeQ_h hsure hS (i := 0) (by kernel_rfl) (by rfl) (by rfl) (by kernel_rfl) (by rfl) ?_
 apply Exists.intro
 apply And.intro
 ·rintro w' k1
  apply VR.mk
  go_simp
  with_reducible rfl
 simp only [List.setIfInBounds_toArray, List.set_cons_zero, List.set_cons_succ]
 refine treeQ_h hsure hS (i := 1) (by kernel_rfl) (by rfl) (by rfl) (by kernel_rfl) (by rfl) ?_
 apply Exists.intro
 apply And.intro
 ·rintro w' k1
  apply VR.mk
  go_simp
  with_reducible rfl
 simp only [List.setIfInBounds_toArray, List.set_cons_zero, List.set_cons_succ]
 refine treeQ_h hsure hS (i := 2) (by kernel_rfl) (by rfl) (by rfl) (by kernel_rfl) (by rfl) ?_
 apply Exists.intro
 apply And.intro
 ·rintro w' k1
  apply VR.mk
  go_simp
  with_reducible rfl
 simp only [List.setIfInBounds_toArray, List.set_cons_zero, List.set_cons_succ]
 refine treeQ_h hsure hS (i := 3) (by kernel_rfl) (by rfl) (by rfl) (by kernel_rfl) (by rfl) ?_
 apply Exists.intro
 apply And.intro
 ·rintro w' k1
  have cc0 := k1.cell 0
  simp only [List.getElem?_toArray, List.getElem?_cons_zero, List.getElem?_cons_succ] at cc0
  apply VR.mk
  go_simp
  with_reducible rfl
 simp only [List.setIfInBounds_toArray, List.set_cons_zero, List.set_cons_succ]
 refine treeQ_h hsure hS (i := 4) (by kernel_rfl) (by rfl) (by rfl) (by kernel_rfl) (by rfl) ?_
 apply Exists.intro
 apply And.intro
 ·rintro w' k1
  apply VR.mk
  go_simp
  with_reducible rfl
 simp only [List.setIfInBounds_toArray, List.set_cons_zero, List.set_cons_succ]
 refine treeQ_h hsure hS (i := 5) (by kernel_rfl) (by rfl) (by rfl) (by kernel_rfl) (by rfl) ?_
 apply Exists.intro
 apply And.intro
 ·rintro w' k1
  have cc0 := k1.cell 1
  simp only [List.getElem?_toArray, List.getElem?_cons_zero, List.getElem?_cons_succ] at cc0
  apply VR.mk
  go_simp
  with_reducible rfl
 simp only [List.setIfInBounds_toArray, List.set_cons_zero, List.set_cons_succ]
 refine treeQ_h hsure hS (i := 6) (by kernel_rfl) (by rfl) (by rfl) (by kernel_rfl) (by rfl) ?_
 apply Exists.intro
 apply And.intro
 ·rintro w' k1
  apply VR.mk
  go_simp
  with_reducible rfl
 simp only [List.setIfInBounds_toArray, List.set_cons_zero, List.set_cons_succ]
 have ca := hA.cell 0
 simp only [List.getElem?_toArray, List.getElem?_cons_zero, List.getElem?_cons_succ] at ca
 have fa := hA.frozen 0
 refine tree_1Q (i := 7) (by kernel_rfl) ?_
 refine step_list (by rfl) ?_
 go_wp2
 clear ca fa
 replace hS0 := hS0.other (a := ⟨ab, 0, none⟩) (Ne.symm hna) (.int .i64 a)
 replace hE := hE.other (a := ⟨ab, 0, none⟩) (Ne.symm hae) (.int .i64 a)
 replace hR := hR.other (a := ⟨ab, 0, none⟩) har (.int .i64 a)
 replace hK := hK.setCell (a := ⟨ab, 0, none⟩) (.inl rfl) (.int .i64 a)
 replace hA : Has (W.setCell ⟨ab, 0, none⟩ (.int .i64 a)) ab #[.int .i64 a] 3 := hA.set_ 0 (.int .i64 a)
 refine ⟨hS0, ?_⟩
 obtain ⟨W2, hW2⟩ : ∃ V, W.setCell ⟨ab, 0, none⟩ (.int .i64 a) = V := ⟨_, rfl⟩
 rw [hW2] at hS0 hE hR hK hA ⊢
 clear hW2
 refine treeQ_h hsure hS0 (i := 8) (by kernel_rfl) (by rfl) (by rfl) (by kernel_rfl) (by rfl) ?_
 apply Exists.intro
 apply And.intro
 ·rintro w' k1
  apply VR.mk
  go_simp
  with_reducible rfl
 simp only [List.setIfInBounds_toArray, List.set_cons_zero, List.set_cons_succ]
 have ce := hE.cell 0
 simp only [List.getElem?_toArray, List.getElem?_cons_zero, List.getElem?_cons_succ] at ce
 have fe := hE.frozen 0
 refine tree_1Q (i := 9) (by kernel_rfl) ?_
 refine step_list (by rfl) ?_
 go_wp2
 clear ce fe
 replace hS0 := hS0.other (a := ⟨eb, 0, none⟩) (Ne.symm hne) (.int .i64 er)
 replace hA := hA.other (a := ⟨eb, 0, none⟩) hae (.int .i64 er)
 replace hR := hR.other (a := ⟨eb, 0, none⟩) her (.int .i64 er)
 replace hK := hK.setCell (a := ⟨eb, 0, none⟩) (.inr (.inl rfl)) (.int .i64 er)
 replace hE : Has (W2.setCell ⟨eb, 0, none⟩ (.int .i64 er)) eb #[.int .i64 er] 28 := hE.set_ 0 (.int .i64 er)
 refine ⟨hS0, tree_endQ (by kernel_rfl) ?_⟩
 obtain ⟨W3, hW3⟩ : ∃ V, W2.setCell ⟨eb, 0, none⟩ (.int .i64 er) = V := ⟨_, rfl⟩
 rw [hW3] at hS0 hE hR hK hA ⊢
 clear hW3 hS hsure
 rw [← hQQ]
 clear hQQ
 have hcf : ∀ w : World, (callFunc 17 #[.pointer (some ⟨rb, 0, none⟩)]).run Tryd.prog w = .ok (.enter 17 #[.pointer (some ⟨rb, 0, none⟩)]) w := by intro w; kernel_rfl
 have HH := Aside0.mk (And.intro hA (And.intro hE (And.intro hR hK)))
 clear hA hE hR hK
 obtain ⟨hA, hE, hR, hK⟩ := HH.out
 have HRR := Aside0.mk hR
 clear hA hE hR hK
 go_wp2_with ((
       go_at_call 17
       (with_reducible refine Calls.mono (clear_said rb _ _ HRR.out ho) ?_)
       rintro en w9 ⟨rfl, rfl⟩))
 obtain ⟨hA, hE, hR, hK⟩ := HH.out
 exact ⟨rfl, _, by first | rfl | (cases c₀; simp_all), .tuple #[], results_none rfl _ _ _, rfl, by first | rfl | assumption, kept_rowX hK (.inl (.inr (.inr rfl))) _, has_row_other hA (Ne.symm har), has_row_other hE (Ne.symm her), has_row hR _⟩
end Go.Proofs.YtngpgdmafmkddaaDoor.Tre
end
