/- Steps toward the laws of the parser (B), merged from several texts (some of them began as the kit's print). No condition. -/
import Derived.Recover
import Derived.Defers
import Derived.Tactics2
import Derived.Laws.Pointers
import Derived.Test.YtngpgdmafmkddaaDoorZB6
section
namespace Go.Proofs.YtngpgdmafmkddaaDoor.Par
open Go.Proofs.YtngpgdmafmkddaaDoor.Calm Go.RowKit Go.Proofs.YtngpgdmafmkddaaDoorW.PrintWords Go.Proofs.YtngpgdmafmkddaaDoorW.PrintLast Go.Proofs.YtngpgdmafmkddaaDoorW.PrintMore
open Go.Proofs.YtngpgdmafmkddaaDoor.PParseBlanks (S35 S25 S27 k35 k25 k27 rd_T35 rd_T25 rd_T27 at_T35 at_T25 at_T27)
set_option linter.unusedVariables false
set_option linter.unusedSimpArgs false
def ArrayOK (n:Nat):Prop := ∀ (g:Nat) (e d:Int) (r:Nat) (a:Int) (l:List S35) (w:World),0 <= d -> d < 60 -> PS w g l e -> Has w r #[.int .i64 0,.int .i64 a,.int .i64 0,.string ⟨#[]⟩,.slice none 0 0,.slice none 0 0,.int .i64 0,.string ⟨#[]⟩,.int .i64 0,.slice none 0 0] 27 -> arrayP e n d a l ≠ .out ->
 Calls Tryd.prog 85 #[.pointer (some ⟨g,0,none⟩),.pointer (some ⟨r,0,none⟩),.int .i64 d] w (BPost g e r (arrayP e n d a l) w)
set_option maxRecDepth 100000 in
set_option maxHeartbeats 4000000 in
theorem array_ok {n:Nat} (HT:TreeOK n) (HTS:TreesOK n):ArrayOK (n + 1):=by
 intro g e d r a l w h0 h1 HP HX hne
 unfold TreeOK at HT
 unfold TreesOK at HTS
 have hu27:=Tryd.underlying27
 have HE:arrayP e (n + 1) d a l = if isP sRbra l = true then .ok (mkE 17 a 0 ⟨#[]⟩ [] []) l.tail
  else (climbP e n (d + 1) true 1 l).andThen fun x l1 =>
   if isP sSemi l1 = true then (countP e l1.tail).andThen fun v l2=>if isP sRbra l2 = true then .ok (mkE 18 a v ⟨#[]⟩ [x] []) l2.tail else .bad (atP e l2) 30
   else if isP sRbra l1 = true then .ok (mkE 17 a 0 ⟨#[]⟩ [x] []) l1.tail
   else if isP sComma l1 = true then (treesP e n d sRbra l1.tail).andThen fun ks l2=>if ks.length >= 1000000 then .out else .ok (mkE 17 a 0 ⟨#[]⟩ (x :: ks) []) l2
   else .bad (atP e l1) 30:=by simp only [arrayP]
 obtain ⟨R,hR⟩:∃ R,arrayP e (n + 1) d a l = R:=⟨_,rfl⟩
 rw [hR] at HE hne ⊢
 clear hR
 have hgw:=HP.glt
 have hrw:=HX.lt
 have hrg:r ≠ g:=by
  obtain ⟨_,_,q⟩:=HP
  exact HX.ne q.has (by decide)
 have HEQ:=am HE
 have HNE:=am hne
 have HTT:=am HT
 have HTTS:=am HTS
 have HK:Aside0 (Kept (fun b=>b = g \/ b = r) w w):=⟨Kept.refl _ w⟩
 have HP:=am HP
 have HX:=am HX
 clear HE hne HT HTS
 have c1:=hci HX.out 0 rfl
 have f1:=Has.frozen HX.out 0
 go_enter Tryd.func85,Tryd.ntmps85
 cases hi:isP sRbra l with
 | true =>
  replace HEQ:=am (HEQ.out.trans (if_pos hi))
  have HI:=am hi
  clear hi
  go_wp2_with ((
        go_at_call 41
        replace HK:=am (Kept.setCellX HK.out (a:=⟨r,0,none⟩) (.inl (.inr rfl)) (.int .i64 17))
        replace HP:=am (PS.setT HP.out HX.out (by decide) (by decide) 0 (.int .i64 17))
        replace HX:Aside0 (Has (w.setCell ⟨r,0,none⟩ (.int .i64 17)) (r) #[.int .i64 17,.int .i64 a,.int .i64 0,.string ⟨#[]⟩,.slice none 0 0,.slice none 0 0,.int .i64 0,.string ⟨#[]⟩,.int .i64 0,.slice none 0 0] 27):=⟨by have h:=Has.set_ HX.out 0 (.int .i64 17);exact h⟩
        (with_reducible refine Calls.mono (take_yes sRbra HP.out HI.out) ?_)
        rintro en w2 ⟨he2,hk2,hp2⟩
        clear c1 f1
        subst he2
        replace HK:=am (Kept.then_ HK.out (Kept.mono hk2 fun kk h=>.inl h))
        replace HX:=am (Kept.has hk2 HX.out (by omega))
        replace HP:=am hp2
        have hs2:=Kept.size hk2
        try simp at hs2))
  refine bodyPost_end (results_none rfl _ _ _) rfl ?_
  rw [HEQ.out]
  exact ⟨HK.out,rfl,⟨_,HX.out,VO.leaf _ _ _ 17 a 0 ⟨#[]⟩⟩,HP.out⟩
 | false =>
  replace HEQ:=am (HEQ.out.trans (if_neg (by rw [hi];decide)))
  have HI:=am hi
  clear hi
  cases hr:climbP e n (d + 1) true 1 l with
  | out=>exact absurd (by rw [HEQ.out,hr] <;> rfl) HNE.out
  | bad b er =>
   have HRR:=am hr
   replace HEQ:Aside0 (R = .bad b er):=⟨by rw [HEQ.out,hr] <;> rfl⟩
   clear hr
   go_wp2_with (first
     | (
      go_at_call 41
      replace HK:=am (Kept.setCellX HK.out (a:=⟨r,0,none⟩) (.inl (.inr rfl)) (.int .i64 17))
      replace HP:=am (PS.setT HP.out HX.out (by decide) (by decide) 0 (.int .i64 17))
      replace HX:Aside0 (Has (w.setCell ⟨r,0,none⟩ (.int .i64 17)) (r) #[.int .i64 17,.int .i64 a,.int .i64 0,.string ⟨#[]⟩,.slice none 0 0,.slice none 0 0,.int .i64 0,.string ⟨#[]⟩,.int .i64 0,.slice none 0 0] 27):=⟨by have h:=Has.set_ HX.out 0 (.int .i64 17);exact h⟩
      (with_reducible refine Calls.mono (take_no sRbra HP.out HI.out) ?_)
      rintro en w2 ⟨he2,hk2,hp2⟩
      clear c1 f1
      subst he2
      replace HK:=am (Kept.then_ HK.out (Kept.mono hk2 fun kk h=>.inl h))
      replace HX:=am (Kept.has hk2 HX.out (by omega))
      replace HP:=am hp2
      have hs2:=Kept.size hk2
      try simp at hs2)
     | (
      go_at_call 18
      (with_reducible refine Calls.mono (HTT.out g e (d + 1) true l _ (by omega) (by omega) HP.out (by rw [HRR.out];exact PR.bad_ne _ _)) ?_)
      rintro en w3 ⟨hk3,he3⟩
      rw [HRR.out] at he3
      subst he3
      replace HK:=am (Kept.then_ HK.out (Kept.mono hk3 fun kk h=>.inl h))
      replace HX:=am (Kept.has hk3 HX.out (by omega))
      have hs3:=Kept.size hk3
      try simp at hs3))
   rw [HEQ.out]
   exact ⟨rfl,HK.out,rfl⟩
  | ok x l1 =>
   have HRR:=am hr
   rw [hr] at HEQ
   simp only [PR.andThen] at HEQ
   clear hr
   have HIA:=HI
   go_wp2_with (first
     | (
      go_at_call 41
      replace HK:=am (Kept.setCellX HK.out (a:=⟨r,0,none⟩) (.inl (.inr rfl)) (.int .i64 17))
      replace HP:=am (PS.setT HP.out HX.out (by decide) (by decide) 0 (.int .i64 17))
      replace HX:Aside0 (Has (w.setCell ⟨r,0,none⟩ (.int .i64 17)) (r) #[.int .i64 17,.int .i64 a,.int .i64 0,.string ⟨#[]⟩,.slice none 0 0,.slice none 0 0,.int .i64 0,.string ⟨#[]⟩,.int .i64 0,.slice none 0 0] 27):=⟨by have h:=Has.set_ HX.out 0 (.int .i64 17);exact h⟩
      (with_reducible refine Calls.mono (take_no sRbra HP.out HI.out) ?_)
      rintro en w2 ⟨he2,hk2,hp2⟩
      clear c1 f1
      subst he2
      replace HK:=am (Kept.then_ HK.out (Kept.mono hk2 fun kk h=>.inl h))
      replace HX:=am (Kept.has hk2 HX.out (by omega))
      replace HP:=am hp2
      have hs2:=Kept.size hk2
      try simp at hs2)
     | (
      go_at_call 18
      (with_reducible refine Calls.mono (HTT.out g e (d + 1) true l _ (by omega) (by omega) HP.out (by rw [HRR.out];exact PR.ok_ne _ _)) ?_)
      rintro en w3 ⟨hk3,he3⟩
      rw [HRR.out] at he3
      obtain ⟨v3,rfl,hv3,hp3⟩:=he3
      obtain ⟨a4,ac4,a5,ac5,a9,ac9,rfl⟩:=VO.form hv3
      have HV:=am hv3
      replace HK:=am (Kept.then_ HK.out (Kept.mono hk3 fun kk h=>.inl h))
      replace HX:=am (Kept.has hk3 HX.out (by omega))
      replace HP:=am hp3
      have hs3:=Kept.size hk3
      try simp at hs3
      have HKID:=am (kidA HV.out (by omega))
      have ba1:=below_alloc (Below.refl (w3).heap.size (w3)) (Obj.cells #[.int .i64 x.f0,.int .i64 x.f1,.int .i64 x.f2,.string x.f3,.slice a4 x.f4.length ac4,.slice a5 x.f5.length ac5,.int .i64 x.f6.f0,.string x.f6.f1,.int .i64 x.f6.f2,.slice a9 x.f6.f3.length ac9] 27)
      replace HK:=am (Kept.below HK.out ba1)
      replace HP:=am (HP.out.below ba1)
      replace HX:=am (HX.out.belowS ba1)
      replace HV:=am (HV.out.below ba1)
      clear ba1
      have c4:=hci HX.out 4 rfl
      have f4:=Has.frozen HX.out 4))
   clear HI HIA
   clear c4 f4
   replace HK:=am (Kept.setCellX HK.out (a:=⟨r,4,none⟩) (.inl (.inr rfl)) (.slice (some ⟨w3.heap.size,0,none⟩) 1 1))
   replace HP:=am (PS.setT HP.out HX.out (by decide) (by decide) 4 (.slice (some ⟨w3.heap.size,0,none⟩) 1 1))
   replace HV:=am (VO.setO HV.out (a:=⟨r,4,none⟩) (fun kk h1 h2=>by show kk ≠ r;omega) (.slice (some ⟨w3.heap.size,0,none⟩) 1 1))
   replace HKID:=am (R_far HKID.out (fun kk h1 _=>Below.heap_setCell _ ⟨r,4,none⟩ (.slice (some ⟨w3.heap.size,0,none⟩) 1 1) kk (by show kk ≠ r;omega)))
   replace HX:Aside0 (Has (((w3.alloc (Obj.cells #[.int .i64 x.f0,.int .i64 x.f1,.int .i64 x.f2,.string x.f3,.slice a4 x.f4.length ac4,.slice a5 x.f5.length ac5,.int .i64 x.f6.f0,.string x.f6.f1,.int .i64 x.f6.f2,.slice a9 x.f6.f3.length ac9] 27))).setCell ⟨r,4,none⟩ (.slice (some ⟨w3.heap.size,0,none⟩) 1 1)) (r) #[.int .i64 17,.int .i64 a,.int .i64 0,.string ⟨#[]⟩,.slice (some ⟨w3.heap.size,0,none⟩) 1 1,.slice none 0 0,.int .i64 0,.string ⟨#[]⟩,.int .i64 0,.slice none 0 0] 27):=⟨by have h:=Has.set_ HX.out 4 (.slice (some ⟨w3.heap.size,0,none⟩) 1 1);exact h⟩
   obtain ⟨w9,hw9⟩:∃ W,(((w3.alloc (Obj.cells #[.int .i64 x.f0,.int .i64 x.f1,.int .i64 x.f2,.string x.f3,.slice a4 x.f4.length ac4,.slice a5 x.f5.length ac5,.int .i64 x.f6.f0,.string x.f6.f1,.int .i64 x.f6.f2,.slice a9 x.f6.f3.length ac9] 27))).setCell ⟨r,4,none⟩ (.slice (some ⟨w3.heap.size,0,none⟩) 1 1)) = W:=⟨_,rfl⟩
   rw [hw9] at HK HP HX HV HKID ⊢
   clear hw9
   have hs99:=HX.out.lt
   cases hi:isP sSemi l1 with
   | true =>
    replace HEQ:=am (HEQ.out.trans (if_pos hi))
    have HI:=am hi
    clear hi
    cases hr:countP e l1.tail with
    | out=>exact absurd (by rw [HEQ.out,hr] <;> rfl) HNE.out
    | bad b er =>
     have HRC:=am hr
     replace HEQ:Aside0 (R = .bad b er):=⟨by rw [HEQ.out,hr] <;> rfl⟩
     clear hr
     go_wp2_with (first
       | (
        go_at_call 41
        (with_reducible refine Calls.mono (take_yes sSemi HP.out HI.out) ?_)
        rintro en w5 ⟨he5,hk5,hp5⟩
        subst he5
        replace HK:=am (Kept.then_ HK.out (Kept.mono hk5 fun kk h=>.inl h))
        replace HX:=am (Kept.has hk5 HX.out (by omega))
        replace HV:=am (VO.kps HV.out HP.out hk5)
        replace HKID:=am (R_kps HKID.out HP.out hk5)
        replace HP:=am hp5
        have hs5:=Kept.size hk5
        try simp at hs5)
       | (
        go_at_call 64
        (with_reducible refine Calls.mono (count_said g _ e _ HP.out (by rw [HRC.out];exact PR.bad_ne _ _)) ?_)
        rintro en w6 ⟨hk6,he6⟩
        rw [HRC.out] at he6
        subst he6
        replace HK:=am (Kept.then_ HK.out (Kept.mono hk6 fun kk h=>.inl h))
        replace HX:=am (Kept.has hk6 HX.out (by omega))
        replace HV:=am (VO.kps HV.out HP.out hk6)
        replace HKID:=am (R_kps HKID.out HP.out hk6)
        have hs6:=Kept.size hk6
        try simp at hs6))
     rw [HEQ.out]
     exact ⟨rfl,HK.out,rfl⟩
    | ok v l2 =>
     have HRC:=am hr
     rw [hr] at HEQ
     simp only [PR.andThen] at HEQ
     clear hr
     cases hj:isP sRbra l2 with
     | true =>
      replace HEQ:=am (HEQ.out.trans (if_pos hj))
      have HJ:=am hj
      clear hj
      go_wp2_with (first
        | (
         go_at_call 41
         (with_reducible refine Calls.mono (take_yes sSemi HP.out HI.out) ?_)
         rintro en w5 ⟨he5,hk5,hp5⟩
         subst he5
         replace HK:=am (Kept.then_ HK.out (Kept.mono hk5 fun kk h=>.inl h))
         replace HX:=am (Kept.has hk5 HX.out (by omega))
         replace HV:=am (VO.kps HV.out HP.out hk5)
         replace HKID:=am (R_kps HKID.out HP.out hk5)
         replace HP:=am hp5
         have hs5:=Kept.size hk5
         try simp at hs5)
        | (
         go_at_call 64
         (with_reducible refine Calls.mono (count_said g _ e _ HP.out (by rw [HRC.out];exact PR.ok_ne _ _)) ?_)
         rintro en w6 ⟨hk6,he6⟩
         rw [HRC.out] at he6
         obtain ⟨v6,rfl,hv6,hp6⟩:=he6
         obtain rfl:=hv6
         replace HK:=am (Kept.then_ HK.out (Kept.mono hk6 fun kk h=>.inl h))
         replace HX:=am (Kept.has hk6 HX.out (by omega))
         replace HV:=am (VO.kps HV.out HP.out hk6)
         replace HKID:=am (R_kps HKID.out HP.out hk6)
         replace HP:=am hp6
         have hs6:=Kept.size hk6
         try simp at hs6
         have c7:=hci HX.out 0 rfl
         have f7:=Has.frozen HX.out 0
         have q8:Has (World.setCell (w6) ⟨r,0,none⟩ (.int .i64 18)) (r) #[.int .i64 18,.int .i64 a,.int .i64 0,.string ⟨#[]⟩,.slice (some ⟨w3.heap.size,0,none⟩) 1 1,.slice none 0 0,.int .i64 0,.string ⟨#[]⟩,.int .i64 0,.slice none 0 0] 27:=Has.set_ HX.out 0 (.int .i64 18)
         have c8:=hci q8 2 rfl
         have f8:=q8.frozen 2
         clear q8))
      clear c7 f7 c8 f8
      replace HK:=am (Kept.setCellX HK.out (a:=⟨r,0,none⟩) (.inl (.inr rfl)) (.int .i64 18))
      replace HP:=am (PS.setT HP.out HX.out (by decide) (by decide) 0 (.int .i64 18))
      replace HV:=am (VO.setO HV.out (a:=⟨r,0,none⟩) (fun kk h1 h2=>by show kk ≠ r;omega) (.int .i64 18))
      replace HKID:=am (R_far HKID.out (fun kk h1 _=>Below.heap_setCell _ ⟨r,0,none⟩ (.int .i64 18) kk (by show kk ≠ r;omega)))
      replace HX:Aside0 (Has (w6.setCell ⟨r,0,none⟩ (.int .i64 18)) (r) #[.int .i64 18,.int .i64 a,.int .i64 0,.string ⟨#[]⟩,.slice (some ⟨w3.heap.size,0,none⟩) 1 1,.slice none 0 0,.int .i64 0,.string ⟨#[]⟩,.int .i64 0,.slice none 0 0] 27):=⟨by have h:=Has.set_ HX.out 0 (.int .i64 18);exact h⟩
      replace HK:=am (Kept.setCellX HK.out (a:=⟨r,2,none⟩) (.inl (.inr rfl)) (.int .i64 v))
      replace HP:=am (PS.setT HP.out HX.out (by decide) (by decide) 2 (.int .i64 v))
      replace HV:=am (VO.setO HV.out (a:=⟨r,2,none⟩) (fun kk h1 h2=>by show kk ≠ r;omega) (.int .i64 v))
      replace HKID:=am (R_far HKID.out (fun kk h1 _=>Below.heap_setCell _ ⟨r,2,none⟩ (.int .i64 v) kk (by show kk ≠ r;omega)))
      replace HX:Aside0 (Has (((w6.setCell ⟨r,0,none⟩ (.int .i64 18))).setCell ⟨r,2,none⟩ (.int .i64 v)) (r) #[.int .i64 18,.int .i64 a,.int .i64 v,.string ⟨#[]⟩,.slice (some ⟨w3.heap.size,0,none⟩) 1 1,.slice none 0 0,.int .i64 0,.string ⟨#[]⟩,.int .i64 0,.slice none 0 0] 27):=⟨by have h:=Has.set_ HX.out 2 (.int .i64 v);exact h⟩
      go_wp2_with ((
            go_at_call 42
            (with_reducible refine Calls.mono (need_yes sRbra HP.out HJ.out) ?_)
            rintro en w9 ⟨he9,hk9,hp9⟩
            subst he9
            replace HK:=am (Kept.then_ HK.out (Kept.mono hk9 fun kk h=>.inl h))
            replace HX:=am (Kept.has hk9 HX.out (by omega))
            replace HV:=am (VO.kps HV.out HP.out hk9)
            replace HKID:=am (R_kps HKID.out HP.out hk9)
            replace HP:=am hp9
            have hs9:=Kept.size hk9
            try simp at hs9))
      refine bodyPost_end (results_none rfl _ _ _) rfl ?_
      rw [HEQ.out]
      exact ⟨HK.out,rfl,⟨_,HX.out,VO.node 18 a v ⟨#[]⟩ (Kd.R_lower HKID.out (by omega))⟩,HP.out⟩
     | false =>
      replace HEQ:=am (HEQ.out.trans (if_neg (by rw [hj];decide)))
      have HJ:=am hj
      clear hj
      go_wp2_with (first
        | (
         go_at_call 41
         (with_reducible refine Calls.mono (take_yes sSemi HP.out HI.out) ?_)
         rintro en w5 ⟨he5,hk5,hp5⟩
         subst he5
         replace HK:=am (Kept.then_ HK.out (Kept.mono hk5 fun kk h=>.inl h))
         replace HX:=am (Kept.has hk5 HX.out (by omega))
         replace HV:=am (VO.kps HV.out HP.out hk5)
         replace HKID:=am (R_kps HKID.out HP.out hk5)
         replace HP:=am hp5
         have hs5:=Kept.size hk5
         try simp at hs5)
        | (
         go_at_call 64
         (with_reducible refine Calls.mono (count_said g _ e _ HP.out (by rw [HRC.out];exact PR.ok_ne _ _)) ?_)
         rintro en w6 ⟨hk6,he6⟩
         rw [HRC.out] at he6
         obtain ⟨v6,rfl,hv6,hp6⟩:=he6
         obtain rfl:=hv6
         replace HK:=am (Kept.then_ HK.out (Kept.mono hk6 fun kk h=>.inl h))
         replace HX:=am (Kept.has hk6 HX.out (by omega))
         replace HV:=am (VO.kps HV.out HP.out hk6)
         replace HKID:=am (R_kps HKID.out HP.out hk6)
         replace HP:=am hp6
         have hs6:=Kept.size hk6
         try simp at hs6
         have c7:=hci HX.out 0 rfl
         have f7:=Has.frozen HX.out 0
         have q8:Has (World.setCell (w6) ⟨r,0,none⟩ (.int .i64 18)) (r) #[.int .i64 18,.int .i64 a,.int .i64 0,.string ⟨#[]⟩,.slice (some ⟨w3.heap.size,0,none⟩) 1 1,.slice none 0 0,.int .i64 0,.string ⟨#[]⟩,.int .i64 0,.slice none 0 0] 27:=Has.set_ HX.out 0 (.int .i64 18)
         have c8:=hci q8 2 rfl
         have f8:=q8.frozen 2
         clear q8))
      clear c7 f7 c8 f8
      replace HK:=am (Kept.setCellX HK.out (a:=⟨r,0,none⟩) (.inl (.inr rfl)) (.int .i64 18))
      replace HP:=am (PS.setT HP.out HX.out (by decide) (by decide) 0 (.int .i64 18))
      replace HV:=am (VO.setO HV.out (a:=⟨r,0,none⟩) (fun kk h1 h2=>by show kk ≠ r;omega) (.int .i64 18))
      replace HKID:=am (R_far HKID.out (fun kk h1 _=>Below.heap_setCell _ ⟨r,0,none⟩ (.int .i64 18) kk (by show kk ≠ r;omega)))
      replace HX:Aside0 (Has (w6.setCell ⟨r,0,none⟩ (.int .i64 18)) (r) #[.int .i64 18,.int .i64 a,.int .i64 0,.string ⟨#[]⟩,.slice (some ⟨w3.heap.size,0,none⟩) 1 1,.slice none 0 0,.int .i64 0,.string ⟨#[]⟩,.int .i64 0,.slice none 0 0] 27):=⟨by have h:=Has.set_ HX.out 0 (.int .i64 18);exact h⟩
      replace HK:=am (Kept.setCellX HK.out (a:=⟨r,2,none⟩) (.inl (.inr rfl)) (.int .i64 v))
      replace HP:=am (PS.setT HP.out HX.out (by decide) (by decide) 2 (.int .i64 v))
      replace HV:=am (VO.setO HV.out (a:=⟨r,2,none⟩) (fun kk h1 h2=>by show kk ≠ r;omega) (.int .i64 v))
      replace HKID:=am (R_far HKID.out (fun kk h1 _=>Below.heap_setCell _ ⟨r,2,none⟩ (.int .i64 v) kk (by show kk ≠ r;omega)))
      replace HX:Aside0 (Has (((w6.setCell ⟨r,0,none⟩ (.int .i64 18))).setCell ⟨r,2,none⟩ (.int .i64 v)) (r) #[.int .i64 18,.int .i64 a,.int .i64 v,.string ⟨#[]⟩,.slice (some ⟨w3.heap.size,0,none⟩) 1 1,.slice none 0 0,.int .i64 0,.string ⟨#[]⟩,.int .i64 0,.slice none 0 0] 27):=⟨by have h:=Has.set_ HX.out 2 (.int .i64 v);exact h⟩
      go_wp2_with ((
            go_at_call 42
            (with_reducible refine Calls.mono (need_no sRbra HP.out HJ.out) ?_)
            rintro en w9 ⟨he9,hk9⟩
            subst he9
            replace HK:=am (Kept.then_ HK.out (Kept.mono hk9 fun kk h=>.inl h))
            replace HX:=am (Kept.has hk9 HX.out (by omega))
            replace HV:=am (VO.kps HV.out HP.out hk9)
            replace HKID:=am (R_kps HKID.out HP.out hk9)
            have hs9:=Kept.size hk9
            try simp at hs9))
      rw [HEQ.out]
      exact ⟨rfl,HK.out,rfl⟩
   | false =>
    replace HEQ:=am (HEQ.out.trans (if_neg (by rw [hi];decide)))
    have HI:=am hi
    clear hi
    cases hj:isP sRbra l1 with
    | true =>
     replace HEQ:=am (HEQ.out.trans (if_pos hj))
     have HJ:=am hj
     clear hj
     have HNIL:Aside0 (l1 ≠ []):=⟨by intro h;rw [h] at HJ;exact Bool.noConfusion HJ.out⟩
     go_wp2_with (first
       | (
        go_at_call 41
        (with_reducible refine Calls.mono (take_no sSemi HP.out HI.out) ?_)
        rintro en w5 ⟨he5,hk5,hp5⟩
        subst he5
        replace HK:=am (Kept.then_ HK.out (Kept.mono hk5 fun kk h=>.inl h))
        replace HX:=am (Kept.has hk5 HX.out (by omega))
        replace HV:=am (VO.kps HV.out HP.out hk5)
        replace HKID:=am (R_kps HKID.out HP.out hk5)
        replace HP:=am hp5
        have hs5:=Kept.size hk5
        try simp at hs5)
       | (
        go_at_call 60
        (with_reducible refine Calls.mono (is_ps sRbra HP.out) ?_)
        rintro en w6 ⟨he6,hb6⟩
        rw [HJ.out] at he6
        subst he6
        replace HK:=am (Kept.below HK.out hb6)
        replace HP:=am (HP.out.below hb6)
        replace HX:=am (HX.out.belowS hb6)
        replace HV:=am (HV.out.below hb6)
        replace HKID:=am (Kd.R_below HKID.out hb6)
        have hs6:=Below.size hb6
        try simp at hs6)
       | (
        go_at_call 54
        (with_reducible refine Calls.mono (next_ps HP.out HNIL.out) ?_)
        rintro en w7 ⟨he7,hk7,hp7⟩
        obtain ⟨_,_,_,he7⟩:=he7
        subst he7
        replace HK:=am (Kept.then_ HK.out (Kept.mono hk7 fun kk h=>.inl h))
        replace HX:=am (Kept.has hk7 HX.out (by omega))
        replace HV:=am (VO.kps HV.out HP.out hk7)
        replace HKID:=am (R_kps HKID.out HP.out hk7)
        replace HP:=am hp7
        have hs7:=Kept.size hk7
        try simp at hs7))
     refine bodyPost_end (results_none rfl _ _ _) rfl ?_
     rw [HEQ.out]
     exact ⟨HK.out,rfl,⟨_,HX.out,VO.node 17 a 0 ⟨#[]⟩ (Kd.R_lower HKID.out (by omega))⟩,HP.out⟩
    | false =>
     replace HEQ:=am (HEQ.out.trans (if_neg (by rw [hj];decide)))
     have HJ:=am hj
     clear hj
     cases hk:isP sComma l1 with
     | false =>
      replace HEQ:=am (HEQ.out.trans (if_neg (by rw [hk];decide)))
      have HKK:=am hk
      clear hk
      go_wp2_with (first
        | (
         go_at_call 41
         (with_reducible refine Calls.mono (take_no sSemi HP.out HI.out) ?_)
         rintro en w5 ⟨he5,hk5,hp5⟩
         subst he5
         replace HK:=am (Kept.then_ HK.out (Kept.mono hk5 fun kk h=>.inl h))
         replace HX:=am (Kept.has hk5 HX.out (by omega))
         replace HV:=am (VO.kps HV.out HP.out hk5)
         replace HKID:=am (R_kps HKID.out HP.out hk5)
         replace HP:=am hp5
         have hs5:=Kept.size hk5
         try simp at hs5)
        | (
         go_at_call 60
         (with_reducible refine Calls.mono (is_ps sRbra HP.out) ?_)
         rintro en w6 ⟨he6,hb6⟩
         rw [HJ.out] at he6
         subst he6
         replace HK:=am (Kept.below HK.out hb6)
         replace HP:=am (HP.out.below hb6)
         replace HX:=am (HX.out.belowS hb6)
         replace HV:=am (HV.out.below hb6)
         replace HKID:=am (Kd.R_below HKID.out hb6)
         have hs6:=Below.size hb6
         try simp at hs6)
        | (
         go_at_call 42
         (with_reducible refine Calls.mono (need_no sComma HP.out HKK.out) ?_)
         rintro en w7 ⟨he7,hk7⟩
         subst he7
         replace HK:=am (Kept.then_ HK.out (Kept.mono hk7 fun kk h=>.inl h))
         replace HX:=am (Kept.has hk7 HX.out (by omega))
         replace HV:=am (VO.kps HV.out HP.out hk7)
         replace HKID:=am (R_kps HKID.out HP.out hk7)
         have hs7:=Kept.size hk7
         try simp at hs7))
      rw [HEQ.out]
      exact ⟨rfl,HK.out,rfl⟩
     | true =>
      replace HEQ:=am (HEQ.out.trans (if_pos hk))
      have HKK:=am hk
      clear hk
      go_wp2_with (first
        | (
         go_at_call 41
         (with_reducible refine Calls.mono (take_no sSemi HP.out HI.out) ?_)
         rintro en w5 ⟨he5,hk5,hp5⟩
         subst he5
         replace HK:=am (Kept.then_ HK.out (Kept.mono hk5 fun kk h=>.inl h))
         replace HX:=am (Kept.has hk5 HX.out (by omega))
         replace HV:=am (VO.kps HV.out HP.out hk5)
         replace HKID:=am (R_kps HKID.out HP.out hk5)
         replace HP:=am hp5
         have hs5:=Kept.size hk5
         try simp at hs5)
        | (
         go_at_call 60
         (with_reducible refine Calls.mono (is_ps sRbra HP.out) ?_)
         rintro en w6 ⟨he6,hb6⟩
         rw [HJ.out] at he6
         subst he6
         replace HK:=am (Kept.below HK.out hb6)
         replace HP:=am (HP.out.below hb6)
         replace HX:=am (HX.out.belowS hb6)
         replace HV:=am (HV.out.below hb6)
         replace HKID:=am (Kd.R_below HKID.out hb6)
         have hs6:=Below.size hb6
         try simp at hs6)
        | (
         go_at_call 42
         (with_reducible refine Calls.mono (need_yes sComma HP.out HKK.out) ?_)
         rintro en w7 ⟨he7,hk7,hp7⟩
         subst he7
         replace HK:=am (Kept.then_ HK.out (Kept.mono hk7 fun kk h=>.inl h))
         replace HX:=am (Kept.has hk7 HX.out (by omega))
         replace HV:=am (VO.kps HV.out HP.out hk7)
         replace HKID:=am (R_kps HKID.out HP.out hk7)
         replace HP:=am hp7
         have hs7:=Kept.size hk7
         try simp at hs7))
      have hD:=below_drew (Below.refl w7.heap.size w7)
      replace HK:=am (Kept.below HK.out hD)
      replace HP:=am (HP.out.below hD)
      replace HX:=am (HX.out.belowS hD)
      replace HV:=am (HV.out.below hD)
      replace HKID:=am (Kd.R_below HKID.out hD)
      clear hD
      have c8:=hci HX.out 4 rfl
      have f8:=Has.frozen HX.out 4
      obtain ⟨W,hW⟩:∃ W,w7.drew = W:=⟨_,rfl⟩
      rw [hW] at HK HP HX HV HKID c8
      refine region_treeT 9 (by kernel_rfl) (by kernel_rfl) (fun w' => w'.cell? ⟨r,4,none⟩ = some (.slice (some ⟨w3.heap.size,0,none⟩) 1 1)) (hW ▸ c8) fun hS => ?_
      rw [hW] at hS ⊢
      clear hW
      simp only [List.take_succ_cons,List.take_zero]
      generalize hQQ:tailQ _ _ _ _ = QQ
      have hsure:Sure QQ:=by
       rw [<- hQQ]
       intro c a a' w1 hd h
       simp +zetaDelta only [tailQ,Exit.then,Exit.inBlock,bodyPost] at h ⊢
       simpa [hd] using h
      refine tqh hsure hS 0 ?_
      apply Exists.intro
      apply And.intro
      ·rintro w' k1
       apply VR.mk
       go_simp
       with_reducible rfl
      simp only [sA,sB,sC]
      refine tqh hsure hS 1 ?_
      apply Exists.intro
      apply And.intro
      ·rintro w' k1
       apply VR.mk
       go_simp
       with_reducible rfl
      simp only [sA,sB,sC]
      refine tqh hsure hS 2 ?_
      apply Exists.intro
      apply And.intro
      ·rintro w' k1
       apply VR.mk
       go_simp
       with_reducible rfl
      simp only [sA,sB,sC]
      refine tqh hsure hS 3 ?_
      apply Exists.intro
      apply And.intro
      ·rintro w' k1
       apply VR.mk
       go_simp
       with_reducible rfl
      simp only [sA,sB,sC]
      refine tqh hsure hS 4 ?_
      apply Exists.intro
      apply And.intro
      ·rintro w' k1
       apply VR.mk
       go_simp
       with_reducible rfl
      simp only [sA,sB,sC]
      refine tqh hsure hS 5 ?_
      apply Exists.intro
      apply And.intro
      ·rintro w' k1
       apply VR.mk
       go_simp
       with_reducible rfl
      simp only [sA,sB,sC]
      refine tqh hsure hS 6 ?_
      apply Exists.intro
      apply And.intro
      ·rintro w' k1
       apply VR.mk
       go_simp
       with_reducible rfl
      simp only [sA,sB,sC]
      refine tree_1Q (i:=7) (by kernel_rfl) ?_
      refine step_callQ (by rfl) (by rfl) (by rfl) (ER.go (by go_simp;with_reducible exact ⟨rfl,rfl⟩)) ?_
      have hne2:treesP e n d sRbra l1.tail ≠ .out:=fun h=>HNE.out (by rw [HEQ.out,h] <;> rfl)
      refine (HTTS.out g e d sRbra l1.tail W h0 (by omega) HP.out hne2).mono ?_
      intro en w1 hq
      rcases hq.ways with ⟨v,ks,l2,hr,rfl,hk,hv,hp⟩ | ⟨b,er,hr,rfl,hk⟩
      ·have hsr:r < W.heap.size:=HX.out.lt
       rw [hr] at HEQ
       simp only [PR.andThen] at HEQ
       have hks : ¬ ks.length >= 1000000:=fun h=>HNE.out (HEQ.out.trans (if_pos h))
       replace HEQ:=am (HEQ.out.trans (if_neg hks))
       have HKID0:=HKID
       replace HK:=am (Kept.then_ HK.out (Kept.mono hk fun kk h=>.inl h))
       replace HX:=am (Kept.has hk HX.out (by omega))
       replace HV:=am (VO.kps HV.out HP.out hk)
       replace HKID:=am (R_kps HKID.out HP.out hk)
       replace HP:=am hp
       have hs8:=Kept.size hk
       try simp at hs8
       have hX1:=hci HX.out 4 rfl
       have fX1:=HX.out.frozen 4
       refine .inl ⟨v,rfl,hX1, ?_⟩
       obtain ⟨A2,c2,rfl⟩:=Kd.R_slice hv
       simp only [sA,sB,sC]
       refine tree_1Q (i:=8) (by kernel_rfl) ?_
       refine step_list (by rfl) ?_
       have hlit:∀ k,(Value.ownBlock (.slice (some ⟨w3.heap.size,0,none⟩) 1 1)) = some k -> w2.heap.size <= k /\ k < W.heap.size:=fun k hk=>⟨((Kd.R_bound HKID0.out).1 k hk).2.1,((Kd.R_bound HKID0.out).1 k hk).2.2.1⟩
       refine append27 Tryd.underlying22 info27 (w2.heap.size) (W.heap.size) rfl _ _ rfl (.slice (some ⟨w3.heap.size,0,none⟩) 1 1) [x] ks A2 ks.length c2 (by rfl) (by rfl) HKID.out hv (by have:=hlit _ rfl;omega) (fun kk hkk=>(hlit kk hkk).2) (by simp;omega) (by have:=hlit _ rfl;omega) ?_
       intro v1 w2 hR2 hG2
       have hP2:=HP.out.grown hG2 (fun k hk=>R_own27 HKID.out k hk)
       have hrn:some r ≠ Value.ownBlock (.slice (some ⟨w3.heap.size,0,none⟩) 1 1):=fun h=>by have:=(hlit r h.symm).1;omega
       have hX2:=HX.out.of_block (hG2.block r HX.out.lt hrn)
       have hK2:=Kept.grown HK.out hG2 (fun k hk=>.inr ⟨by have:=(hlit k hk).1;omega,by have:=(hlit k hk).2;omega⟩)
       obtain ⟨A3,c3,rfl⟩:=Kd.R_slice hR2
       have hX3:=hci hX2 4 rfl
       have fX3:=hX2.frozen 4
       clear hX1 fX1
       refine ⟨hX3, ?_⟩
       rw [<- hQQ]
       refine tree_doneT (by kernel_rfl) ?_
       simp only [List.drop_succ_cons,List.drop_zero,Act.put,List.setIfInBounds_toArray,List.set_cons_zero,List.set_cons_succ]
       go_wp2
       refine bodyPost_end (results_none rfl _ _ _) rfl ?_
       rw [HEQ.out]
       exact ⟨Kept.setCellX hK2 (a:=⟨r,4,none⟩) (.inl (.inr rfl)) _,rfl,⟨_,hX2.set_ 4 _,VO.node 17 a 0 ⟨#[]⟩ (Kd.R_lower (R_far hR2 (fun kk h1 _=>Below.heap_setCell _ ⟨r,4,none⟩ _ kk (by show kk ≠ r;omega))) (by omega))⟩,hP2.setT hX2 (by decide) (by decide) 4 _⟩
      ·refine .inr ⟨_,rfl, ?_⟩
       replace HEQ:Aside0 (R = .bad b er):=⟨by rw [HEQ.out,hr] <;> rfl⟩
       rw [<- hQQ,HEQ.out]
       exact ⟨rfl,Kept.then_ HK.out (Kept.mono hk fun kk h=>.inl h),rfl⟩
end Go.Proofs.YtngpgdmafmkddaaDoor.Par
end
section
namespace Go.Proofs.YtngpgdmafmkddaaDoor.Par
open Go.Proofs.YtngpgdmafmkddaaDoor.Calm Go.RowKit Go.Proofs.YtngpgdmafmkddaaDoorW.PrintWords Go.Proofs.YtngpgdmafmkddaaDoorW.PrintLast Go.Proofs.YtngpgdmafmkddaaDoorW.PrintMore
open Go.Proofs.YtngpgdmafmkddaaDoor.PParseBlanks (S35 S25 S27 k35 k25 k27 rd_T35 rd_T25 rd_T27 at_T35 at_T25 at_T27)
set_option linter.unusedVariables false
set_option linter.unusedSimpArgs false
def II (g:Nat) (d:Int) (b r:Nat) (a0:Int) (tx:ByteArray) (w:World) (xs:List S27):Prop:=
 ∃ v,Has w b #[.pointer (some ⟨g,0,none⟩)] 52 /\ Has w (b + 1) #[.pointer (some ⟨r,0,none⟩)] 115 /\ Has w (b + 2) #[.int .i64 d] 3 /\ Has w r #[.int .i64 14,.int .i64 a0,.int .i64 0,.string tx,v,.slice none 0 0,.int .i64 0,.string ⟨#[]⟩,.int .i64 0,.slice none 0 0] 27 /\ k27.R 27 w (b + 3) Any v xs
theorem II.of {g b r:Nat} {d a0:Int} {tx:ByteArray} {w:World} {xs:List S27} {v:Value} (h1:Has w b #[.pointer (some ⟨g,0,none⟩)] 52) (h2:Has w (b + 1) #[.pointer (some ⟨r,0,none⟩)] 115) (h3:Has w (b + 2) #[.int .i64 d] 3) (h4:Has w r #[.int .i64 14,.int .i64 a0,.int .i64 0,.string tx,v,.slice none 0 0,.int .i64 0,.string ⟨#[]⟩,.int .i64 0,.slice none 0 0] 27) (h5:k27.R 27 w (b + 3) Any v xs):II g d b r a0 tx w xs:=⟨v,h1,h2,h3,h4,h5⟩
theorem II.kept {g b r:Nat} {d a0:Int} {tx:ByteArray} {w w' : World} {xs:List S27} (hgb:g < b) (hrg:r ≠ g) (h:II g d b r a0 tx w xs) (hk:KeptG g w w'):II g d b r a0 tx w' xs:=by
 obtain ⟨v,h1,h2,h3,h4,h5⟩:=h
 refine ⟨v,Kept.has hk h1 (by omega),Kept.has hk h2 (by omega),Kept.has hk h3 (by omega),Kept.has hk h4 hrg,Kd.R_mono (Kd.R_step (Kd.R_bound h5) fun k hk1 hk2=>hk.block k hk2 (by have:=hk1.2.1;omega)) fun _ _=>trivial⟩
def rdInits (e d:Int) (n:Nat) (xs:List S27) (l:List S35):PR (List S27):=if xs.length >= 1000000 then .out else (nameP e l).andThen fun s l1=>(needP e sColon l1).andThen fun _ l2=>(climbP e n (d + 1) true 1 l2).andThen fun y l3=>.ok (xs ++ [mkE 15 (atP e l) 0 s [y] []]) l3
abbrev SI (g r b:Nat) (k:Nat):Prop:=k = g \/ k = r \/ b + 3 <= k
theorem append27d {P:Program} {ops:Array Oper} {rest:List Oper} {o:Oper} {a:Act} {Q:Exit -> Act -> World -> Prop} {W:World} (hP:P.underlying 22 = some (.slice 27)) (hI:(P.info? 27).map (fun i=>(i.zero,i.size,i.bytes)) = some (some (.agg #[.int .i64 0,.int .i64 0,.int .i64 0,.string ⟨#[]⟩,.slice none 0 0,.slice none 0 0,.int .i64 0,.string ⟨#[]⟩,.int .i64 0,.slice none 0 0]),10,144)) (B B2:Nat) (hgd:o.guard = none) (s x:Operand) (dd:Nat) (hdd:o.dst = some dd)
  (ho:o.op = .call { callee:=.builtin .append,args:=#[s,x],argTypes:=#[22,22] }) (v:Value) (xs ys:List S27) (A:Option Addr) (m c:Nat) (hs:a.eval s = v) (hx:a.eval x = .slice A m c)
  (HO:k27.R 27 W B Any v xs) (HY:k27.R 27 W B2 Any (.slice A m c) ys) (hB:B <= B2) (hsep:∀ k,v.ownBlock = some k -> k < B2) (hl:xs.length + ys.length <= 2000000) (hbase:B <= W.heap.size)
  (h:∀ v1 w1,k27.R 27 w1 B Any v1 (xs ++ ys) -> W.grownBy w1 v.ownBlock -> wpList P ops Q rest { tmps:=a.tmps.setIfInBounds dd v1,defers:=a.defers } w1):wpList P ops Q (o :: rest) a W:=by
 refine append27 hP hI B B2 hgd s x ho v xs ys A m c hs hx HO HY hB hsep hl hbase ?_
 intro v1 w1 h1 h2
 rw [hdd]
 exact h v1 w1 h1 h2
set_option maxRecDepth 100000 in
set_option maxHeartbeats 8000000 in
theorem inits_rd {n:Nat} (HT:TreeOK n) (g:Nat) (e d:Int) (h0:0 <= d) (h1:d + 1 <= 1000) (b r:Nat) (hgb:g < b) (hrb:r < b) (hrg:r ≠ g) (a0:Int) (tx:ByteArray) (xs:List S27) (l:List S35) (w:World) (HI:II g d b r a0 tx w xs) (HP:PS w g l e) (hne:rdInits e d n xs l ≠ .out) :
  Calls Tryd.prog 89 #[.pointer (some ⟨b,0,none⟩),.pointer (some ⟨b + 2,0,none⟩),.pointer (some ⟨b + 1,0,none⟩)] w (LPost g e (SI g r b) (II g d b r a0 tx) (rdInits e d n xs l) w):=by
 unfold TreeOK at HT
 have HTT:=am HT
 have hu27:=Tryd.underlying27
 have kw:IntKind.i64.wrap (d + 1) = d + 1:=IntWalk.i64_in _ (by omega)
 obtain ⟨R,hR⟩:∃ R,rdInits e d n xs l = R:=⟨_,rfl⟩
 have hE:=hR
 unfold rdInits at hE
 rw [hR] at hne ⊢
 by_cases hx9:xs.length >= 1000000
 ·rw [if_pos hx9] at hE
  exact absurd hE.symm hne
 rw [if_neg hx9] at hE
 obtain ⟨a1,ha1⟩:∃ a,atP e l = a:=⟨_,rfl⟩
 rw [ha1] at hE
 have HAT:=am ha1
 have HEQ:=am hE.symm
 have HNE:=am hne
 have hgw:=HP.glt
 obtain ⟨v,hb0,hb1,hb2,hbx,hRW⟩:=HI
 obtain ⟨A,c,rfl⟩:=Kd.R_slice hRW
 have hsl:=fun k hk=>(R_ownb hRW k hk).2
 have hRW0:=am hRW
 have HB0:=am hb0
 have HB1:=am hb1
 have HB2:=am hb2
 have HX:=am hbx
 have hbw:=hb2.lt
 have HK:Aside0 (KeptG g w w):=⟨Kept.refl _ w⟩
 have HP0:=am HP
 have HP:=am HP
 clear hR hne hE ha1 HT hb0 hb1 hb2 hbx hRW
 go_enter Tryd.func89,Tryd.ntmps89
 go_upto_region 0 with fail
 go_cut [3] (fun v3 wc => ∃ (s:ByteArray) (l1:List S35) (by1:Nat),v3 = .pointer (some ⟨by1,0,none⟩) /\ w.heap.size <= by1 /\ Aside0 (nameP e l = .ok s l1) /\ Aside0 (KeptG g w wc) /\ Aside0 (PS wc g l1 e) /\ Aside0 (Has wc by1 #[.int .i64 15,.int .i64 a1,.int .i64 0,.string s,.slice none 0 0,.slice none 0 0,.int .i64 0,.string ⟨#[]⟩,.int .i64 0,.slice none 0 0] 27))
 case first =>
  go_wp2_with fail
  have hD:=below_drew (Below.refl (w).heap.size (w))
  replace HK:=am (Kept.below HK.out hD)
  replace HP:=am (HP.out.below hD)
  replace HB0:=am (HB0.out.belowS hD)
  replace HB1:=am (HB1.out.belowS hD)
  replace HB2:=am (HB2.out.belowS hD)
  replace HX:=am (HX.out.belowS hD)
  clear hD
  obtain ⟨W1,hW1⟩:∃ W,(w).drew = W:=⟨_,rfl⟩
  rw [hW1] at HK HP HB0 HB1 HB2 HX
  have hzW1:(w).heap.size <= W1.heap.size:=by rw [<- hW1];exact Nat.le_refl _
  try simp at hzW1
  refine region_treeR 6 (by kernel_rfl) (by kernel_rfl) (fun w' => Has w' (b) #[.pointer (some ⟨g,0,none⟩)] 52) (hW1 ▸ HB0.out) fun hS => ?_
  rw [hW1] at hS ⊢
  clear hW1
  simp only [List.take_succ_cons,List.take_zero]
  generalize hQQ:tailK _ _ = QQ
  have hsure:Sure QQ:=by
   rw [<- hQQ]
   intro c a a' w1 hd h
   simp +zetaDelta only [tailK,Exit.then,Exit.inBlock,bodyPost] at h ⊢
   simpa [hd] using h
  refine tqh hsure hS 0 ?_
  apply Exists.intro
  apply And.intro
  ·rintro w' k1
   have cc0:=hci k1 0 rfl
   apply VR.mk
   go_simp
   with_reducible rfl
  try simp only [sA,sB,sC]
  refine tqh hsure hS 2 ?_
  apply Exists.intro
  apply And.intro
  ·rintro w' k1
   have cc0:=hci k1 0 rfl
   apply VR.mk
   go_simp
   with_reducible rfl
  try simp only [sA,sB,sC]
  refine tree_2Q (i:=1) (k:=5) (by kernel_rfl) ?_ ?_
  ·skip
   refine step_callQ (by rfl) (by rfl) (by rfl) (ER.go (by go_simp;with_reducible exact ⟨rfl,rfl⟩)) ?_
   refine (at_ps HP.out).mono ?_
   rintro en w1 ⟨he1,hb1⟩
   rw [HAT.out] at he1
   subst he1
   replace HK:=am (Kept.below HK.out hb1)
   replace HP:=am (HP.out.below hb1)
   replace HB0:=am (HB0.out.belowS hb1)
   replace HB1:=am (HB1.out.belowS hb1)
   replace HB2:=am (HB2.out.belowS hb1)
   replace HX:=am (HX.out.belowS hb1)
   have hs1:=Below.size hb1
   try simp at hs1
   refine .inl ⟨_,rfl,HB0.out, ?_⟩
   simp only [sA,sB,sC]
   refine tree_2Q (i:=3) (k:=5) (by kernel_rfl) ?_ ?_
   ·skip
    refine step_callQ (by rfl) (by rfl) (by rfl) (ER.go (by go_simp;with_reducible exact ⟨rfl,rfl⟩)) ?_
    refine (name_said g l e _ HP.out).mono ?_
    intro en w2 hq
    rcases hq.ways with ⟨v,s,l1,hr,rfl,hk,rfl,hp⟩ | ⟨bb,er,hr,rfl,hk⟩
    ·have HA:=am hr
     replace HK:=am (Kept.then_ HK.out hk)
     replace HB0:=am (Kept.has hk HB0.out (by omega))
     replace HB1:=am (Kept.has hk HB1.out (by omega))
     replace HB2:=am (Kept.has hk HB2.out (by omega))
     replace HX:=am (Kept.has hk HX.out (by omega))
     replace HP:=am hp
     have hs2:=Kept.size hk
     try simp at hs2
     clear hr hk
     refine .inl ⟨_,rfl,HB0.out, ?_⟩
     simp only [sA,sB,sC]
     refine tqh hsure HB0.out 4 ?_
     apply Exists.intro
     apply And.intro
     ·rintro w' k1
      apply VR.mk
      go_simp
      with_reducible rfl
     try simp only [sA,sB,sC]
     refine tree_1Q (i:=5) (by kernel_rfl) ?_
     refine step_list (by rfl) ?_
     go_wp2
     have hyw:w.heap.size <= (w2).heap.size:=Kept.size HK.out
     have ba1:=below_alloc (Below.refl (w2).heap.size (w2)) (Obj.cells #[.int .i64 0,.int .i64 0,.int .i64 0,.string ⟨#[]⟩,.slice none 0 0,.slice none 0 0,.int .i64 0,.string ⟨#[]⟩,.int .i64 0,.slice none 0 0] 27)
     replace HK:=am (Kept.below HK.out ba1)
     replace HP:=am (HP.out.below ba1)
     replace HB0:=am (HB0.out.belowS ba1)
     replace HB1:=am (HB1.out.belowS ba1)
     replace HB2:=am (HB2.out.belowS ba1)
     replace HX:=am (HX.out.belowS ba1)
     clear ba1
     have HY:=am (Has.new (w2) #[.int .i64 0,.int .i64 0,.int .i64 0,.string ⟨#[]⟩,.slice none 0 0,.slice none 0 0,.int .i64 0,.string ⟨#[]⟩,.int .i64 0,.slice none 0 0] 27)
     refine ⟨HB0.out, ?_⟩
     rw [<- hQQ]
     refine tree_doneR (by kernel_rfl) ?_
     refine restQ_tree (fun _=>True) ?_
     clear hsure hS hQQ
     refine tree_1Q (i:=6) (by kernel_rfl) ?_
     refine step_list (by rfl) ?_
     have st1:=tt
     go_wp2_with ((
           (with_reducible refine gate_store (t:=27) (p:=3) rfl ?_)
           clear st1
           go_must (
            refine store_event (t:=27) (p:=3) (v:=.tmp 8) (w1:=World.setRow (w2.alloc (Obj.cells #[.int .i64 0,.int .i64 0,.int .i64 0,.string ⟨#[]⟩,.slice none 0 0,.slice none 0 0,.int .i64 0,.string ⟨#[]⟩,.int .i64 0,.slice none 0 0] 27)) ((w2).heap.size) #[.int .i64 15,.int .i64 a1,.int .i64 0,.string s,.slice none 0 0,.slice none 0 0,.int .i64 0,.string ⟨#[]⟩,.int .i64 0,.slice none 0 0]) ?hg ?ho ?hn ?hr ?_
            (case ho=>rfl)
            (case hg=>rfl)
            (case hn=>rfl)
            (case hr=>exact store27 (w2.alloc (Obj.cells #[.int .i64 0,.int .i64 0,.int .i64 0,.string ⟨#[]⟩,.slice none 0 0,.slice none 0 0,.int .i64 0,.string ⟨#[]⟩,.int .i64 0,.slice none 0 0] 27)) ((w2).heap.size) _ _ HY.out rfl rfl (by first | kernel_rfl | (simp [Value.oneCell'])) _ _ _ _ rfl rfl rfl)
            intro w73 hw73
            subst hw73
            have st2:=tt)))
     clear st2
     replace HK:=am (kept_rowX HK.out (g:=(w2).heap.size) (.inr (by show w.heap.size <= (w2).heap.size;omega)) #[.int .i64 15,.int .i64 a1,.int .i64 0,.string s,.slice none 0 0,.slice none 0 0,.int .i64 0,.string ⟨#[]⟩,.int .i64 0,.slice none 0 0])
     replace HP:=am (PS.rowP HP.out HY.out #[.int .i64 15,.int .i64 a1,.int .i64 0,.string s,.slice none 0 0,.slice none 0 0,.int .i64 0,.string ⟨#[]⟩,.int .i64 0,.slice none 0 0])
     replace HB0:=am (has_row_other HB0.out (g:=(w2).heap.size) (cs':=#[.int .i64 15,.int .i64 a1,.int .i64 0,.string s,.slice none 0 0,.slice none 0 0,.int .i64 0,.string ⟨#[]⟩,.int .i64 0,.slice none 0 0]) (by omega))
     replace HB1:=am (has_row_other HB1.out (g:=(w2).heap.size) (cs':=#[.int .i64 15,.int .i64 a1,.int .i64 0,.string s,.slice none 0 0,.slice none 0 0,.int .i64 0,.string ⟨#[]⟩,.int .i64 0,.slice none 0 0]) (by omega))
     replace HB2:=am (has_row_other HB2.out (g:=(w2).heap.size) (cs':=#[.int .i64 15,.int .i64 a1,.int .i64 0,.string s,.slice none 0 0,.slice none 0 0,.int .i64 0,.string ⟨#[]⟩,.int .i64 0,.slice none 0 0]) (by omega))
     replace HX:=am (has_row_other HX.out (g:=(w2).heap.size) (cs':=#[.int .i64 15,.int .i64 a1,.int .i64 0,.string s,.slice none 0 0,.slice none 0 0,.int .i64 0,.string ⟨#[]⟩,.int .i64 0,.slice none 0 0]) (by omega))
     replace HY:=am (has_row HY.out #[.int .i64 15,.int .i64 a1,.int .i64 0,.string s,.slice none 0 0,.slice none 0 0,.int .i64 0,.string ⟨#[]⟩,.int .i64 0,.slice none 0 0])
     first | refine ⟨trivial,tree_endQ (by kernel_rfl) ?_⟩ | refine tree_endQ (by kernel_rfl) ?_
     go_wp2_with fail
     go_meet
     case rel=>exact ⟨s,l1,_,rfl,hyw,HA,HK,HP,HY⟩
    ·have HA:=am hr
     refine .inr ⟨_,rfl, ?_⟩
     replace HK:=am (Kept.then_ HK.out hk)
     replace HB0:=am (Kept.has hk HB0.out (by omega))
     replace HB1:=am (Kept.has hk HB1.out (by omega))
     replace HB2:=am (Kept.has hk HB2.out (by omega))
     replace HX:=am (Kept.has hk HX.out (by omega))
     have hs2:=Kept.size hk
     try simp at hs2
     rw [<- hQQ]
     have HE:Aside0 (R = .bad bb er):=⟨by rw [HEQ.out];simp [needP,PR.andThen,HA.out]⟩
     have he:=HE.out
     subst he
     exact ⟨rfl,HK.out.mono fun k h=>.inl h,rfl⟩
   ·refine step_list (by rfl) ?_
    go_wp2
    have hyw:w.heap.size <= (w1).heap.size:=Kept.size HK.out
    have ba1:=below_alloc (Below.refl (w1).heap.size (w1)) (Obj.cells #[.int .i64 0,.int .i64 0,.int .i64 0,.string ⟨#[]⟩,.slice none 0 0,.slice none 0 0,.int .i64 0,.string ⟨#[]⟩,.int .i64 0,.slice none 0 0] 27)
    replace HK:=am (Kept.below HK.out ba1)
    replace HP:=am (HP.out.below ba1)
    replace HB0:=am (HB0.out.belowS ba1)
    replace HB1:=am (HB1.out.belowS ba1)
    replace HB2:=am (HB2.out.belowS ba1)
    replace HX:=am (HX.out.belowS ba1)
    clear ba1
    have HY:=am (Has.new (w1) #[.int .i64 0,.int .i64 0,.int .i64 0,.string ⟨#[]⟩,.slice none 0 0,.slice none 0 0,.int .i64 0,.string ⟨#[]⟩,.int .i64 0,.slice none 0 0] 27)
    refine ⟨HB0.out, ?_⟩
    refine tree_1Q (i:=3) (by kernel_rfl) ?_
    refine step_callQ (by rfl) (by rfl) (by rfl) (ER.go (by go_simp;with_reducible exact ⟨rfl,rfl⟩)) ?_
    refine (name_said g l e _ HP.out).mono ?_
    intro en w2 hq
    rcases hq.ways with ⟨v,s,l1,hr,rfl,hk,rfl,hp⟩ | ⟨bb,er,hr,rfl,hk⟩
    ·have HA:=am hr
     replace HK:=am (Kept.then_ HK.out hk)
     replace HB0:=am (Kept.has hk HB0.out (by omega))
     replace HB1:=am (Kept.has hk HB1.out (by omega))
     replace HB2:=am (Kept.has hk HB2.out (by omega))
     replace HX:=am (Kept.has hk HX.out (by omega))
     replace HY:=am (Kept.has hk HY.out (by omega))
     replace HP:=am hp
     have hs2:=Kept.size hk
     try simp at hs2
     clear hr hk
     refine .inl ⟨_,rfl,HB0.out, ?_⟩
     simp only [sA,sB,sC]
     refine tqh hsure HB0.out 4 ?_
     apply Exists.intro
     apply And.intro
     ·rintro w' k1
      apply VR.mk
      go_simp
      with_reducible rfl
     try simp only [sA,sB,sC]
     rw [<- hQQ]
     refine tree_doneR (by kernel_rfl) ?_
     refine restQ_tree (fun _=>True) ?_
     clear hsure hS hQQ
     refine tree_1Q (i:=6) (by kernel_rfl) ?_
     refine step_list (by rfl) ?_
     have st1:=tt
     go_wp2_with ((
           (with_reducible refine gate_store (t:=27) (p:=3) rfl ?_)
           clear st1
           go_must (
            refine store_event (t:=27) (p:=3) (v:=.tmp 8) (w1:=World.setRow w2 ((w1).heap.size) #[.int .i64 15,.int .i64 a1,.int .i64 0,.string s,.slice none 0 0,.slice none 0 0,.int .i64 0,.string ⟨#[]⟩,.int .i64 0,.slice none 0 0]) ?hg ?ho ?hn ?hr ?_
            (case ho=>rfl)
            (case hg=>rfl)
            (case hn=>rfl)
            (case hr=>exact store27 w2 ((w1).heap.size) _ _ HY.out rfl rfl (by first | kernel_rfl | (simp [Value.oneCell'])) _ _ _ _ rfl rfl rfl)
            intro w73 hw73
            subst hw73
            have st2:=tt)))
     clear st2
     replace HK:=am (kept_rowX HK.out (g:=(w1).heap.size) (.inr (by show w.heap.size <= (w1).heap.size;omega)) #[.int .i64 15,.int .i64 a1,.int .i64 0,.string s,.slice none 0 0,.slice none 0 0,.int .i64 0,.string ⟨#[]⟩,.int .i64 0,.slice none 0 0])
     replace HP:=am (PS.rowP HP.out HY.out #[.int .i64 15,.int .i64 a1,.int .i64 0,.string s,.slice none 0 0,.slice none 0 0,.int .i64 0,.string ⟨#[]⟩,.int .i64 0,.slice none 0 0])
     replace HB0:=am (has_row_other HB0.out (g:=(w1).heap.size) (cs':=#[.int .i64 15,.int .i64 a1,.int .i64 0,.string s,.slice none 0 0,.slice none 0 0,.int .i64 0,.string ⟨#[]⟩,.int .i64 0,.slice none 0 0]) (by omega))
     replace HB1:=am (has_row_other HB1.out (g:=(w1).heap.size) (cs':=#[.int .i64 15,.int .i64 a1,.int .i64 0,.string s,.slice none 0 0,.slice none 0 0,.int .i64 0,.string ⟨#[]⟩,.int .i64 0,.slice none 0 0]) (by omega))
     replace HB2:=am (has_row_other HB2.out (g:=(w1).heap.size) (cs':=#[.int .i64 15,.int .i64 a1,.int .i64 0,.string s,.slice none 0 0,.slice none 0 0,.int .i64 0,.string ⟨#[]⟩,.int .i64 0,.slice none 0 0]) (by omega))
     replace HX:=am (has_row_other HX.out (g:=(w1).heap.size) (cs':=#[.int .i64 15,.int .i64 a1,.int .i64 0,.string s,.slice none 0 0,.slice none 0 0,.int .i64 0,.string ⟨#[]⟩,.int .i64 0,.slice none 0 0]) (by omega))
     replace HY:=am (has_row HY.out #[.int .i64 15,.int .i64 a1,.int .i64 0,.string s,.slice none 0 0,.slice none 0 0,.int .i64 0,.string ⟨#[]⟩,.int .i64 0,.slice none 0 0])
     first | refine ⟨trivial,tree_endQ (by kernel_rfl) ?_⟩ | refine tree_endQ (by kernel_rfl) ?_
     go_wp2_with fail
     go_meet
     case rel=>exact ⟨s,l1,_,rfl,hyw,HA,HK,HP,HY⟩
    ·have HA:=am hr
     refine .inr ⟨_,rfl, ?_⟩
     replace HK:=am (Kept.then_ HK.out hk)
     replace HB0:=am (Kept.has hk HB0.out (by omega))
     replace HB1:=am (Kept.has hk HB1.out (by omega))
     replace HB2:=am (Kept.has hk HB2.out (by omega))
     replace HX:=am (Kept.has hk HX.out (by omega))
     replace HY:=am (Kept.has hk HY.out (by omega))
     have hs2:=Kept.size hk
     try simp at hs2
     rw [<- hQQ]
     have HE:Aside0 (R = .bad bb er):=⟨by rw [HEQ.out];simp [needP,PR.andThen,HA.out]⟩
     have he:=HE.out
     subst he
     exact ⟨rfl,HK.out.mono fun k h=>.inl h,rfl⟩
  ·refine step_list (by rfl) ?_
   go_wp2
   have hyw:w.heap.size <= (W1).heap.size:=Kept.size HK.out
   have ba1:=below_alloc (Below.refl (W1).heap.size (W1)) (Obj.cells #[.int .i64 0,.int .i64 0,.int .i64 0,.string ⟨#[]⟩,.slice none 0 0,.slice none 0 0,.int .i64 0,.string ⟨#[]⟩,.int .i64 0,.slice none 0 0] 27)
   replace HK:=am (Kept.below HK.out ba1)
   replace HP:=am (HP.out.below ba1)
   replace HB0:=am (HB0.out.belowS ba1)
   replace HB1:=am (HB1.out.belowS ba1)
   replace HB2:=am (HB2.out.belowS ba1)
   replace HX:=am (HX.out.belowS ba1)
   clear ba1
   have HY:=am (Has.new (W1) #[.int .i64 0,.int .i64 0,.int .i64 0,.string ⟨#[]⟩,.slice none 0 0,.slice none 0 0,.int .i64 0,.string ⟨#[]⟩,.int .i64 0,.slice none 0 0] 27)
   refine ⟨HB0.out, ?_⟩
   refine tree_1Q (i:=1) (by kernel_rfl) ?_
   refine step_callQ (by rfl) (by rfl) (by rfl) (ER.go (by go_simp;with_reducible exact ⟨rfl,rfl⟩)) ?_
   refine (at_ps HP.out).mono ?_
   rintro en w1 ⟨he1,hb1⟩
   rw [HAT.out] at he1
   subst he1
   replace HK:=am (Kept.below HK.out hb1)
   replace HP:=am (HP.out.below hb1)
   replace HB0:=am (HB0.out.belowS hb1)
   replace HB1:=am (HB1.out.belowS hb1)
   replace HB2:=am (HB2.out.belowS hb1)
   replace HX:=am (HX.out.belowS hb1)
   replace HY:=am (HY.out.belowS hb1)
   have hs1:=Below.size hb1
   try simp at hs1
   refine .inl ⟨_,rfl,HB0.out, ?_⟩
   simp only [sA,sB,sC]
   refine tree_1Q (i:=3) (by kernel_rfl) ?_
   refine step_callQ (by rfl) (by rfl) (by rfl) (ER.go (by go_simp;with_reducible exact ⟨rfl,rfl⟩)) ?_
   refine (name_said g l e _ HP.out).mono ?_
   intro en w2 hq
   rcases hq.ways with ⟨v,s,l1,hr,rfl,hk,rfl,hp⟩ | ⟨bb,er,hr,rfl,hk⟩
   ·have HA:=am hr
    replace HK:=am (Kept.then_ HK.out hk)
    replace HB0:=am (Kept.has hk HB0.out (by omega))
    replace HB1:=am (Kept.has hk HB1.out (by omega))
    replace HB2:=am (Kept.has hk HB2.out (by omega))
    replace HX:=am (Kept.has hk HX.out (by omega))
    replace HY:=am (Kept.has hk HY.out (by omega))
    replace HP:=am hp
    have hs2:=Kept.size hk
    try simp at hs2
    clear hr hk
    refine .inl ⟨_,rfl,HB0.out, ?_⟩
    simp only [sA,sB,sC]
    refine tqh hsure HB0.out 4 ?_
    apply Exists.intro
    apply And.intro
    ·rintro w' k1
     apply VR.mk
     go_simp
     with_reducible rfl
    try simp only [sA,sB,sC]
    rw [<- hQQ]
    refine tree_doneR (by kernel_rfl) ?_
    refine restQ_tree (fun _=>True) ?_
    clear hsure hS hQQ
    refine tree_1Q (i:=6) (by kernel_rfl) ?_
    refine step_list (by rfl) ?_
    have st1:=tt
    go_wp2_with ((
          (with_reducible refine gate_store (t:=27) (p:=3) rfl ?_)
          clear st1
          go_must (
           refine store_event (t:=27) (p:=3) (v:=.tmp 8) (w1:=World.setRow w2 ((W1).heap.size) #[.int .i64 15,.int .i64 a1,.int .i64 0,.string s,.slice none 0 0,.slice none 0 0,.int .i64 0,.string ⟨#[]⟩,.int .i64 0,.slice none 0 0]) ?hg ?ho ?hn ?hr ?_
           (case ho=>rfl)
           (case hg=>rfl)
           (case hn=>rfl)
           (case hr=>exact store27 w2 ((W1).heap.size) _ _ HY.out rfl rfl (by first | kernel_rfl | (simp [Value.oneCell'])) _ _ _ _ rfl rfl rfl)
           intro w73 hw73
           subst hw73
           have st2:=tt)))
    clear st2
    replace HK:=am (kept_rowX HK.out (g:=(W1).heap.size) (.inr (by show w.heap.size <= (W1).heap.size;omega)) #[.int .i64 15,.int .i64 a1,.int .i64 0,.string s,.slice none 0 0,.slice none 0 0,.int .i64 0,.string ⟨#[]⟩,.int .i64 0,.slice none 0 0])
    replace HP:=am (PS.rowP HP.out HY.out #[.int .i64 15,.int .i64 a1,.int .i64 0,.string s,.slice none 0 0,.slice none 0 0,.int .i64 0,.string ⟨#[]⟩,.int .i64 0,.slice none 0 0])
    replace HB0:=am (has_row_other HB0.out (g:=(W1).heap.size) (cs':=#[.int .i64 15,.int .i64 a1,.int .i64 0,.string s,.slice none 0 0,.slice none 0 0,.int .i64 0,.string ⟨#[]⟩,.int .i64 0,.slice none 0 0]) (by omega))
    replace HB1:=am (has_row_other HB1.out (g:=(W1).heap.size) (cs':=#[.int .i64 15,.int .i64 a1,.int .i64 0,.string s,.slice none 0 0,.slice none 0 0,.int .i64 0,.string ⟨#[]⟩,.int .i64 0,.slice none 0 0]) (by omega))
    replace HB2:=am (has_row_other HB2.out (g:=(W1).heap.size) (cs':=#[.int .i64 15,.int .i64 a1,.int .i64 0,.string s,.slice none 0 0,.slice none 0 0,.int .i64 0,.string ⟨#[]⟩,.int .i64 0,.slice none 0 0]) (by omega))
    replace HX:=am (has_row_other HX.out (g:=(W1).heap.size) (cs':=#[.int .i64 15,.int .i64 a1,.int .i64 0,.string s,.slice none 0 0,.slice none 0 0,.int .i64 0,.string ⟨#[]⟩,.int .i64 0,.slice none 0 0]) (by omega))
    replace HY:=am (has_row HY.out #[.int .i64 15,.int .i64 a1,.int .i64 0,.string s,.slice none 0 0,.slice none 0 0,.int .i64 0,.string ⟨#[]⟩,.int .i64 0,.slice none 0 0])
    first | refine ⟨trivial,tree_endQ (by kernel_rfl) ?_⟩ | refine tree_endQ (by kernel_rfl) ?_
    go_wp2_with fail
    go_meet
    case rel=>exact ⟨s,l1,_,rfl,hyw,HA,HK,HP,HY⟩
   ·have HA:=am hr
    refine .inr ⟨_,rfl, ?_⟩
    replace HK:=am (Kept.then_ HK.out hk)
    replace HB0:=am (Kept.has hk HB0.out (by omega))
    replace HB1:=am (Kept.has hk HB1.out (by omega))
    replace HB2:=am (Kept.has hk HB2.out (by omega))
    replace HX:=am (Kept.has hk HX.out (by omega))
    replace HY:=am (Kept.has hk HY.out (by omega))
    have hs2:=Kept.size hk
    try simp at hs2
    rw [<- hQQ]
    have HE:Aside0 (R = .bad bb er):=⟨by rw [HEQ.out];simp [needP,PR.andThen,HA.out]⟩
    have he:=HE.out
    subst he
    exact ⟨rfl,HK.out.mono fun k h=>.inl h,rfl⟩
 case rest =>
  obtain ⟨s,l1,by1,rfl,hyw,HA,HKc,HPc,HY⟩:=hcut
  replace HB0:=am (Kept.has HKc.out HB0.out (by omega))
  replace HB1:=am (Kept.has HKc.out HB1.out (by omega))
  replace HB2:=am (Kept.has HKc.out HB2.out (by omega))
  replace HX:=am (Kept.has HKc.out HX.out (by omega))
  replace HK:=HKc
  replace HP:=HPc
  clear HKc HPc
  have hyg:by1 ≠ g:=by omega
  have cw_HB0_0:=hci HB0.out 0 rfl
  have cw_HB1_0:=hci HB1.out 0 rfl
  have cw_HB2_0:=hci HB2.out 0 rfl
  cases hHC:isP sColon l1 with
  | true =>
   have HC:=am hHC
   clear hHC
   have st1:=tt
   go_wp2_with ((
         go_at_call 42
         clear st1
         go_must (
          (with_reducible refine Calls.mono (need_yes sColon HP.out HC.out) ?_)
          rintro en w1 ⟨he1,hk1,hp1⟩
          subst he1
          replace HK:=am (Kept.then_ HK.out hk1)
          replace HB0:=am (Kept.has hk1 HB0.out (by omega))
          replace HB1:=am (Kept.has hk1 HB1.out (by omega))
          replace HB2:=am (Kept.has hk1 HB2.out (by omega))
          replace HX:=am (Kept.has hk1 HX.out (by omega))
          replace HY:=am (Kept.has hk1 HY.out (by omega))
          replace HP:=am hp1
          have hs1:=Kept.size hk1
          try simp at hs1
          clear cw_HB0_0 cw_HB1_0 cw_HB2_0
          have cw_HB0_0:=hci HB0.out 0 rfl
          have cw_HB1_0:=hci HB1.out 0 rfl
          have cw_HB2_0:=hci HB2.out 0 rfl
          have st2:=tt)))
   clear st2
   cases hHD:climbP e n (d + 1) true 1 l1.tail with
   | out=>exact absurd (by rw [HEQ.out];simp [needP,PR.andThen,HA.out,HC.out,hHD]) HNE.out
   | bad bb er =>
    have HD:=am hHD
    have HDN:=am (show climbP e n (d + 1) true 1 l1.tail ≠ .out by rw [hHD];exact PR.bad_ne _ _)
    clear hHD
    have st3:=tt
    go_wp2_with ((
          go_at_call 18
          clear st3
          go_must (
           (with_reducible refine Calls.mono (HTT.out g e (d + 1) true l1.tail _ (by omega) (by omega) HP.out HDN.out) ?_)
           rintro en w2 ⟨hk2,he2⟩
           rw [HD.out] at he2
           subst he2
           replace HK:=am (Kept.then_ HK.out hk2)
           replace HB0:=am (Kept.has hk2 HB0.out (by omega))
           replace HB1:=am (Kept.has hk2 HB1.out (by omega))
           replace HB2:=am (Kept.has hk2 HB2.out (by omega))
           replace HX:=am (Kept.has hk2 HX.out (by omega))
           replace HY:=am (Kept.has hk2 HY.out (by omega))
           have hs2:=Kept.size hk2
           try simp at hs2
           clear cw_HB0_0 cw_HB1_0 cw_HB2_0
           have cw_HB0_0:=hci HB0.out 0 rfl
           have cw_HB1_0:=hci HB1.out 0 rfl
           have cw_HB2_0:=hci HB2.out 0 rfl
           have st4:=tt)))
    clear st4
    have HE:Aside0 (R = .bad bb er):=⟨by rw [HEQ.out];simp [needP,PR.andThen,HA.out,HC.out,HD.out]⟩
    rw [HE.out]
    exact ⟨rfl,HK.out.mono fun k h=>.inl h,rfl⟩
   | ok y l3 =>
   have HD:=am hHD
   have HDN:=am (show climbP e n (d + 1) true 1 l1.tail ≠ .out by rw [hHD];exact PR.ok_ne _ _)
   clear hHD
   have st3:=tt
   go_wp2_with ((
         go_at_call 18
         clear st3
         go_must (
          (with_reducible refine Calls.mono (HTT.out g e (d + 1) true l1.tail _ (by omega) (by omega) HP.out HDN.out) ?_)
          rintro en w2 ⟨hk2,he2⟩
          rw [HD.out] at he2
          obtain ⟨v2,rfl,hv2,hp2⟩:=he2
          obtain ⟨y4,yc4,y5,yc5,y9,yc9,rfl⟩:=(hv2).form
          have Vy:=am (VO.lower hv2 (show by1 + 1 <= _ by (have:=HY.out.lt;omega)))
          clear hv2
          replace HK:=am (Kept.then_ HK.out hk2)
          replace HB0:=am (Kept.has hk2 HB0.out (by omega))
          replace HB1:=am (Kept.has hk2 HB1.out (by omega))
          replace HB2:=am (Kept.has hk2 HB2.out (by omega))
          replace HX:=am (Kept.has hk2 HX.out (by omega))
          replace HY:=am (Kept.has hk2 HY.out (by omega))
          replace HP:=am hp2
          have hs2:=Kept.size hk2
          try simp at hs2
          clear cw_HB0_0 cw_HB1_0 cw_HB2_0
          have cw_HB0_0:=hci HB0.out 0 rfl
          have cw_HB1_0:=hci HB1.out 0 rfl
          have cw_HB2_0:=hci HB2.out 0 rfl
          obtain ⟨My,Ly⟩:=VO.lit (cs:=[.int .i64 y.f0,.int .i64 y.f1,.int .i64 y.f2,.string y.f3,.slice y4 y.f4.length yc4,.slice y5 y.f5.length yc5,.int .i64 y.f6.f0,.string y.f6.f1,.int .i64 y.f6.f2,.slice y9 y.f6.f3.length yc9]) Vy.out
          have HKD:Aside0 (k27.R 27 ((w2).alloc (Obj.cells #[.int .i64 y.f0,.int .i64 y.f1,.int .i64 y.f2,.string y.f3,.slice y4 y.f4.length yc4,.slice y5 y.f5.length yc5,.int .i64 y.f6.f0,.string y.f6.f1,.int .i64 y.f6.f2,.slice y9 y.f6.f3.length yc9] 27)) (by1 + 1) Any (.slice (some ⟨(w2).heap.size,0,none⟩) 1 1) [y]):=⟨by have h:=kids_lit (w2) (by1 + 1) (by (have:=HY.out.lt;omega)) trivial (xs:=[y]) (reps_one My Ly) (by simp);exact h⟩
          clear My Ly
          have ba1:=below_alloc (Below.refl (w2).heap.size (w2)) (Obj.cells #[.int .i64 y.f0,.int .i64 y.f1,.int .i64 y.f2,.string y.f3,.slice y4 y.f4.length yc4,.slice y5 y.f5.length yc5,.int .i64 y.f6.f0,.string y.f6.f1,.int .i64 y.f6.f2,.slice y9 y.f6.f3.length yc9] 27)
          replace HK:=am (Kept.below HK.out ba1)
          replace HP:=am (HP.out.below ba1)
          replace HB0:=am (HB0.out.belowS ba1)
          replace HB1:=am (HB1.out.belowS ba1)
          replace HB2:=am (HB2.out.belowS ba1)
          replace HX:=am (HX.out.belowS ba1)
          replace HY:=am (HY.out.belowS ba1)
          replace Vy:=am (Vy.out.below ba1)
          clear ba1
          have c3:=hci HY.out 4 rfl
          have f3:=Has.frozen HY.out 4
          have cy4:=Has.cell (Has.other (HB0.out) (a:=⟨by1,4,none⟩) (by show b ≠ by1;omega) (.slice (some ⟨(w2).heap.size,0,none⟩) 1 1)) 0
          simp only [List.getElem?_toArray,List.getElem?_cons_zero,List.getElem?_cons_succ] at cy4
          have cy5:=Has.cell (Has.other (HB1.out) (a:=⟨by1,4,none⟩) (by show b + 1 ≠ by1;omega) (.slice (some ⟨(w2).heap.size,0,none⟩) 1 1)) 0
          simp only [List.getElem?_toArray,List.getElem?_cons_zero,List.getElem?_cons_succ] at cy5
          have cy6:=Has.cell (Has.other (HB2.out) (a:=⟨by1,4,none⟩) (by show b + 2 ≠ by1;omega) (.slice (some ⟨(w2).heap.size,0,none⟩) 1 1)) 0
          simp only [List.getElem?_toArray,List.getElem?_cons_zero,List.getElem?_cons_succ] at cy6
          have st4:=tt)))
   clear st4
   clear c3 f3 cy4 cy5 cy6
   replace HK:=am (Kept.setCellX HK.out (a:=⟨by1,4,none⟩) (.inr (by show w.heap.size <= by1;omega)) (.slice (some ⟨(w2).heap.size,0,none⟩) 1 1))
   replace HP:=am (PS.setT HP.out HY.out (by decide) (by decide) 4 (.slice (some ⟨(w2).heap.size,0,none⟩) 1 1))
   replace HB0:=am (Has.other HB0.out (a:=⟨by1,4,none⟩) (by show b ≠ by1;omega) (.slice (some ⟨(w2).heap.size,0,none⟩) 1 1))
   replace HB1:=am (Has.other HB1.out (a:=⟨by1,4,none⟩) (by show b + 1 ≠ by1;omega) (.slice (some ⟨(w2).heap.size,0,none⟩) 1 1))
   replace HB2:=am (Has.other HB2.out (a:=⟨by1,4,none⟩) (by show b + 2 ≠ by1;omega) (.slice (some ⟨(w2).heap.size,0,none⟩) 1 1))
   replace HX:=am (Has.other HX.out (a:=⟨by1,4,none⟩) (by show r ≠ by1;omega) (.slice (some ⟨(w2).heap.size,0,none⟩) 1 1))
   replace Vy:=am (VO.setO Vy.out (a:=⟨by1,4,none⟩) (fun kk h1 h2=>by show kk ≠ by1;omega) (.slice (some ⟨(w2).heap.size,0,none⟩) 1 1))
   replace HKD:=am (R_far HKD.out (fun kk h1 _=>Below.heap_setCell _ ⟨by1,4,none⟩ (.slice (some ⟨(w2).heap.size,0,none⟩) 1 1) kk (by show kk ≠ by1;omega)))
   replace HY:Aside0 (Has (((w2.alloc (Obj.cells #[.int .i64 y.f0,.int .i64 y.f1,.int .i64 y.f2,.string y.f3,.slice y4 y.f4.length yc4,.slice y5 y.f5.length yc5,.int .i64 y.f6.f0,.string y.f6.f1,.int .i64 y.f6.f2,.slice y9 y.f6.f3.length yc9] 27))).setCell ⟨by1,4,none⟩ (.slice (some ⟨(w2).heap.size,0,none⟩) 1 1)) (by1) #[.int .i64 15,.int .i64 a1,.int .i64 0,.string s,.slice (some ⟨(w2).heap.size,0,none⟩) 1 1,.slice none 0 0,.int .i64 0,.string ⟨#[]⟩,.int .i64 0,.slice none 0 0] 27):=⟨by have h:=Has.set_ HY.out 4 (.slice (some ⟨(w2).heap.size,0,none⟩) 1 1);exact h⟩
   clear cw_HB0_0 cw_HB1_0 cw_HB2_0
   have cw_HB0_0:=hci HB0.out 0 rfl
   have cw_HB1_0:=hci HB1.out 0 rfl
   have cw_HB2_0:=hci HB2.out 0 rfl
   clear cw_HB0_0 cw_HB1_0 cw_HB2_0
   have hD:=below_drew (Below.refl ((((w2.alloc (Obj.cells #[.int .i64 y.f0,.int .i64 y.f1,.int .i64 y.f2,.string y.f3,.slice y4 y.f4.length yc4,.slice y5 y.f5.length yc5,.int .i64 y.f6.f0,.string y.f6.f1,.int .i64 y.f6.f2,.slice y9 y.f6.f3.length yc9] 27))).setCell ⟨by1,4,none⟩ (.slice (some ⟨(w2).heap.size,0,none⟩) 1 1))).heap.size ((((w2.alloc (Obj.cells #[.int .i64 y.f0,.int .i64 y.f1,.int .i64 y.f2,.string y.f3,.slice y4 y.f4.length yc4,.slice y5 y.f5.length yc5,.int .i64 y.f6.f0,.string y.f6.f1,.int .i64 y.f6.f2,.slice y9 y.f6.f3.length yc9] 27))).setCell ⟨by1,4,none⟩ (.slice (some ⟨(w2).heap.size,0,none⟩) 1 1))))
   replace HK:=am (Kept.below HK.out hD)
   replace HP:=am (HP.out.below hD)
   replace HB0:=am (HB0.out.belowS hD)
   replace HB1:=am (HB1.out.belowS hD)
   replace HB2:=am (HB2.out.belowS hD)
   replace HX:=am (HX.out.belowS hD)
   replace HY:=am (HY.out.belowS hD)
   replace HKD:=am (Kd.R_below HKD.out hD)
   clear hD
   obtain ⟨W3,hW1⟩:∃ W,((((w2.alloc (Obj.cells #[.int .i64 y.f0,.int .i64 y.f1,.int .i64 y.f2,.string y.f3,.slice y4 y.f4.length yc4,.slice y5 y.f5.length yc5,.int .i64 y.f6.f0,.string y.f6.f1,.int .i64 y.f6.f2,.slice y9 y.f6.f3.length yc9] 27))).setCell ⟨by1,4,none⟩ (.slice (some ⟨(w2).heap.size,0,none⟩) 1 1))).drew = W:=⟨_,rfl⟩
   rw [hW1] at HK HP HB0 HB1 HB2 HX HY HKD
   have hzW3:((((w2.alloc (Obj.cells #[.int .i64 y.f0,.int .i64 y.f1,.int .i64 y.f2,.string y.f3,.slice y4 y.f4.length yc4,.slice y5 y.f5.length yc5,.int .i64 y.f6.f0,.string y.f6.f1,.int .i64 y.f6.f2,.slice y9 y.f6.f3.length yc9] 27))).setCell ⟨by1,4,none⟩ (.slice (some ⟨(w2).heap.size,0,none⟩) 1 1))).heap.size <= W3.heap.size:=by rw [<- hW1];exact Nat.le_refl _
   try simp at hzW3
   refine region_treeR 3 (by kernel_rfl) (by kernel_rfl) (fun w' => Has w' (by1) #[.int .i64 15,.int .i64 a1,.int .i64 0,.string s,.slice (some ⟨(w2).heap.size,0,none⟩) 1 1,.slice none 0 0,.int .i64 0,.string ⟨#[]⟩,.int .i64 0,.slice none 0 0] 27) (hW1 ▸ HY.out) fun hS => ?_
   rw [hW1] at hS ⊢
   clear hW1
   simp only [List.take_succ_cons,List.take_zero]
   generalize hQQ:tailK _ _ = QQ
   have hsure:Sure QQ:=by
    rw [<- hQQ]
    intro c a a' w1 hd h
    simp +zetaDelta only [tailK,Exit.then,Exit.inBlock,bodyPost] at h ⊢
    simpa [hd] using h
   refine tree_1Q (i:=0) (by kernel_rfl) ?_
   refine step_list (by rfl) ?_
   go_wp2
   have hB0:=below_alloc (Below.refl W3.heap.size W3) (Obj.cells #[.bool false] 4)
   have HBB:=am (Has.new W3 #[.bool false] 4)
   refine ⟨HY.out.belowS hB0, ?_⟩
   refine tree_2Q (i:=1) (k:=2) (by kernel_rfl) ?_ ?_
   ·refine step_list (by rfl) ?_
    have cb:=hci HBB.out 0 rfl
    have fb:=Has.frozen HBB.out 0
    go_wp2
    clear cb fb
    replace HBB:=am (Has.new W3 #[.bool true] 4)
    have hB1:=below_alloc (Below.refl W3.heap.size W3) (Obj.cells #[.bool true] 4)
    refine ⟨HY.out.belowS hB1, ?_⟩
    refine tree_1Q (i:=2) (by kernel_rfl) ?_
    refine step_list (by rfl) ?_
    have cb:=hci HBB.out 0 rfl
    have fb:=Has.frozen HBB.out 0
    go_wp2
    clear cb fb
    replace HBB:=am (Has.new W3 #[.bool false] 4)
    have hB2:=below_alloc (Below.refl W3.heap.size W3) (Obj.cells #[.bool false] 4)
    refine ⟨HY.out.belowS hB2, ?_⟩
    replace HK:=am (Kept.below HK.out hB2)
    replace HP:=am (HP.out.below hB2)
    replace HB0:=am (HB0.out.belowS hB2)
    replace HB1:=am (HB1.out.belowS hB2)
    replace HB2:=am (HB2.out.belowS hB2)
    replace HX:=am (HX.out.belowS hB2)
    replace HY:=am (HY.out.belowS hB2)
    replace HKD:=am (Kd.R_below HKD.out hB2)
    clear hB0 hB1 hB2
    rw [<- hQQ]
    refine tree_doneR (by kernel_rfl) ?_
    refine restQ_tree (fun _=>True) ?_
    clear hsure hS hQQ
    have cb:=hci HBB.out 0 rfl
    refine tree_1Q (i:=3) (by kernel_rfl) ?_
    refine step_list (by rfl) ?_
    go_wp2
    refine ⟨trivial,tree_endQ (by kernel_rfl) ?_⟩
    clear cb
    go_wp2_with fail
    clear HBB
    have hD:=below_drew (Below.refl ((W3.alloc (Obj.cells #[.bool false] 4))).heap.size ((W3.alloc (Obj.cells #[.bool false] 4))))
    replace HK:=am (Kept.below HK.out hD)
    replace HP:=am (HP.out.below hD)
    replace HB0:=am (HB0.out.belowS hD)
    replace HB1:=am (HB1.out.belowS hD)
    replace HB2:=am (HB2.out.belowS hD)
    replace HX:=am (HX.out.belowS hD)
    replace HY:=am (HY.out.belowS hD)
    replace HKD:=am (Kd.R_below HKD.out hD)
    clear hD
    obtain ⟨W4,hW1⟩:∃ W,((W3.alloc (Obj.cells #[.bool false] 4))).drew = W:=⟨_,rfl⟩
    rw [hW1] at HK HP HB0 HB1 HB2 HX HY HKD
    have hzW4:((W3.alloc (Obj.cells #[.bool false] 4))).heap.size <= W4.heap.size:=by rw [<- hW1];exact Nat.le_refl _
    try simp at hzW4
    refine region_treeR 8 (by kernel_rfl) (by kernel_rfl) (fun w' => Has w' (b + 1) #[.pointer (some ⟨r,0,none⟩)] 115 /\ Has w' (r) #[.int .i64 14,.int .i64 a0,.int .i64 0,.string tx,.slice A xs.length c,.slice none 0 0,.int .i64 0,.string ⟨#[]⟩,.int .i64 0,.slice none 0 0] 27 /\ Has w' (by1) #[.int .i64 15,.int .i64 a1,.int .i64 0,.string s,.slice (some ⟨(w2).heap.size,0,none⟩) 1 1,.slice none 0 0,.int .i64 0,.string ⟨#[]⟩,.int .i64 0,.slice none 0 0] 27) (hW1 ▸ ⟨HB1.out,HX.out,HY.out⟩) fun hS => ?_
    rw [hW1] at hS ⊢
    clear hW1
    simp only [List.take_succ_cons,List.take_zero]
    generalize hQQ:tailK _ _ = QQ
    have hsure:Sure QQ:=by
     rw [<- hQQ]
     intro c a a' w1 hd h
     simp +zetaDelta only [tailK,Exit.then,Exit.inBlock,bodyPost] at h ⊢
     simpa [hd] using h
    refine tqh hsure hS 0 ?_
    apply Exists.intro
    apply And.intro
    ·rintro w' ⟨k1,k2,k3⟩
     have cc0:=hci k1 0 rfl
     apply VR.mk
     go_simp
     with_reducible rfl
    try simp only [sA,sB,sC]
    refine tqh hsure hS 1 ?_
    apply Exists.intro
    apply And.intro
    ·rintro w' ⟨k1,k2,k3⟩
     have cc0:=hci k1 0 rfl
     apply VR.mk
     go_simp
     with_reducible rfl
    try simp only [sA,sB,sC]
    refine tqh hsure hS 2 ?_
    apply Exists.intro
    apply And.intro
    ·rintro w' ⟨k1,k2,k3⟩
     apply VR.mk
     go_simp
     with_reducible rfl
    try simp only [sA,sB,sC]
    refine tqh hsure hS 3 ?_
    apply Exists.intro
    apply And.intro
    ·rintro w' ⟨k1,k2,k3⟩
     apply VR.mk
     go_simp
     with_reducible rfl
    try simp only [sA,sB,sC]
    refine tqh hsure hS 4 ?_
    apply Exists.intro
    apply And.intro
    ·rintro w' ⟨k1,k2,k3⟩
     have cc1:=hci k2 4 rfl
     apply VR.mk
     go_simp
     with_reducible rfl
    try simp only [sA,sB,sC]
    refine tqh hsure hS 5 ?_
    apply Exists.intro
    apply And.intro
    ·rintro w' ⟨k1,k2,k3⟩
     apply VR.mk
     exact load27 w' (by1) #[.int .i64 15,.int .i64 a1,.int .i64 0,.string s,.slice (some ⟨(w2).heap.size,0,none⟩) 1 1,.slice none 0 0,.int .i64 0,.string ⟨#[]⟩,.int .i64 0,.slice none 0 0] k3 rfl _ _ _ rfl rfl
    try simp only [sA,sB,sC]
    refine tree_1Q (i:=6) (by kernel_rfl) ?_
    refine step_list (by rfl) ?_
    go_wp2
    obtain ⟨MY,LY⟩:=VO.lit (cs:=[.int .i64 15,.int .i64 a1,.int .i64 0,.string s,.slice (some ⟨(w2).heap.size,0,none⟩) 1 1,.slice none 0 0,.int .i64 0,.string ⟨#[]⟩,.int .i64 0,.slice none 0 0]) (VO.node 15 a1 0 s HKD.out)
    have HKE:Aside0 (k27.R 27 (W4.alloc (Obj.cells #[.int .i64 15,.int .i64 a1,.int .i64 0,.string s,.slice (some ⟨(w2).heap.size,0,none⟩) 1 1,.slice none 0 0,.int .i64 0,.string ⟨#[]⟩,.int .i64 0,.slice none 0 0] 27)) (by1 + 1) Any (.slice (some ⟨W4.heap.size,0,none⟩) 1 1) [mkE 15 a1 0 s [y] []]):=⟨kids_lit W4 (by1 + 1) (by have:=HY.out.lt;omega) trivial (xs:=[mkE 15 a1 0 s [y] []]) (reps_one MY LY) (by simp)⟩
    clear MY LY
    have ba2:=below_alloc (Below.refl (W4).heap.size (W4)) (Obj.cells #[.int .i64 15,.int .i64 a1,.int .i64 0,.string s,.slice (some ⟨(w2).heap.size,0,none⟩) 1 1,.slice none 0 0,.int .i64 0,.string ⟨#[]⟩,.int .i64 0,.slice none 0 0] 27)
    replace HK:=am (Kept.below HK.out ba2)
    replace HP:=am (HP.out.below ba2)
    replace HB0:=am (HB0.out.belowS ba2)
    replace HB1:=am (HB1.out.belowS ba2)
    replace HB2:=am (HB2.out.belowS ba2)
    replace HX:=am (HX.out.belowS ba2)
    replace HY:=am (HY.out.belowS ba2)
    replace HKD:=am (Kd.R_below HKD.out ba2)
    clear ba2
    refine ⟨⟨HB1.out,HX.out,HY.out⟩, ?_⟩
    have HRW:=am (R_kps hRW0.out HP0.out HK.out)
    replace HK:=am (HK.out.mono (S':=SI g r b) fun k h=>.inl h)
    have hszk:=HK.out.size
    refine tree_1Q (i:=7) (by kernel_rfl) ?_
    refine step_list (by rfl) ?_
    have st5:=tt
    go_wp2_with ((
          refine append27d Tryd.underlying22 info27 (b + 3) (by1 + 1) rfl (.tmp 34) (.tmp 36) _ (by rfl) rfl (.slice A xs.length c) xs [mkE 15 a1 0 s [y] []] (some ⟨W4.heap.size,0,none⟩) 1 1 (by rfl) (by rfl) HRW.out HKE.out (by omega) (fun k hk=>by have:=hsl k hk;omega) (by simp;omega) (by omega) ?_
          clear st5
          go_must (
           intro v1 w70 hR10 hG10
           obtain ⟨A7,c7,rfl⟩:=Kd.R_slice hR10
           have hlen:(xs ++ [mkE 15 a1 0 s [y] []]).length = xs.length + 1:=by simp
           rw [hlen] at hR10
           have hown:=R_ownb HRW.out
           have HY2:=am (HY.out.of_block (hG10.block _ HY.out.lt (fun h=>by have:=hsl _ h.symm;omega)))
           replace HK:=am (Kept.grown HK.out hG10 (fun k hk=>.inl (.inr (.inr (by have:=(hown k hk).1;omega)))))
           replace HP:=am (HP.out.grown hG10 (fun k hk=>R_own27 HRW.out k hk))
           replace HB0:=am (HB0.out.of_block (hG10.block _ HB0.out.lt (fun h=>by have:=hown _ h.symm;omega)))
           replace HB1:=am (HB1.out.of_block (hG10.block _ HB1.out.lt (fun h=>by have:=hown _ h.symm;omega)))
           replace HB2:=am (HB2.out.of_block (hG10.block _ HB2.out.lt (fun h=>by have:=hown _ h.symm;omega)))
           replace HX:=am (HX.out.of_block (hG10.block _ HX.out.lt (fun h=>by have:=hown _ h.symm;omega)))
           replace HY:=HY2
           clear HY2
           have HRM:=am hR10
           clear hR10 hG10 hlen
           have st6:=tt)))
    clear st6
    refine ⟨⟨HB1.out,HX.out,HY.out⟩, ?_⟩
    try simp only [sA,sB,sC]
    rw [<- hQQ]
    refine tree_doneR (by kernel_rfl) ?_
    refine restQ_tree (fun _=>True) ?_
    clear hsure hS hQQ
    refine tqh (by intro c a a' w1 hd h;simp +zetaDelta only [Exit.then,Exit.inBlock,bodyPost] at h ⊢; simpa [hd] using h) trivial 8 ?_
    apply Exists.intro
    apply And.intro
    ·rintro w' -
     apply VR.mk
     go_simp
     with_reducible rfl
    simp only [sA,sB,sC]
    refine tqh (by intro c a a' w1 hd h;simp +zetaDelta only [Exit.then,Exit.inBlock,bodyPost] at h ⊢; simpa [hd] using h) trivial 9 ?_
    apply Exists.intro
    apply And.intro
    ·rintro w' -
     apply VR.mk
     go_simp
     with_reducible rfl
    simp only [sA,sB,sC]
    refine tree_1Q (i:=10) (by kernel_rfl) ?_
    refine step_list (by rfl) ?_
    have c7:=hci HX.out 4 rfl
    have f7:=Has.frozen HX.out 4
    go_wp2
    clear c7 f7
    replace HK:=am (Kept.setCellX HK.out (a:=⟨r,4,none⟩) (.inl (.inr (.inl rfl))) (.slice A7 (xs.length + 1) c7))
    replace HP:=am (PS.setT HP.out HX.out (by decide) (by decide) 4 (.slice A7 (xs.length + 1) c7))
    replace HB0:=am (Has.other HB0.out (a:=⟨r,4,none⟩) (by show b ≠ r;omega) (.slice A7 (xs.length + 1) c7))
    replace HB1:=am (Has.other HB1.out (a:=⟨r,4,none⟩) (by show b + 1 ≠ r;omega) (.slice A7 (xs.length + 1) c7))
    replace HB2:=am (Has.other HB2.out (a:=⟨r,4,none⟩) (by show b + 2 ≠ r;omega) (.slice A7 (xs.length + 1) c7))
    replace HRM:=am (R_far HRM.out (fun kk h1 _=>Below.heap_setCell _ ⟨r,4,none⟩ (.slice A7 (xs.length + 1) c7) kk (by show kk ≠ r;omega)))
    replace HX:Aside0 (Has (w70.setCell ⟨r,4,none⟩ (.slice A7 (xs.length + 1) c7)) (r) #[.int .i64 14,.int .i64 a0,.int .i64 0,.string tx,(.slice A7 (xs.length + 1) c7),.slice none 0 0,.int .i64 0,.string ⟨#[]⟩,.int .i64 0,.slice none 0 0] 27):=⟨by have h:=Has.set_ HX.out 4 (.slice A7 (xs.length + 1) c7);exact h⟩
    first | refine ⟨trivial,tree_endQ (by kernel_rfl) ?_⟩ | refine tree_endQ (by kernel_rfl) ?_
    have HE:Aside0 (R = .ok (xs ++ [mkE 15 a1 0 s [y] []]) l3):=⟨by rw [HEQ.out];simp [needP,PR.andThen,HA.out,HC.out,HD.out]⟩
    refine bodyPost_end (results_none rfl _ _ _) rfl ?_
    rw [HE.out]
    exact ⟨HK.out,rfl,⟨_,HB0.out,HB1.out,HB2.out,HX.out,HRM.out⟩,HP.out⟩
   ·refine step_list (by rfl) ?_
    have cb:=hci HBB.out 0 rfl
    have fb:=Has.frozen HBB.out 0
    go_wp2
    clear cb fb
    replace HBB:=am (Has.new W3 #[.bool false] 4)
    have hB1:=below_alloc (Below.refl W3.heap.size W3) (Obj.cells #[.bool false] 4)
    refine ⟨HY.out.belowS hB1, ?_⟩
    refine tree_1Q (i:=1) (by kernel_rfl) ?_
    refine step_list (by rfl) ?_
    have cb:=hci HBB.out 0 rfl
    have fb:=Has.frozen HBB.out 0
    go_wp2
    clear cb fb
    replace HBB:=am (Has.new W3 #[.bool true] 4)
    have hB2:=below_alloc (Below.refl W3.heap.size W3) (Obj.cells #[.bool true] 4)
    refine ⟨HY.out.belowS hB2, ?_⟩
    replace HK:=am (Kept.below HK.out hB2)
    replace HP:=am (HP.out.below hB2)
    replace HB0:=am (HB0.out.belowS hB2)
    replace HB1:=am (HB1.out.belowS hB2)
    replace HB2:=am (HB2.out.belowS hB2)
    replace HX:=am (HX.out.belowS hB2)
    replace HY:=am (HY.out.belowS hB2)
    replace HKD:=am (Kd.R_below HKD.out hB2)
    clear hB0 hB1 hB2
    rw [<- hQQ]
    refine tree_doneR (by kernel_rfl) ?_
    refine restQ_tree (fun _=>True) ?_
    clear hsure hS hQQ
    have cb:=hci HBB.out 0 rfl
    refine tree_1Q (i:=3) (by kernel_rfl) ?_
    refine step_list (by rfl) ?_
    go_wp2
    refine ⟨trivial,tree_endQ (by kernel_rfl) ?_⟩
    clear cb
    go_wp2_with fail
    clear HBB
    have hD:=below_drew (Below.refl ((W3.alloc (Obj.cells #[.bool true] 4))).heap.size ((W3.alloc (Obj.cells #[.bool true] 4))))
    replace HK:=am (Kept.below HK.out hD)
    replace HP:=am (HP.out.below hD)
    replace HB0:=am (HB0.out.belowS hD)
    replace HB1:=am (HB1.out.belowS hD)
    replace HB2:=am (HB2.out.belowS hD)
    replace HX:=am (HX.out.belowS hD)
    replace HY:=am (HY.out.belowS hD)
    replace HKD:=am (Kd.R_below HKD.out hD)
    clear hD
    obtain ⟨W4,hW1⟩:∃ W,((W3.alloc (Obj.cells #[.bool true] 4))).drew = W:=⟨_,rfl⟩
    rw [hW1] at HK HP HB0 HB1 HB2 HX HY HKD
    have hzW4:((W3.alloc (Obj.cells #[.bool true] 4))).heap.size <= W4.heap.size:=by rw [<- hW1];exact Nat.le_refl _
    try simp at hzW4
    refine region_treeR 7 (by kernel_rfl) (by kernel_rfl) (fun w' => Has w' (b + 1) #[.pointer (some ⟨r,0,none⟩)] 115 /\ Has w' (r) #[.int .i64 14,.int .i64 a0,.int .i64 0,.string tx,.slice A xs.length c,.slice none 0 0,.int .i64 0,.string ⟨#[]⟩,.int .i64 0,.slice none 0 0] 27 /\ Has w' (by1) #[.int .i64 15,.int .i64 a1,.int .i64 0,.string s,.slice (some ⟨(w2).heap.size,0,none⟩) 1 1,.slice none 0 0,.int .i64 0,.string ⟨#[]⟩,.int .i64 0,.slice none 0 0] 27) (hW1 ▸ ⟨HB1.out,HX.out,HY.out⟩) fun hS => ?_
    rw [hW1] at hS ⊢
    clear hW1
    simp only [List.take_succ_cons,List.take_zero]
    generalize hQQ:tailK _ _ = QQ
    have hsure:Sure QQ:=by
     rw [<- hQQ]
     intro c a a' w1 hd h
     simp +zetaDelta only [tailK,Exit.then,Exit.inBlock,bodyPost] at h ⊢
     simpa [hd] using h
    refine tqh hsure hS 0 ?_
    apply Exists.intro
    apply And.intro
    ·rintro w' ⟨k1,k2,k3⟩
     have cc0:=hci k1 0 rfl
     apply VR.mk
     go_simp
     with_reducible rfl
    try simp only [sA,sB,sC]
    refine tqh hsure hS 1 ?_
    apply Exists.intro
    apply And.intro
    ·rintro w' ⟨k1,k2,k3⟩
     apply VR.mk
     go_simp
     with_reducible rfl
    try simp only [sA,sB,sC]
    refine tqh hsure hS 2 ?_
    apply Exists.intro
    apply And.intro
    ·rintro w' ⟨k1,k2,k3⟩
     apply VR.mk
     go_simp
     with_reducible rfl
    try simp only [sA,sB,sC]
    refine tqh hsure hS 3 ?_
    apply Exists.intro
    apply And.intro
    ·rintro w' ⟨k1,k2,k3⟩
     have cc1:=hci k2 4 rfl
     apply VR.mk
     go_simp
     with_reducible rfl
    try simp only [sA,sB,sC]
    refine tqh hsure hS 4 ?_
    apply Exists.intro
    apply And.intro
    ·rintro w' ⟨k1,k2,k3⟩
     apply VR.mk
     exact load27 w' (by1) #[.int .i64 15,.int .i64 a1,.int .i64 0,.string s,.slice (some ⟨(w2).heap.size,0,none⟩) 1 1,.slice none 0 0,.int .i64 0,.string ⟨#[]⟩,.int .i64 0,.slice none 0 0] k3 rfl _ _ _ rfl rfl
    try simp only [sA,sB,sC]
    refine tqh hsure hS 5 ?_
    apply Exists.intro
    apply And.intro
    ·rintro w' ⟨k1,k2,k3⟩
     apply VR.mk
     go_simp
     with_reducible rfl
    try simp only [sA,sB,sC]
    refine tree_1Q (i:=6) (by kernel_rfl) ?_
    refine step_list (by rfl) ?_
    go_wp2
    have ba2:=below_alloc (Below.refl (W4).heap.size (W4)) (Obj.cells #[.int .i64 0,.int .i64 0,.int .i64 0,.string ⟨#[]⟩,.slice none 0 0,.slice none 0 0,.int .i64 0,.string ⟨#[]⟩,.int .i64 0,.slice none 0 0] 27)
    replace HK:=am (Kept.below HK.out ba2)
    replace HP:=am (HP.out.below ba2)
    replace HB0:=am (HB0.out.belowS ba2)
    replace HB1:=am (HB1.out.belowS ba2)
    replace HB2:=am (HB2.out.belowS ba2)
    replace HX:=am (HX.out.belowS ba2)
    replace HY:=am (HY.out.belowS ba2)
    replace HKD:=am (Kd.R_below HKD.out ba2)
    clear ba2
    have HZ:=am (Has.new (W4) #[.int .i64 0,.int .i64 0,.int .i64 0,.string ⟨#[]⟩,.slice none 0 0,.slice none 0 0,.int .i64 0,.string ⟨#[]⟩,.int .i64 0,.slice none 0 0] 27)
    refine ⟨⟨HB1.out,HX.out,HY.out⟩, ?_⟩
    rw [<- hQQ]
    refine tree_doneR (by kernel_rfl) ?_
    refine restQ_tree (fun _=>True) ?_
    clear hsure hS hQQ
    have HRW:=am (R_kps hRW0.out HP0.out HK.out)
    replace HK:=am (HK.out.mono (S':=SI g r b) fun k h=>.inl h)
    have hszk:=HK.out.size
    refine tree_1Q (i:=7) (by kernel_rfl) ?_
    refine step_list (by rfl) ?_
    have st5:=tt
    go_wp2_with ((
          refine append0 Tryd.underlying22 info27 (b + 3) rfl (.tmp 22) (.tmp 25) _ (by rfl) rfl A c (W4.heap.size) xs (by rfl) (by rfl) HRW.out HZ.out (by omega) (by omega) ?_
          clear st5
          go_must (
           intro g7 cap7 w70 hR10 hb7 hlt7 hat7 hG10
           have hown:=R_ownb HRW.out
           have V2:=am (V_app (B:=b + 3) (VO.node 15 a1 0 s HKD.out) hG10 (fun k hk=>by have:=hsl k hk;omega) hat7 (by omega))
           replace HK:=am (Kept.grown HK.out hG10 (fun k hk=>.inl (.inr (.inr (by have:=(hown k hk).1;omega)))))
           replace HP:=am (HP.out.grown hG10 (fun k hk=>R_own27 HRW.out k hk))
           replace HB0:=am (HB0.out.of_block (hG10.block _ HB0.out.lt (fun h=>by have:=hown _ h.symm;omega)))
           replace HB1:=am (HB1.out.of_block (hG10.block _ HB1.out.lt (fun h=>by have:=hown _ h.symm;omega)))
           replace HB2:=am (HB2.out.of_block (hG10.block _ HB2.out.lt (fun h=>by have:=hown _ h.symm;omega)))
           replace HX:=am (HX.out.of_block (hG10.block _ HX.out.lt (fun h=>by have:=hown _ h.symm;omega)))
           have HRN:=am hR10
           clear hR10 hG10
           have st6:=tt)))
    clear st6
    try refine ⟨trivial, ?_⟩
    try simp only [Act.put,sA,sB,sC]
    refine tqh (by intro c a a' w1 hd h;simp +zetaDelta only [Exit.then,Exit.inBlock,bodyPost] at h ⊢; simpa [hd] using h) trivial 8 ?_
    apply Exists.intro
    apply And.intro
    ·rintro w' -
     apply VR.mk
     go_simp
     with_reducible rfl
    try simp only [Act.put,sA,sB,sC]
    refine tqh (by intro c a a' w1 hd h;simp +zetaDelta only [Exit.then,Exit.inBlock,bodyPost] at h ⊢; simpa [hd] using h) trivial 9 ?_
    apply Exists.intro
    apply And.intro
    ·rintro w' -
     apply VR.mk
     go_simp
     with_reducible rfl
    try simp only [Act.put,sA,sB,sC]
    refine tree_1Q (i:=10) (by kernel_rfl) ?_
    refine step_list (by rfl) ?_
    have hown7:∀ k,some g7 = some k -> b + 3 <= k /\ k < w70.heap.size:=fun k hk=>by obtain rfl:=Option.some.inj hk;exact ⟨hb7,hlt7⟩
    have hi0:(0:Int) <= (xs.length:Int):=by omega
    have hi1:(xs.length:Int) < ((xs.length + 1:Nat):Int):=by omega
    have hwr:IntKind.i64.wrap (xs.length:Int) = xs.length:=IntWalk.i64_in _ (by omega)
    have c7:=hci HX.out 4 rfl
    have f7:=Has.frozen HX.out 4
    go_wp2
    clear c7 f7
    replace HK:=am (Kept.setCellX HK.out (a:=⟨r,4,none⟩) (.inl (.inr (.inl rfl))) (.slice (some ⟨g7,0,none⟩) (xs.length + 1) cap7))
    replace HP:=am (PS.setT HP.out HX.out (by decide) (by decide) 4 (.slice (some ⟨g7,0,none⟩) (xs.length + 1) cap7))
    replace HB0:=am (Has.other HB0.out (a:=⟨r,4,none⟩) (by show b ≠ r;omega) (.slice (some ⟨g7,0,none⟩) (xs.length + 1) cap7))
    replace HB1:=am (Has.other HB1.out (a:=⟨r,4,none⟩) (by show b + 1 ≠ r;omega) (.slice (some ⟨g7,0,none⟩) (xs.length + 1) cap7))
    replace HB2:=am (Has.other HB2.out (a:=⟨r,4,none⟩) (by show b + 2 ≠ r;omega) (.slice (some ⟨g7,0,none⟩) (xs.length + 1) cap7))
    replace HRN:=am (R_far HRN.out (fun kk h1 _=>Below.heap_setCell _ ⟨r,4,none⟩ (.slice (some ⟨g7,0,none⟩) (xs.length + 1) cap7) kk (by show kk ≠ r;omega)))
    replace V2:=am (VO.setO V2.out (a:=⟨r,4,none⟩) (fun kk h1 h2=>by show kk ≠ r;omega) (.slice (some ⟨g7,0,none⟩) (xs.length + 1) cap7))
    replace HX:Aside0 (Has (w70.setCell ⟨r,4,none⟩ (.slice (some ⟨g7,0,none⟩) (xs.length + 1) cap7)) (r) #[.int .i64 14,.int .i64 a0,.int .i64 0,.string tx,(.slice (some ⟨g7,0,none⟩) (xs.length + 1) cap7),.slice none 0 0,.int .i64 0,.string ⟨#[]⟩,.int .i64 0,.slice none 0 0] 27):=⟨by have h:=Has.set_ HX.out 4 (.slice (some ⟨g7,0,none⟩) (xs.length + 1) cap7);exact h⟩
    replace hown7:∀ k,some g7 = some k -> b + 3 <= k /\ k < ((w70.setCell ⟨r,4,none⟩ (.slice (some ⟨g7,0,none⟩) (xs.length + 1) cap7))).heap.size:=fun k hk=>by have:=hown7 k hk;simpa using this
    first | refine ⟨trivial,tree_endQ (by kernel_rfl) ?_⟩ | refine tree_endQ (by kernel_rfl) ?_
    have st7:=tt
    go_wp2_with ((
          refine storeN i27 (b + 3) rfl rfl (.tmp 29) (.tmp 23) rfl g7 cap7 xs (mkE 15 a1 0 s [y] []) [.int .i64 15,.int .i64 a1,.int .i64 0,.string s,.slice (some ⟨(w2).heap.size,0,none⟩) 1 1,.slice none 0 0,.int .i64 0,.string ⟨#[]⟩,.int .i64 0,.slice none 0 0] (by rfl) (by rfl) HRN.out V2.out ?_
          clear st7
          go_must (
           intro w71 hR11 hG11
           replace HK:=am (Kept.grown HK.out hG11 (fun k hk=>.inl (.inr (.inr (by have:=(hown7 k hk).1;omega)))))
           replace HP:=am (HP.out.grown hG11 (fun k hk=>R_own27 HRN.out k hk))
           replace HB0:=am (HB0.out.of_block (hG11.block _ HB0.out.lt (fun h=>by have:=hown7 _ h.symm;omega)))
           replace HB1:=am (HB1.out.of_block (hG11.block _ HB1.out.lt (fun h=>by have:=hown7 _ h.symm;omega)))
           replace HB2:=am (HB2.out.of_block (hG11.block _ HB2.out.lt (fun h=>by have:=hown7 _ h.symm;omega)))
           replace HX:=am (HX.out.of_block (hG11.block _ HX.out.lt (fun h=>by have:=hown7 _ h.symm;omega)))
           have HRM:=am hR11
           clear hR11 hG11
           have st8:=tt)))
    clear st8
    have HE:Aside0 (R = .ok (xs ++ [mkE 15 a1 0 s [y] []]) l3):=⟨by rw [HEQ.out];simp [needP,PR.andThen,HA.out,HC.out,HD.out]⟩
    refine bodyPost_end (results_none rfl _ _ _) rfl ?_
    rw [HE.out]
    exact ⟨HK.out,rfl,⟨_,HB0.out,HB1.out,HB2.out,HX.out,HRM.out⟩,HP.out⟩
  | false =>
  have HC:=am hHC
  clear hHC
  have st1:=tt
  go_wp2_with ((
        go_at_call 42
        clear st1
        go_must (
         (with_reducible refine Calls.mono (need_no sColon HP.out HC.out) ?_)
         rintro en w1 ⟨he1,hk1⟩
         subst he1
         replace HK:=am (Kept.then_ HK.out hk1)
         replace HB0:=am (Kept.has hk1 HB0.out (by omega))
         replace HB1:=am (Kept.has hk1 HB1.out (by omega))
         replace HB2:=am (Kept.has hk1 HB2.out (by omega))
         replace HX:=am (Kept.has hk1 HX.out (by omega))
         replace HY:=am (Kept.has hk1 HY.out (by omega))
         have hs1:=Kept.size hk1
         try simp at hs1
         clear cw_HB0_0 cw_HB1_0 cw_HB2_0
         have cw_HB0_0:=hci HB0.out 0 rfl
         have cw_HB1_0:=hci HB1.out 0 rfl
         have cw_HB2_0:=hci HB2.out 0 rfl
         have st2:=tt)))
  clear st2
  have HE:Aside0 (R = .bad (atP e l1) 30):=⟨by rw [HEQ.out];simp [needP,PR.andThen,HA.out,HC.out]⟩
  rw [HE.out]
  exact ⟨rfl,HK.out.mono fun k h=>.inl h,rfl⟩
end Go.Proofs.YtngpgdmafmkddaaDoor.Par
end
section
namespace Go.Proofs.YtngpgdmafmkddaaDoor.Par
open Go.Proofs.YtngpgdmafmkddaaDoor.Calm Go.RowKit Go.Proofs.YtngpgdmafmkddaaDoorW.PrintWords Go.Proofs.YtngpgdmafmkddaaDoorW.PrintLast Go.Proofs.YtngpgdmafmkddaaDoorW.PrintMore
open Go.Proofs.YtngpgdmafmkddaaDoor.PParseBlanks (S35 S25 S27 k35 k25 k27 rd_T35 rd_T25 rd_T27 at_T35 at_T25 at_T27)
set_option linter.unusedVariables false
set_option linter.unusedSimpArgs false
def NamedOK (n:Nat):Prop := ∀ (g:Nat) (e d:Int) (op:Bool) (r:Nat) (l:List S35) (w:World),0 <= d -> d < 60 -> PS w g l e -> Has w r #[.int .i64 0,.int .i64 (atP e l),.int .i64 0,.string ⟨#[]⟩,.slice none 0 0,.slice none 0 0,.int .i64 0,.string ⟨#[]⟩,.int .i64 0,.slice none 0 0] 27 -> namedP e n d op l ≠ .out ->
 Calls Tryd.prog 86 #[.pointer (some ⟨g,0,none⟩),.pointer (some ⟨r,0,none⟩),.int .i64 d,.bool op] w (BPost g e r (namedP e n d op l) w)
theorem Kept.wide2 {g r b:Nat} {w w1 w2:World} (h:Kept (fun k=>k = g \/ k = r) w w1) (hB:w.heap.size <= b + 3) (hk:Kept (SI g r b) w1 w2):Kept (fun k=>k = g \/ k = r) w w2:=
 ⟨hk.os.trans h.os,hk.tape.trans h.tape,hk.output.trans h.output,Nat.le_trans h.size hk.size,fun k h1 h2=>(hk.block k (Nat.lt_of_lt_of_le h1 h.size) (fun h=>h.elim (fun e=>h2 (.inl e)) fun h=>h.elim (fun e=>h2 (.inr e)) (fun h=>by omega))).trans (h.block k h1 h2)⟩
set_option maxRecDepth 100000 in
set_option maxHeartbeats 4000000 in
theorem named_ok {n:Nat} (HTS:TreesOK n) (HT:∀ m,m < n + 1 -> TreeOK m):NamedOK (n + 1):=by
 have HTA:=am HT
 intro g e d op r l w h0 h1 HP HX hne
 unfold TreesOK at HTS
 have hu27:=Tryd.underlying27
 have HE:namedP e (n + 1) d op l = (nameP e l).andThen fun s l1 =>
  if isP sLpar l1 = true then (treesP e n d sRpar l1.tail).andThen fun ks l2=>.ok (mkE 11 (atP e l) 0 s ks []) l2
  else if isP sColons l1 = true then (nameP e l1.tail).andThen fun s2 l2 =>
   if s.size + s2.size >= 4611686018427387904 then .out
   else if isP sLpar l2 = true then (treesP e n d sRpar l2.tail).andThen fun ks l3=>.ok (mkE 16 (atP e l) 0 (s ++ (sColons ++ s2)) ks []) l3
   else .ok (mkE 16 (atP e l) 0 (s ++ (sColons ++ s2)) [] []) l2
  else if op = true /\ isP sLbrace l1 = true then (initsP e n d l1.tail).andThen fun ks l2=>.ok (mkE 14 (atP e l) 0 s ks []) l2
  else .ok (mkE 4 (atP e l) 0 s [] []) l1:=by simp only [namedP]
 obtain ⟨R,hR⟩:∃ R,namedP e (n + 1) d op l = R:=⟨_,rfl⟩
 rw [hR] at HE hne ⊢
 clear hR
 have hgw:=HP.glt
 have hrw:=HX.lt
 have hrg:r ≠ g:=by
  obtain ⟨_,_,q⟩:=HP
  exact HX.ne q.has (by decide)
 obtain ⟨a0,ha0⟩:∃ a,atP e l = a:=⟨_,rfl⟩
 rw [ha0] at HE HX
 clear ha0
 have HEQ:=am HE
 have HNE:=am hne
 have HTTS:=am HTS
 have HK:Aside0 (Kept (fun b=>b = g \/ b = r) w w):=⟨Kept.refl _ w⟩
 have HP:=am HP
 have HX:=am HX
 clear HE hne HTS HT
 have ba1:=below_alloc (Below.refl (w).heap.size (w)) (Obj.cells #[.pointer (some ⟨g,0,none⟩)] 52)
 replace HK:=am (Kept.below HK.out ba1)
 replace HP:=am (HP.out.below ba1)
 replace HX:=am (HX.out.belowS ba1)
 clear ba1
 have HB0:=am (Has.new (w) #[.pointer (some ⟨g,0,none⟩)] 52)
 have hz1:((w.alloc (Obj.cells #[.pointer (some ⟨g,0,none⟩)] 52))).heap.size = w.heap.size + 1:=by simp
 have ba2:=below_alloc (Below.refl ((w.alloc (Obj.cells #[.pointer (some ⟨g,0,none⟩)] 52))).heap.size ((w.alloc (Obj.cells #[.pointer (some ⟨g,0,none⟩)] 52)))) (Obj.cells #[.pointer (some ⟨r,0,none⟩)] 115)
 replace HK:=am (Kept.below HK.out ba2)
 replace HP:=am (HP.out.below ba2)
 replace HX:=am (HX.out.belowS ba2)
 replace HB0:=am (HB0.out.belowS ba2)
 clear ba2
 have HB1:Aside0 (Has (((w.alloc (Obj.cells #[.pointer (some ⟨g,0,none⟩)] 52))).alloc (Obj.cells #[.pointer (some ⟨r,0,none⟩)] 115)) (w.heap.size + 1) #[.pointer (some ⟨r,0,none⟩)] 115):=⟨by have h:=Has.new ((w.alloc (Obj.cells #[.pointer (some ⟨g,0,none⟩)] 52))) #[.pointer (some ⟨r,0,none⟩)] 115;first | exact h | (simpa using h)⟩
 have ba3:=below_alloc (Below.refl ((((w.alloc (Obj.cells #[.pointer (some ⟨g,0,none⟩)] 52))).alloc (Obj.cells #[.pointer (some ⟨r,0,none⟩)] 115))).heap.size ((((w.alloc (Obj.cells #[.pointer (some ⟨g,0,none⟩)] 52))).alloc (Obj.cells #[.pointer (some ⟨r,0,none⟩)] 115)))) (Obj.cells #[.int .i64 d] 3)
 replace HK:=am (Kept.below HK.out ba3)
 replace HP:=am (HP.out.below ba3)
 replace HX:=am (HX.out.belowS ba3)
 replace HB0:=am (HB0.out.belowS ba3)
 replace HB1:=am (HB1.out.belowS ba3)
 clear ba3
 have HB2:Aside0 (Has (((((w.alloc (Obj.cells #[.pointer (some ⟨g,0,none⟩)] 52))).alloc (Obj.cells #[.pointer (some ⟨r,0,none⟩)] 115))).alloc (Obj.cells #[.int .i64 d] 3)) (w.heap.size + 2) #[.int .i64 d] 3):=⟨by have h:=Has.new ((((w.alloc (Obj.cells #[.pointer (some ⟨g,0,none⟩)] 52))).alloc (Obj.cells #[.pointer (some ⟨r,0,none⟩)] 115))) #[.int .i64 d] 3;first | exact h | (simpa using h)⟩
 obtain ⟨W1,hW1⟩:∃ W,((((((w.alloc (Obj.cells #[.pointer (some ⟨g,0,none⟩)] 52))).alloc (Obj.cells #[.pointer (some ⟨r,0,none⟩)] 115))).alloc (Obj.cells #[.int .i64 d] 3))).drew = W:=⟨_,rfl⟩
 have hD:=below_drew (Below.refl ((((((w.alloc (Obj.cells #[.pointer (some ⟨g,0,none⟩)] 52))).alloc (Obj.cells #[.pointer (some ⟨r,0,none⟩)] 115))).alloc (Obj.cells #[.int .i64 d] 3))).heap.size ((((((w.alloc (Obj.cells #[.pointer (some ⟨g,0,none⟩)] 52))).alloc (Obj.cells #[.pointer (some ⟨r,0,none⟩)] 115))).alloc (Obj.cells #[.int .i64 d] 3))))
 replace HK:=am (Kept.below HK.out hD)
 replace HP:=am (HP.out.below hD)
 replace HX:=am (HX.out.belowS hD)
 replace HB0:=am (HB0.out.belowS hD)
 replace HB1:=am (HB1.out.belowS hD)
 replace HB2:=am (HB2.out.belowS hD)
 clear hD
 rw [hW1] at HK HP HX HB0 HB1 HB2
 have hz2:=HB2.out.lt
 go_enter Tryd.func86,Tryd.ntmps86
 go_wp2
 refine region_treeR 7 (by kernel_rfl) (by kernel_rfl) (fun w' => Has w' w.heap.size #[.pointer (some ⟨g,0,none⟩)] 52 /\ Has w' (w.heap.size + 1) #[.pointer (some ⟨r,0,none⟩)] 115 /\ Has w' (w.heap.size + 2) #[.int .i64 d] 3) (hW1 ▸ ⟨HB0.out,HB1.out,HB2.out⟩) fun hS => ?_
 rw [hW1] at hS ⊢
 clear hW1
 simp only [List.take_succ_cons,List.take_zero]
 generalize hQQ:tailK _ _ = QQ
 have hsure:Sure QQ:=by
  rw [<- hQQ]
  intro c a a' w1 hd h
  simp +zetaDelta only [tailK,Exit.then,Exit.inBlock,bodyPost] at h ⊢
  simpa [hd] using h
 refine tqh hsure hS 0 ?_
 apply Exists.intro
 apply And.intro
 ·rintro w' ⟨k1,k2,k3⟩
  have cc0:=k1.cell 0
  have cc1:=k2.cell 0
  have cc2:=k3.cell 0
  simp only [List.getElem?_toArray,List.getElem?_cons_zero,List.getElem?_cons_succ] at cc0 cc1 cc2
  apply VR.mk
  go_simp
  with_reducible rfl
 simp only [sA,sB,sC]
 refine tqh hsure hS 1 ?_
 apply Exists.intro
 apply And.intro
 ·rintro w' ⟨k1,k2,k3⟩
  have cc0:=k1.cell 0
  have cc1:=k2.cell 0
  have cc2:=k3.cell 0
  simp only [List.getElem?_toArray,List.getElem?_cons_zero,List.getElem?_cons_succ] at cc0 cc1 cc2
  apply VR.mk
  go_simp
  with_reducible rfl
 simp only [sA,sB,sC]
 refine tqh hsure hS 2 ?_
 apply Exists.intro
 apply And.intro
 ·rintro w' ⟨k1,k2,k3⟩
  have cc0:=k1.cell 0
  have cc1:=k2.cell 0
  have cc2:=k3.cell 0
  simp only [List.getElem?_toArray,List.getElem?_cons_zero,List.getElem?_cons_succ] at cc0 cc1 cc2
  apply VR.mk
  go_simp
  with_reducible rfl
 simp only [sA,sB,sC]
 refine tree_1Q (i:=3) (by kernel_rfl) ?_
 refine step_callQ (by rfl) (by rfl) (by rfl) (ER.go (by go_simp;with_reducible exact ⟨rfl,rfl⟩)) ?_
 refine (name_said g l e W1 HP.out).mono ?_
 intro en w1 hq
 rcases hq.ways with ⟨v,s,l1,hr,rfl,hk,rfl,hp⟩ | ⟨b,er,hr,rfl,hk⟩
 ·rw [hr] at HEQ
  simp only [PR.andThen] at HEQ
  replace HK:=am (Kept.then_ HK.out (Kept.mono hk fun kk h=>.inl h))
  replace HX:=am (Kept.has hk HX.out (by omega))
  replace HB0:=am (Kept.has hk HB0.out (by omega))
  replace HB1:=am (Kept.has hk HB1.out (by omega))
  replace HB2:=am (Kept.has hk HB2.out (by omega))
  replace HP:=am hp
  have hs0:=Kept.size hk
  try simp at hs0
  refine .inl ⟨.string s,rfl,⟨HB0.out,HB1.out,HB2.out⟩, ?_⟩
  simp only [sA,sB,sC]
  clear hr hk
  refine tqh hsure ⟨HB0.out,HB1.out,HB2.out⟩ 4 ?_
  apply Exists.intro
  apply And.intro
  ·rintro w' ⟨k1,k2,k3⟩
   apply VR.mk
   go_simp
   with_reducible rfl
  simp only [sA,sB,sC]
  refine tqh hsure ⟨HB0.out,HB1.out,HB2.out⟩ 5 ?_
  apply Exists.intro
  apply And.intro
  ·rintro w' ⟨k1,k2,k3⟩
   apply VR.mk
   go_simp
   with_reducible rfl
  simp only [sA,sB,sC]
  refine tree_1Q (i:=6) (by kernel_rfl) ?_
  refine step_list (by rfl) ?_
  have c1:=hci HX.out 0 rfl
  have f1:=Has.frozen HX.out 0
  go_wp2
  clear c1 f1
  replace HK:=am (Kept.setCellX HK.out (a:=⟨r,0,none⟩) (.inl (.inr rfl)) (.int .i64 4))
  replace HP:=am (PS.setT HP.out HX.out (by decide) (by decide) 0 (.int .i64 4))
  replace HB0:=am (Has.other HB0.out (a:=⟨r,0,none⟩) (by show w.heap.size ≠ r;omega) (.int .i64 4))
  replace HB1:=am (Has.other HB1.out (a:=⟨r,0,none⟩) (by show w.heap.size + 1 ≠ r;omega) (.int .i64 4))
  replace HB2:=am (Has.other HB2.out (a:=⟨r,0,none⟩) (by show w.heap.size + 2 ≠ r;omega) (.int .i64 4))
  replace HX:Aside0 (Has (w1.setCell ⟨r,0,none⟩ (.int .i64 4)) (r) #[.int .i64 4,.int .i64 a0,.int .i64 0,.string ⟨#[]⟩,.slice none 0 0,.slice none 0 0,.int .i64 0,.string ⟨#[]⟩,.int .i64 0,.slice none 0 0] 27):=⟨by have h:=Has.set_ HX.out 0 (.int .i64 4);exact h⟩
  refine ⟨⟨HB0.out,HB1.out,HB2.out⟩, ?_⟩
  rw [<- hQQ]
  refine tree_doneR (by kernel_rfl) ?_
  refine restQ_tree (fun _=>True) ?_
  clear hsure hS hQQ
  refine tqh (by intro c a a' w1 hd h;simp +zetaDelta only [Exit.then,Exit.inBlock,bodyPost] at h ⊢; simpa [hd] using h) trivial 7 ?_
  apply Exists.intro
  apply And.intro
  ·rintro w' -
   apply VR.mk
   go_simp
   with_reducible rfl
  simp only [sA,sB,sC]
  refine tqh (by intro c a a' w1 hd h;simp +zetaDelta only [Exit.then,Exit.inBlock,bodyPost] at h ⊢; simpa [hd] using h) trivial 8 ?_
  apply Exists.intro
  apply And.intro
  ·rintro w' -
   apply VR.mk
   go_simp
   with_reducible rfl
  simp only [sA,sB,sC]
  have c2:=hci HX.out 3 rfl
  have f2:=Has.frozen HX.out 3
  refine tree_1Q (i:=9) (by kernel_rfl) ?_
  refine step_list (by rfl) ?_
  go_wp2
  refine ⟨trivial,tree_endQ (by kernel_rfl) ?_⟩
  clear c2 f2
  replace HK:=am (Kept.setCellX HK.out (a:=⟨r,3,none⟩) (.inl (.inr rfl)) (.string s))
  replace HP:=am (PS.setT HP.out HX.out (by decide) (by decide) 3 (.string s))
  replace HB0:=am (Has.other HB0.out (a:=⟨r,3,none⟩) (by show w.heap.size ≠ r;omega) (.string s))
  replace HB1:=am (Has.other HB1.out (a:=⟨r,3,none⟩) (by show w.heap.size + 1 ≠ r;omega) (.string s))
  replace HB2:=am (Has.other HB2.out (a:=⟨r,3,none⟩) (by show w.heap.size + 2 ≠ r;omega) (.string s))
  replace HX:Aside0 (Has (((w1.setCell ⟨r,0,none⟩ (.int .i64 4))).setCell ⟨r,3,none⟩ (.string s)) (r) #[.int .i64 4,.int .i64 a0,.int .i64 0,.string s,.slice none 0 0,.slice none 0 0,.int .i64 0,.string ⟨#[]⟩,.int .i64 0,.slice none 0 0] 27):=⟨by have h:=Has.set_ HX.out 3 (.string s);exact h⟩
  cases hi:isP sLpar l1 with
  | true =>
   replace HEQ:=am (HEQ.out.trans (if_pos hi))
   have HI:=am hi
   clear hi
   have c3:=hci HB0.out 0 rfl
   have f3:=Has.frozen HB0.out 0
   go_wp2_with ((
         go_at_call 41
         (with_reducible refine Calls.mono (take_yes sLpar HP.out HI.out) ?_)
         rintro en w4 ⟨he4,hk4,hp4⟩
         clear c3 f3
         subst he4
         replace HK:=am (Kept.then_ HK.out (Kept.mono hk4 fun kk h=>.inl h))
         replace HX:=am (Kept.has hk4 HX.out (by omega))
         replace HB0:=am (Kept.has hk4 HB0.out (by omega))
         replace HB1:=am (Kept.has hk4 HB1.out (by omega))
         replace HB2:=am (Kept.has hk4 HB2.out (by omega))
         replace HP:=am hp4
         have hs4:=Kept.size hk4
         try simp at hs4))
   clear HI
   have hD:=below_drew (Below.refl (w4).heap.size (w4))
   replace HK:=am (Kept.below HK.out hD)
   replace HP:=am (HP.out.below hD)
   replace HX:=am (HX.out.belowS hD)
   replace HB0:=am (HB0.out.belowS hD)
   replace HB1:=am (HB1.out.belowS hD)
   replace HB2:=am (HB2.out.belowS hD)
   clear hD
   obtain ⟨W3,hW1⟩:∃ W,(w4).drew = W:=⟨_,rfl⟩
   rw [hW1] at HK HP HX HB0 HB1 HB2
   have hzW3:=HB2.out.lt
   refine region_treeR 8 (by kernel_rfl) (by kernel_rfl) (fun w' => Has w' w.heap.size #[.pointer (some ⟨g,0,none⟩)] 52 /\ Has w' (w.heap.size + 1) #[.pointer (some ⟨r,0,none⟩)] 115 /\ Has w' (w.heap.size + 2) #[.int .i64 d] 3) (hW1 ▸ ⟨HB0.out,HB1.out,HB2.out⟩) fun hS => ?_
   rw [hW1] at hS ⊢
   clear hW1
   simp only [List.take_succ_cons,List.take_zero]
   generalize hQQ:tailK _ _ = QQ
   have hsure:Sure QQ:=by
    rw [<- hQQ]
    intro c a a' w1 hd h
    simp +zetaDelta only [tailK,Exit.then,Exit.inBlock,bodyPost] at h ⊢
    simpa [hd] using h
   refine tqh hsure hS 0 ?_
   apply Exists.intro
   apply And.intro
   ·rintro w' ⟨k1,k2,k3⟩
    have cc0:=k1.cell 0
    have cc1:=k2.cell 0
    have cc2:=k3.cell 0
    simp only [List.getElem?_toArray,List.getElem?_cons_zero,List.getElem?_cons_succ] at cc0 cc1 cc2
    apply VR.mk
    go_simp
    with_reducible rfl
   simp only [sA,sB,sC]
   refine tqh hsure hS 1 ?_
   apply Exists.intro
   apply And.intro
   ·rintro w' ⟨k1,k2,k3⟩
    have cc0:=k1.cell 0
    have cc1:=k2.cell 0
    have cc2:=k3.cell 0
    simp only [List.getElem?_toArray,List.getElem?_cons_zero,List.getElem?_cons_succ] at cc0 cc1 cc2
    apply VR.mk
    go_simp
    with_reducible rfl
   simp only [sA,sB,sC]
   refine tqh hsure hS 2 ?_
   apply Exists.intro
   apply And.intro
   ·rintro w' ⟨k1,k2,k3⟩
    have cc0:=k1.cell 0
    have cc1:=k2.cell 0
    have cc2:=k3.cell 0
    simp only [List.getElem?_toArray,List.getElem?_cons_zero,List.getElem?_cons_succ] at cc0 cc1 cc2
    apply VR.mk
    go_simp
    with_reducible rfl
   simp only [sA,sB,sC]
   refine tqh hsure hS 3 ?_
   apply Exists.intro
   apply And.intro
   ·rintro w' ⟨k1,k2,k3⟩
    have cc0:=k1.cell 0
    have cc1:=k2.cell 0
    have cc2:=k3.cell 0
    simp only [List.getElem?_toArray,List.getElem?_cons_zero,List.getElem?_cons_succ] at cc0 cc1 cc2
    apply VR.mk
    go_simp
    with_reducible rfl
   simp only [sA,sB,sC]
   refine tree_1Q (i:=4) (by kernel_rfl) ?_
   refine step_callQ (by rfl) (by rfl) (by rfl) (ER.go (by go_simp;with_reducible exact ⟨rfl,rfl⟩)) ?_
   have hne2:treesP e n d sRpar l1.tail ≠ .out:=fun h=>HNE.out (by rw [HEQ.out,h] <;> rfl)
   refine (HTTS.out g e d sRpar l1.tail W3 h0 (by omega) HP.out hne2).mono ?_
   intro en w5 hq
   rcases hq.ways with ⟨v,ks,l2,hr,rfl,hk,hv,hp⟩ | ⟨b,er,hr,rfl,hk⟩
   ·rw [hr] at HEQ
    simp only [PR.andThen] at HEQ
    replace HK:=am (Kept.then_ HK.out (Kept.mono hk fun kk h=>.inl h))
    replace HX:=am (Kept.has hk HX.out (by omega))
    replace HB0:=am (Kept.has hk HB0.out (by omega))
    replace HB1:=am (Kept.has hk HB1.out (by omega))
    replace HB2:=am (Kept.has hk HB2.out (by omega))
    replace HP:=am hp
    have hs5:=Kept.size hk
    try simp at hs5
    have HKS:=am hv
    clear hv hr hk
    obtain ⟨A2,c2,rfl⟩:=Kd.R_slice HKS.out
    refine .inl ⟨.slice A2 ks.length c2,rfl,⟨HB0.out,HB1.out,HB2.out⟩, ?_⟩
    simp only [sA,sB,sC]
    refine tqh hsure ⟨HB0.out,HB1.out,HB2.out⟩ 5 ?_
    apply Exists.intro
    apply And.intro
    ·rintro w' ⟨k1,k2,k3⟩
     apply VR.mk
     go_simp
     with_reducible rfl
    simp only [sA,sB,sC]
    refine tqh hsure ⟨HB0.out,HB1.out,HB2.out⟩ 6 ?_
    apply Exists.intro
    apply And.intro
    ·rintro w' ⟨k1,k2,k3⟩
     apply VR.mk
     go_simp
     with_reducible rfl
    simp only [sA,sB,sC]
    refine tree_1Q (i:=7) (by kernel_rfl) ?_
    refine step_list (by rfl) ?_
    have c6:=hci HX.out 0 rfl
    have f6:=Has.frozen HX.out 0
    go_wp2
    clear c6 f6
    replace HK:=am (Kept.setCellX HK.out (a:=⟨r,0,none⟩) (.inl (.inr rfl)) (.int .i64 11))
    replace HP:=am (PS.setT HP.out HX.out (by decide) (by decide) 0 (.int .i64 11))
    replace HB0:=am (Has.other HB0.out (a:=⟨r,0,none⟩) (by show w.heap.size ≠ r;omega) (.int .i64 11))
    replace HB1:=am (Has.other HB1.out (a:=⟨r,0,none⟩) (by show w.heap.size + 1 ≠ r;omega) (.int .i64 11))
    replace HB2:=am (Has.other HB2.out (a:=⟨r,0,none⟩) (by show w.heap.size + 2 ≠ r;omega) (.int .i64 11))
    replace HKS:=am (R_far HKS.out (fun kk h1 _=>Below.heap_setCell _ ⟨r,0,none⟩ (.int .i64 11) kk (by show kk ≠ r;omega)))
    replace HX:Aside0 (Has (w5.setCell ⟨r,0,none⟩ (.int .i64 11)) (r) #[.int .i64 11,.int .i64 a0,.int .i64 0,.string s,.slice none 0 0,.slice none 0 0,.int .i64 0,.string ⟨#[]⟩,.int .i64 0,.slice none 0 0] 27):=⟨by have h:=Has.set_ HX.out 0 (.int .i64 11);exact h⟩
    refine ⟨⟨HB0.out,HB1.out,HB2.out⟩, ?_⟩
    rw [<- hQQ]
    refine tree_doneR (by kernel_rfl) ?_
    refine restQ_tree (fun _=>True) ?_
    clear hsure hS hQQ
    refine tqh (by intro c a a' w1 hd h;simp +zetaDelta only [Exit.then,Exit.inBlock,bodyPost] at h ⊢; simpa [hd] using h) trivial 8 ?_
    apply Exists.intro
    apply And.intro
    ·rintro w' -
     apply VR.mk
     go_simp
     with_reducible rfl
    simp only [sA,sB,sC]
    refine tqh (by intro c a a' w1 hd h;simp +zetaDelta only [Exit.then,Exit.inBlock,bodyPost] at h ⊢; simpa [hd] using h) trivial 9 ?_
    apply Exists.intro
    apply And.intro
    ·rintro w' -
     apply VR.mk
     go_simp
     with_reducible rfl
    simp only [sA,sB,sC]
    have c7:=hci HX.out 4 rfl
    have f7:=Has.frozen HX.out 4
    refine tree_1Q (i:=10) (by kernel_rfl) ?_
    refine step_list (by rfl) ?_
    go_wp2
    refine ⟨trivial,tree_endQ (by kernel_rfl) ?_⟩
    clear c7 f7
    replace HK:=am (Kept.setCellX HK.out (a:=⟨r,4,none⟩) (.inl (.inr rfl)) (.slice A2 ks.length c2))
    replace HP:=am (PS.setT HP.out HX.out (by decide) (by decide) 4 (.slice A2 ks.length c2))
    replace HB0:=am (Has.other HB0.out (a:=⟨r,4,none⟩) (by show w.heap.size ≠ r;omega) (.slice A2 ks.length c2))
    replace HB1:=am (Has.other HB1.out (a:=⟨r,4,none⟩) (by show w.heap.size + 1 ≠ r;omega) (.slice A2 ks.length c2))
    replace HB2:=am (Has.other HB2.out (a:=⟨r,4,none⟩) (by show w.heap.size + 2 ≠ r;omega) (.slice A2 ks.length c2))
    replace HKS:=am (R_far HKS.out (fun kk h1 _=>Below.heap_setCell _ ⟨r,4,none⟩ (.slice A2 ks.length c2) kk (by show kk ≠ r;omega)))
    replace HX:Aside0 (Has (((w5.setCell ⟨r,0,none⟩ (.int .i64 11))).setCell ⟨r,4,none⟩ (.slice A2 ks.length c2)) (r) #[.int .i64 11,.int .i64 a0,.int .i64 0,.string s,.slice A2 ks.length c2,.slice none 0 0,.int .i64 0,.string ⟨#[]⟩,.int .i64 0,.slice none 0 0] 27):=⟨by have h:=Has.set_ HX.out 4 (.slice A2 ks.length c2);exact h⟩
    refine bodyPost_end (results_none rfl _ _ _) rfl ?_
    rw [HEQ.out]
    exact ⟨HK.out,rfl,⟨_,HX.out,VO.node 11 a0 0 s (Kd.R_lower HKS.out (by omega))⟩,HP.out⟩
   ·refine .inr ⟨_,rfl, ?_⟩
    replace HEQ:Aside0 (R = .bad b er):=⟨by rw [HEQ.out,hr] <;> rfl⟩
    rw [<- hQQ,HEQ.out]
    exact ⟨rfl,Kept.then_ HK.out (Kept.mono hk fun kk h=>.inl h),rfl⟩
  | false =>
   replace HEQ:=am (HEQ.out.trans (if_neg (by rw [hi];decide)))
   have HI:=am hi
   clear hi
   cases hj:isP sColons l1 with
   | true =>
    replace HEQ:=am (HEQ.out.trans (if_pos hj))
    have HJ:=am hj
    clear hj
    have c3:=hci HB0.out 0 rfl
    have f3:=Has.frozen HB0.out 0
    go_wp2_with (first
      | (
       go_at_call 41
       (with_reducible refine Calls.mono (take_no sLpar HP.out HI.out) ?_)
       rintro en w4 ⟨he4,hk4,hp4⟩
       clear c3 f3
       subst he4
       replace HK:=am (Kept.then_ HK.out (Kept.mono hk4 fun kk h=>.inl h))
       replace HX:=am (Kept.has hk4 HX.out (by omega))
       replace HB0:=am (Kept.has hk4 HB0.out (by omega))
       replace HB1:=am (Kept.has hk4 HB1.out (by omega))
       replace HB2:=am (Kept.has hk4 HB2.out (by omega))
       replace HP:=am hp4
       have hs4:=Kept.size hk4
       try simp at hs4
       have c5:=hci HB0.out 0 rfl
       have f5:=Has.frozen HB0.out 0)
      | (
       go_at_call 41
       (with_reducible refine Calls.mono (take_yes sColons HP.out HJ.out) ?_)
       rintro en w6 ⟨he6,hk6,hp6⟩
       clear c5 f5
       subst he6
       replace HK:=am (Kept.then_ HK.out (Kept.mono hk6 fun kk h=>.inl h))
       replace HX:=am (Kept.has hk6 HX.out (by omega))
       replace HB0:=am (Kept.has hk6 HB0.out (by omega))
       replace HB1:=am (Kept.has hk6 HB1.out (by omega))
       replace HB2:=am (Kept.has hk6 HB2.out (by omega))
       replace HP:=am hp6
       have hs6:=Kept.size hk6
       try simp at hs6
       have c7:=hci HB1.out 0 rfl
       have f7:=Has.frozen HB1.out 0
       have c8:=hci HX.out 0 rfl
       have f8:=Has.frozen HX.out 0))
    clear c7 f7 c8 f8
    replace HK:=am (Kept.setCellX HK.out (a:=⟨r,0,none⟩) (.inl (.inr rfl)) (.int .i64 16))
    replace HP:=am (PS.setT HP.out HX.out (by decide) (by decide) 0 (.int .i64 16))
    replace HB0:=am (Has.other HB0.out (a:=⟨r,0,none⟩) (by show w.heap.size ≠ r;omega) (.int .i64 16))
    replace HB1:=am (Has.other HB1.out (a:=⟨r,0,none⟩) (by show w.heap.size + 1 ≠ r;omega) (.int .i64 16))
    replace HB2:=am (Has.other HB2.out (a:=⟨r,0,none⟩) (by show w.heap.size + 2 ≠ r;omega) (.int .i64 16))
    replace HX:Aside0 (Has (w6.setCell ⟨r,0,none⟩ (.int .i64 16)) (r) #[.int .i64 16,.int .i64 a0,.int .i64 0,.string s,.slice none 0 0,.slice none 0 0,.int .i64 0,.string ⟨#[]⟩,.int .i64 0,.slice none 0 0] 27):=⟨by have h:=Has.set_ HX.out 0 (.int .i64 16);exact h⟩
    have hD:=below_drew (Below.refl ((w6.setCell ⟨r,0,none⟩ (.int .i64 16))).heap.size ((w6.setCell ⟨r,0,none⟩ (.int .i64 16))))
    replace HK:=am (Kept.below HK.out hD)
    replace HP:=am (HP.out.below hD)
    replace HX:=am (HX.out.belowS hD)
    replace HB0:=am (HB0.out.belowS hD)
    replace HB1:=am (HB1.out.belowS hD)
    replace HB2:=am (HB2.out.belowS hD)
    clear hD
    obtain ⟨W4,hW1⟩:∃ W,((w6.setCell ⟨r,0,none⟩ (.int .i64 16))).drew = W:=⟨_,rfl⟩
    rw [hW1] at HK HP HX HB0 HB1 HB2
    have hzW4:=HB2.out.lt
    refine region_treeR 8 (by kernel_rfl) (by kernel_rfl) (fun w' => Has w' w.heap.size #[.pointer (some ⟨g,0,none⟩)] 52 /\ Has w' (w.heap.size + 1) #[.pointer (some ⟨r,0,none⟩)] 115 /\ Has w' (w.heap.size + 2) #[.int .i64 d] 3 /\ Has w' r #[.int .i64 16,.int .i64 a0,.int .i64 0,.string s,.slice none 0 0,.slice none 0 0,.int .i64 0,.string ⟨#[]⟩,.int .i64 0,.slice none 0 0] 27) (hW1 ▸ ⟨HB0.out,HB1.out,HB2.out,HX.out⟩) fun hS => ?_
    rw [hW1] at hS ⊢
    clear hW1
    simp only [List.take_succ_cons,List.take_zero]
    generalize hQQ:tailK _ _ = QQ
    have hsure:Sure QQ:=by
     rw [<- hQQ]
     intro c a a' w1 hd h
     simp +zetaDelta only [tailK,Exit.then,Exit.inBlock,bodyPost] at h ⊢
     simpa [hd] using h
    refine tqh hsure hS 0 ?_
    apply Exists.intro
    apply And.intro
    ·rintro w' ⟨k1,k2,k3,k4⟩
     have cc0:=k1.cell 0
     have cc1:=k2.cell 0
     have cc2:=k3.cell 0
     have cc3:=k4.cell 3
     simp only [List.getElem?_toArray,List.getElem?_cons_zero,List.getElem?_cons_succ] at cc0 cc1 cc2 cc3
     apply VR.mk
     go_simp
     with_reducible rfl
    simp only [sA,sB,sC]
    refine tqh hsure hS 1 ?_
    apply Exists.intro
    apply And.intro
    ·rintro w' ⟨k1,k2,k3,k4⟩
     have cc0:=k1.cell 0
     have cc1:=k2.cell 0
     have cc2:=k3.cell 0
     have cc3:=k4.cell 3
     simp only [List.getElem?_toArray,List.getElem?_cons_zero,List.getElem?_cons_succ] at cc0 cc1 cc2 cc3
     apply VR.mk
     go_simp
     with_reducible rfl
    simp only [sA,sB,sC]
    refine tqh hsure hS 2 ?_
    apply Exists.intro
    apply And.intro
    ·rintro w' ⟨k1,k2,k3,k4⟩
     have cc0:=k1.cell 0
     have cc1:=k2.cell 0
     have cc2:=k3.cell 0
     have cc3:=k4.cell 3
     simp only [List.getElem?_toArray,List.getElem?_cons_zero,List.getElem?_cons_succ] at cc0 cc1 cc2 cc3
     apply VR.mk
     go_simp
     with_reducible rfl
    simp only [sA,sB,sC]
    refine tqh hsure hS 3 ?_
    apply Exists.intro
    apply And.intro
    ·rintro w' ⟨k1,k2,k3,k4⟩
     have cc0:=k1.cell 0
     have cc1:=k2.cell 0
     have cc2:=k3.cell 0
     have cc3:=k4.cell 3
     simp only [List.getElem?_toArray,List.getElem?_cons_zero,List.getElem?_cons_succ] at cc0 cc1 cc2 cc3
     apply VR.mk
     go_simp
     with_reducible rfl
    simp only [sA,sB,sC]
    refine tqh hsure hS 4 ?_
    apply Exists.intro
    apply And.intro
    ·rintro w' ⟨k1,k2,k3,k4⟩
     have cc0:=k1.cell 0
     have cc1:=k2.cell 0
     have cc2:=k3.cell 0
     have cc3:=k4.cell 3
     simp only [List.getElem?_toArray,List.getElem?_cons_zero,List.getElem?_cons_succ] at cc0 cc1 cc2 cc3
     apply VR.mk
     go_simp
     with_reducible rfl
    simp only [sA,sB,sC]
    refine tree_1Q (i:=5) (by kernel_rfl) ?_
    refine step_callQ (by rfl) (by rfl) (by rfl) (ER.go (by go_simp;with_reducible exact ⟨rfl,rfl⟩)) ?_
    refine (name_said g l1.tail e W4 HP.out).mono ?_
    intro en w9 hq
    rcases hq.ways with ⟨v,s2,l2,hr,rfl,hk,rfl,hp⟩ | ⟨b,er,hr,rfl,hk⟩
    ·rw [hr] at HEQ
     simp only [PR.andThen] at HEQ
     have hsz : ¬ s.size + s2.size >= 4611686018427387904:=fun h=>HNE.out (HEQ.out.trans (if_pos h))
     replace HEQ:=am (HEQ.out.trans (if_neg hsz))
     replace HK:=am (Kept.then_ HK.out (Kept.mono hk fun kk h=>.inl h))
     replace HX:=am (Kept.has hk HX.out (by omega))
     replace HB0:=am (Kept.has hk HB0.out (by omega))
     replace HB1:=am (Kept.has hk HB1.out (by omega))
     replace HB2:=am (Kept.has hk HB2.out (by omega))
     replace HP:=am hp
     have hs9:=Kept.size hk
     try simp at hs9
     refine .inl ⟨.string s2,rfl,⟨HB0.out,HB1.out,HB2.out,HX.out⟩, ?_⟩
     simp only [sA,sB,sC]
     clear hr hk
     refine tqh hsure ⟨HB0.out,HB1.out,HB2.out,HX.out⟩ 6 ?_
     apply Exists.intro
     apply And.intro
     ·rintro w' ⟨k1,k2,k3,k4⟩
      apply VR.mk
      go_simp
      rw [if_neg (by first | omega | (simp;omega))]
     simp only [sA,sB,sC]
     refine tqh hsure ⟨HB0.out,HB1.out,HB2.out,HX.out⟩ 7 ?_
     apply Exists.intro
     apply And.intro
     ·rintro w' ⟨k1,k2,k3,k4⟩
      apply VR.mk
      go_simp
      rw [if_neg (by first | omega | (simp;omega))]
     simp only [sA,sB,sC]
     rw [<- hQQ]
     refine tree_doneR (by kernel_rfl) ?_
     refine restQ_tree (fun _=>True) ?_
     clear hsure hS hQQ
     refine tqh (by intro c a a' w1 hd h;simp +zetaDelta only [Exit.then,Exit.inBlock,bodyPost] at h ⊢; simpa [hd] using h) trivial 8 ?_
     apply Exists.intro
     apply And.intro
     ·rintro w' -
      apply VR.mk
      go_simp
      with_reducible rfl
     simp only [sA,sB,sC]
     refine tqh (by intro c a a' w1 hd h;simp +zetaDelta only [Exit.then,Exit.inBlock,bodyPost] at h ⊢; simpa [hd] using h) trivial 9 ?_
     apply Exists.intro
     apply And.intro
     ·rintro w' -
      apply VR.mk
      go_simp
      with_reducible rfl
     simp only [sA,sB,sC]
     have c10:=hci HX.out 3 rfl
     have f10:=Has.frozen HX.out 3
     refine tree_1Q (i:=10) (by kernel_rfl) ?_
     refine step_list (by rfl) ?_
     go_wp2
     refine ⟨trivial,tree_endQ (by kernel_rfl) ?_⟩
     clear c10 f10
     replace HK:=am (Kept.setCellX HK.out (a:=⟨r,3,none⟩) (.inl (.inr rfl)) (.string (s ++ (sColons ++ s2))))
     replace HP:=am (PS.setT HP.out HX.out (by decide) (by decide) 3 (.string (s ++ (sColons ++ s2))))
     replace HB0:=am (Has.other HB0.out (a:=⟨r,3,none⟩) (by show w.heap.size ≠ r;omega) (.string (s ++ (sColons ++ s2))))
     replace HB1:=am (Has.other HB1.out (a:=⟨r,3,none⟩) (by show w.heap.size + 1 ≠ r;omega) (.string (s ++ (sColons ++ s2))))
     replace HB2:=am (Has.other HB2.out (a:=⟨r,3,none⟩) (by show w.heap.size + 2 ≠ r;omega) (.string (s ++ (sColons ++ s2))))
     replace HX:Aside0 (Has (w9.setCell ⟨r,3,none⟩ (.string (s ++ (sColons ++ s2)))) (r) #[.int .i64 16,.int .i64 a0,.int .i64 0,.string (s ++ (sColons ++ s2)),.slice none 0 0,.slice none 0 0,.int .i64 0,.string ⟨#[]⟩,.int .i64 0,.slice none 0 0] 27):=⟨by have h:=Has.set_ HX.out 3 (.string (s ++ (sColons ++ s2)));exact h⟩
     cases hk:isP sLpar l2 with
     | true =>
      replace HEQ:=am (HEQ.out.trans (if_pos hk))
      have HKK:=am hk
      clear hk
      have c11:=hci HB0.out 0 rfl
      have f11:=Has.frozen HB0.out 0
      go_wp2_with ((
            go_at_call 41
            (with_reducible refine Calls.mono (take_yes sLpar HP.out HKK.out) ?_)
            rintro en w12 ⟨he12,hk12,hp12⟩
            clear c11 f11
            subst he12
            replace HK:=am (Kept.then_ HK.out (Kept.mono hk12 fun kk h=>.inl h))
            replace HX:=am (Kept.has hk12 HX.out (by omega))
            replace HB0:=am (Kept.has hk12 HB0.out (by omega))
            replace HB1:=am (Kept.has hk12 HB1.out (by omega))
            replace HB2:=am (Kept.has hk12 HB2.out (by omega))
            replace HP:=am hp12
            have hs12:=Kept.size hk12
            try simp at hs12))
      have hD:=below_drew (Below.refl (w12).heap.size (w12))
      replace HK:=am (Kept.below HK.out hD)
      replace HP:=am (HP.out.below hD)
      replace HX:=am (HX.out.belowS hD)
      replace HB0:=am (HB0.out.belowS hD)
      replace HB1:=am (HB1.out.belowS hD)
      replace HB2:=am (HB2.out.belowS hD)
      clear hD
      obtain ⟨W5,hW1⟩:∃ W,(w12).drew = W:=⟨_,rfl⟩
      rw [hW1] at HK HP HX HB0 HB1 HB2
      have hzW5:=HB2.out.lt
      refine region_treeR 4 (by kernel_rfl) (by kernel_rfl) (fun w' => Has w' w.heap.size #[.pointer (some ⟨g,0,none⟩)] 52 /\ Has w' (w.heap.size + 1) #[.pointer (some ⟨r,0,none⟩)] 115 /\ Has w' (w.heap.size + 2) #[.int .i64 d] 3) (hW1 ▸ ⟨HB0.out,HB1.out,HB2.out⟩) fun hS => ?_
      rw [hW1] at hS ⊢
      clear hW1
      simp only [List.take_succ_cons,List.take_zero]
      generalize hQQ:tailK _ _ = QQ
      have hsure:Sure QQ:=by
       rw [<- hQQ]
       intro c a a' w1 hd h
       simp +zetaDelta only [tailK,Exit.then,Exit.inBlock,bodyPost] at h ⊢
       simpa [hd] using h
      refine tqh hsure hS 0 ?_
      apply Exists.intro
      apply And.intro
      ·rintro w' ⟨k1,k2,k3⟩
       have cc0:=k1.cell 0
       have cc1:=k2.cell 0
       have cc2:=k3.cell 0
       simp only [List.getElem?_toArray,List.getElem?_cons_zero,List.getElem?_cons_succ] at cc0 cc1 cc2
       apply VR.mk
       go_simp
       with_reducible rfl
      simp only [sA,sB,sC]
      refine tqh hsure hS 1 ?_
      apply Exists.intro
      apply And.intro
      ·rintro w' ⟨k1,k2,k3⟩
       have cc0:=k1.cell 0
       have cc1:=k2.cell 0
       have cc2:=k3.cell 0
       simp only [List.getElem?_toArray,List.getElem?_cons_zero,List.getElem?_cons_succ] at cc0 cc1 cc2
       apply VR.mk
       go_simp
       with_reducible rfl
      simp only [sA,sB,sC]
      refine tqh hsure hS 2 ?_
      apply Exists.intro
      apply And.intro
      ·rintro w' ⟨k1,k2,k3⟩
       have cc0:=k1.cell 0
       have cc1:=k2.cell 0
       have cc2:=k3.cell 0
       simp only [List.getElem?_toArray,List.getElem?_cons_zero,List.getElem?_cons_succ] at cc0 cc1 cc2
       apply VR.mk
       go_simp
       with_reducible rfl
      simp only [sA,sB,sC]
      refine tree_1Q (i:=3) (by kernel_rfl) ?_
      refine step_callQ (by rfl) (by rfl) (by rfl) (ER.go (by go_simp;with_reducible exact ⟨rfl,rfl⟩)) ?_
      have hne2:treesP e n d sRpar l2.tail ≠ .out:=fun h=>HNE.out (by rw [HEQ.out,h] <;> rfl)
      refine (HTTS.out g e d sRpar l2.tail W5 h0 (by omega) HP.out hne2).mono ?_
      intro en w13 hq
      rcases hq.ways with ⟨v,ks,l3,hr,rfl,hk,hv,hp⟩ | ⟨b,er,hr,rfl,hk⟩
      ·rw [hr] at HEQ
       simp only [PR.andThen] at HEQ
       replace HK:=am (Kept.then_ HK.out (Kept.mono hk fun kk h=>.inl h))
       replace HX:=am (Kept.has hk HX.out (by omega))
       replace HB0:=am (Kept.has hk HB0.out (by omega))
       replace HB1:=am (Kept.has hk HB1.out (by omega))
       replace HB2:=am (Kept.has hk HB2.out (by omega))
       replace HP:=am hp
       have hs13:=Kept.size hk
       try simp at hs13
       have HKS:=am hv
       clear hv hr hk
       obtain ⟨A2,c2,rfl⟩:=Kd.R_slice HKS.out
       refine .inl ⟨.slice A2 ks.length c2,rfl,⟨HB0.out,HB1.out,HB2.out⟩, ?_⟩
       simp only [sA,sB,sC]
       rw [<- hQQ]
       refine tree_doneR (by kernel_rfl) ?_
       refine restQ_tree (fun _=>True) ?_
       clear hsure hS hQQ
       refine tqh (by intro c a a' w1 hd h;simp +zetaDelta only [Exit.then,Exit.inBlock,bodyPost] at h ⊢; simpa [hd] using h) trivial 4 ?_
       apply Exists.intro
       apply And.intro
       ·rintro w' -
        apply VR.mk
        go_simp
        with_reducible rfl
       simp only [sA,sB,sC]
       refine tqh (by intro c a a' w1 hd h;simp +zetaDelta only [Exit.then,Exit.inBlock,bodyPost] at h ⊢; simpa [hd] using h) trivial 5 ?_
       apply Exists.intro
       apply And.intro
       ·rintro w' -
        apply VR.mk
        go_simp
        with_reducible rfl
       simp only [sA,sB,sC]
       have c14:=hci HX.out 4 rfl
       have f14:=Has.frozen HX.out 4
       refine tree_1Q (i:=6) (by kernel_rfl) ?_
       refine step_list (by rfl) ?_
       go_wp2
       refine ⟨trivial,tree_endQ (by kernel_rfl) ?_⟩
       clear c14 f14
       replace HK:=am (Kept.setCellX HK.out (a:=⟨r,4,none⟩) (.inl (.inr rfl)) (.slice A2 ks.length c2))
       replace HP:=am (PS.setT HP.out HX.out (by decide) (by decide) 4 (.slice A2 ks.length c2))
       replace HB0:=am (Has.other HB0.out (a:=⟨r,4,none⟩) (by show w.heap.size ≠ r;omega) (.slice A2 ks.length c2))
       replace HB1:=am (Has.other HB1.out (a:=⟨r,4,none⟩) (by show w.heap.size + 1 ≠ r;omega) (.slice A2 ks.length c2))
       replace HB2:=am (Has.other HB2.out (a:=⟨r,4,none⟩) (by show w.heap.size + 2 ≠ r;omega) (.slice A2 ks.length c2))
       replace HKS:=am (R_far HKS.out (fun kk h1 _=>Below.heap_setCell _ ⟨r,4,none⟩ (.slice A2 ks.length c2) kk (by show kk ≠ r;omega)))
       replace HX:Aside0 (Has (w13.setCell ⟨r,4,none⟩ (.slice A2 ks.length c2)) (r) #[.int .i64 16,.int .i64 a0,.int .i64 0,.string (s ++ (sColons ++ s2)),.slice A2 ks.length c2,.slice none 0 0,.int .i64 0,.string ⟨#[]⟩,.int .i64 0,.slice none 0 0] 27):=⟨by have h:=Has.set_ HX.out 4 (.slice A2 ks.length c2);exact h⟩
       refine bodyPost_end (results_none rfl _ _ _) rfl ?_
       rw [HEQ.out]
       exact ⟨HK.out,rfl,⟨_,HX.out,VO.node 16 a0 0 (s ++ (sColons ++ s2)) (Kd.R_lower HKS.out (by omega))⟩,HP.out⟩
      ·refine .inr ⟨_,rfl, ?_⟩
       replace HEQ:Aside0 (R = .bad b er):=⟨by rw [HEQ.out,hr] <;> rfl⟩
       rw [<- hQQ,HEQ.out]
       exact ⟨rfl,Kept.then_ HK.out (Kept.mono hk fun kk h=>.inl h),rfl⟩
     | false =>
      replace HEQ:=am (HEQ.out.trans (if_neg (by rw [hk];decide)))
      have HKK:=am hk
      clear hk
      have c11:=hci HB0.out 0 rfl
      have f11:=Has.frozen HB0.out 0
      go_wp2_with ((
            go_at_call 41
            (with_reducible refine Calls.mono (take_no sLpar HP.out HKK.out) ?_)
            rintro en w12 ⟨he12,hk12,hp12⟩
            clear c11 f11
            subst he12
            replace HK:=am (Kept.then_ HK.out (Kept.mono hk12 fun kk h=>.inl h))
            replace HX:=am (Kept.has hk12 HX.out (by omega))
            replace HB0:=am (Kept.has hk12 HB0.out (by omega))
            replace HB1:=am (Kept.has hk12 HB1.out (by omega))
            replace HB2:=am (Kept.has hk12 HB2.out (by omega))
            replace HP:=am hp12
            have hs12:=Kept.size hk12
            try simp at hs12))
      refine bodyPost_end (results_none rfl _ _ _) rfl ?_
      rw [HEQ.out]
      exact ⟨HK.out,rfl,⟨_,HX.out,VO.leaf _ _ _ 16 a0 0 (s ++ (sColons ++ s2))⟩,HP.out⟩
    ·refine .inr ⟨_,rfl, ?_⟩
     replace HEQ:Aside0 (R = .bad b er):=⟨by rw [HEQ.out,hr] <;> rfl⟩
     rw [<- hQQ,HEQ.out]
     exact ⟨rfl,Kept.then_ HK.out (Kept.mono hk fun kk h=>.inl h),rfl⟩
   | false =>
    replace HEQ:=am (HEQ.out.trans (if_neg (by rw [hj];decide)))
    have HJ:=am hj
    clear hj
    by_cases ho:op = true /\ isP sLbrace l1 = true
    ·obtain ⟨rfl,hb⟩:=ho
     replace HEQ:=am (HEQ.out.trans (if_pos ⟨rfl,hb⟩))
     have HBR:=am hb
     clear hb
     have c3:=hci HB0.out 0 rfl
     have f3:=Has.frozen HB0.out 0
     go_wp2_with (first
       | (
        go_at_call 41
        (with_reducible refine Calls.mono (take_no sLpar HP.out HI.out) ?_)
        rintro en w4 ⟨he4,hk4,hp4⟩
        clear c3 f3
        subst he4
        replace HK:=am (Kept.then_ HK.out (Kept.mono hk4 fun kk h=>.inl h))
        replace HX:=am (Kept.has hk4 HX.out (by omega))
        replace HB0:=am (Kept.has hk4 HB0.out (by omega))
        replace HB1:=am (Kept.has hk4 HB1.out (by omega))
        replace HB2:=am (Kept.has hk4 HB2.out (by omega))
        replace HP:=am hp4
        have hs4:=Kept.size hk4
        try simp at hs4
        have c5:=hci HB0.out 0 rfl
        have f5:=Has.frozen HB0.out 0)
       | (
        go_at_call 41
        (with_reducible refine Calls.mono (take_no sColons HP.out HJ.out) ?_)
        rintro en w6 ⟨he6,hk6,hp6⟩
        clear c5 f5
        subst he6
        replace HK:=am (Kept.then_ HK.out (Kept.mono hk6 fun kk h=>.inl h))
        replace HX:=am (Kept.has hk6 HX.out (by omega))
        replace HB0:=am (Kept.has hk6 HB0.out (by omega))
        replace HB1:=am (Kept.has hk6 HB1.out (by omega))
        replace HB2:=am (Kept.has hk6 HB2.out (by omega))
        replace HP:=am hp6
        have hs6:=Kept.size hk6
        try simp at hs6
        have c7:=hci HB0.out 0 rfl
        have f7:=Has.frozen HB0.out 0)
       | (
        go_at_call 41
        (with_reducible refine Calls.mono (take_yes sLbrace HP.out HBR.out) ?_)
        rintro en w8 ⟨he8,hk8,hp8⟩
        clear c7 f7
        subst he8
        replace HK:=am (Kept.then_ HK.out (Kept.mono hk8 fun kk h=>.inl h))
        replace HX:=am (Kept.has hk8 HX.out (by omega))
        replace HB0:=am (Kept.has hk8 HB0.out (by omega))
        replace HB1:=am (Kept.has hk8 HB1.out (by omega))
        replace HB2:=am (Kept.has hk8 HB2.out (by omega))
        replace HP:=am hp8
        have hs8:=Kept.size hk8
        try simp at hs8
        have c9:=hci HB1.out 0 rfl
        have f9:=Has.frozen HB1.out 0
        have c10:=hci HX.out 0 rfl
        have f10:=Has.frozen HX.out 0
        have cq:=hci (Has.other HB0.out (a:=⟨r,0,none⟩) (by show w.heap.size ≠ r;omega) (.int .i64 14)) 0 rfl))
     clear c9 f9 c10 f10
     clear cq
     replace HK:=am (Kept.setCellX HK.out (a:=⟨r,0,none⟩) (.inl (.inr rfl)) (.int .i64 14))
     replace HP:=am (PS.setT HP.out HX.out (by decide) (by decide) 0 (.int .i64 14))
     replace HB0:=am (Has.other HB0.out (a:=⟨r,0,none⟩) (by show w.heap.size ≠ r;omega) (.int .i64 14))
     replace HB1:=am (Has.other HB1.out (a:=⟨r,0,none⟩) (by show w.heap.size + 1 ≠ r;omega) (.int .i64 14))
     replace HB2:=am (Has.other HB2.out (a:=⟨r,0,none⟩) (by show w.heap.size + 2 ≠ r;omega) (.int .i64 14))
     replace HX:Aside0 (Has (w8.setCell ⟨r,0,none⟩ (.int .i64 14)) (r) #[.int .i64 14,.int .i64 a0,.int .i64 0,.string s,.slice none 0 0,.slice none 0 0,.int .i64 0,.string ⟨#[]⟩,.int .i64 0,.slice none 0 0] 27):=⟨by have h:=Has.set_ HX.out 0 (.int .i64 14);exact h⟩
     have c11:=hci HB0.out 0 rfl
     have f11:=Has.frozen HB0.out 0
     cases n with
     | zero=>exact absurd HEQ.out HNE.out
     | succ m =>
      have HTM:=HTA.out m (by omega)
      have hja:initsP e (m + 1) d l1.tail = listP e sRbrace (rdInits e d m) m [] l1.tail:=rfl
      rw [hja] at HEQ
      cases hr:listP e sRbrace (rdInits e d m) m [] l1.tail with
      | out=>exact absurd (by rw [HEQ.out,hr] <;> rfl) HNE.out
      | bad bb er =>
       have HRR:=am hr
       rw [hr] at HEQ
       simp only [PR.andThen] at HEQ
       clear hr
       go_wp2_with (go_at_call 43;go_must (refine Calls.mono (list_said g e sRbrace 89 #[.pointer (some ⟨w.heap.size,0,none⟩),.pointer (some ⟨w.heap.size + 2,0,none⟩),.pointer (some ⟨w.heap.size + 1,0,none⟩)] (by intro w;kernel_rfl) (SI g r w.heap.size) (.inl rfl) (II g d w.heap.size r a0 s) (fun w1 w2 xs h hk=>h.kept hgw hrg hk) (rdInits e d m) (fun xs l wq h1 h2 h3=>inits_rd HTM g e d h0 (by omega) w.heap.size r hgw hrw hrg a0 s xs l wq h1 h2 h3) m [] l1.tail _ HP.out (II.of HB0.out HB1.out HB2.out HX.out (Kd.R_nil _ _ _ _ _)) (by rw [HRR.out];exact PR.bad_ne _ _)) ?_;rintro en w91 ⟨hk,hq⟩;rw [HRR.out] at hq;subst hq))
       rw [HEQ.out]
       exact ⟨rfl,HK.out.wide2 (by omega) hk,rfl⟩
      | ok ks l2 =>
       have HRR:=am hr
       rw [hr] at HEQ
       simp only [PR.andThen] at HEQ
       clear hr
       go_wp2_with (go_at_call 43;go_must (refine Calls.mono (list_said g e sRbrace 89 #[.pointer (some ⟨w.heap.size,0,none⟩),.pointer (some ⟨w.heap.size + 2,0,none⟩),.pointer (some ⟨w.heap.size + 1,0,none⟩)] (by intro w;kernel_rfl) (SI g r w.heap.size) (.inl rfl) (II g d w.heap.size r a0 s) (fun w1 w2 xs h hk=>h.kept hgw hrg hk) (rdInits e d m) (fun xs l wq h1 h2 h3=>inits_rd HTM g e d h0 (by omega) w.heap.size r hgw hrw hrg a0 s xs l wq h1 h2 h3) m [] l1.tail _ HP.out (II.of HB0.out HB1.out HB2.out HX.out (Kd.R_nil _ _ _ _ _)) (by rw [HRR.out];exact PR.ok_ne _ _)) ?_;rintro en w91 ⟨hk,hq⟩;rw [HRR.out] at hq;obtain ⟨rfl,⟨vk,hB0,hB1,hB2,hX0,hR0⟩,hp0⟩:=hq))
       refine bodyPost_end (results_none rfl _ _ _) rfl ?_
       rw [HEQ.out]
       exact ⟨HK.out.wide2 (by omega) hk,rfl,⟨_,hX0,VO.node 14 a0 0 s (Kd.R_lower hR0 (by omega))⟩,hp0⟩
    replace HEQ:=am (HEQ.out.trans (if_neg ho))
    cases op with
    | false =>
     have c3:=hci HB0.out 0 rfl
     have f3:=Has.frozen HB0.out 0
     clear ho
     go_wp2_with (first
       | (
        go_at_call 41
        (with_reducible refine Calls.mono (take_no sLpar HP.out HI.out) ?_)
        rintro en w4 ⟨he4,hk4,hp4⟩
        clear c3 f3
        subst he4
        replace HK:=am (Kept.then_ HK.out (Kept.mono hk4 fun kk h=>.inl h))
        replace HX:=am (Kept.has hk4 HX.out (by omega))
        replace HB0:=am (Kept.has hk4 HB0.out (by omega))
        replace HB1:=am (Kept.has hk4 HB1.out (by omega))
        replace HB2:=am (Kept.has hk4 HB2.out (by omega))
        replace HP:=am hp4
        have hs4:=Kept.size hk4
        try simp at hs4
        have c5:=hci HB0.out 0 rfl
        have f5:=Has.frozen HB0.out 0)
       | (
        go_at_call 41
        (with_reducible refine Calls.mono (take_no sColons HP.out HJ.out) ?_)
        rintro en w6 ⟨he6,hk6,hp6⟩
        clear c5 f5
        subst he6
        replace HK:=am (Kept.then_ HK.out (Kept.mono hk6 fun kk h=>.inl h))
        replace HX:=am (Kept.has hk6 HX.out (by omega))
        replace HB0:=am (Kept.has hk6 HB0.out (by omega))
        replace HB1:=am (Kept.has hk6 HB1.out (by omega))
        replace HB2:=am (Kept.has hk6 HB2.out (by omega))
        replace HP:=am hp6
        have hs6:=Kept.size hk6
        try simp at hs6))
     refine bodyPost_end (results_none rfl _ _ _) rfl ?_
     rw [HEQ.out]
     exact ⟨HK.out,rfl,⟨_,HX.out,VO.leaf _ _ _ 4 a0 0 s⟩,HP.out⟩
    | true =>
     have hb:isP sLbrace l1 = false:=by simpa using ho
     have HBR:=am hb
     clear ho hb
     have c3:=hci HB0.out 0 rfl
     have f3:=Has.frozen HB0.out 0
     go_wp2_with (first
       | (
        go_at_call 41
        (with_reducible refine Calls.mono (take_no sLpar HP.out HI.out) ?_)
        rintro en w4 ⟨he4,hk4,hp4⟩
        clear c3 f3
        subst he4
        replace HK:=am (Kept.then_ HK.out (Kept.mono hk4 fun kk h=>.inl h))
        replace HX:=am (Kept.has hk4 HX.out (by omega))
        replace HB0:=am (Kept.has hk4 HB0.out (by omega))
        replace HB1:=am (Kept.has hk4 HB1.out (by omega))
        replace HB2:=am (Kept.has hk4 HB2.out (by omega))
        replace HP:=am hp4
        have hs4:=Kept.size hk4
        try simp at hs4
        have c5:=hci HB0.out 0 rfl
        have f5:=Has.frozen HB0.out 0)
       | (
        go_at_call 41
        (with_reducible refine Calls.mono (take_no sColons HP.out HJ.out) ?_)
        rintro en w6 ⟨he6,hk6,hp6⟩
        clear c5 f5
        subst he6
        replace HK:=am (Kept.then_ HK.out (Kept.mono hk6 fun kk h=>.inl h))
        replace HX:=am (Kept.has hk6 HX.out (by omega))
        replace HB0:=am (Kept.has hk6 HB0.out (by omega))
        replace HB1:=am (Kept.has hk6 HB1.out (by omega))
        replace HB2:=am (Kept.has hk6 HB2.out (by omega))
        replace HP:=am hp6
        have hs6:=Kept.size hk6
        try simp at hs6
        have c7:=hci HB0.out 0 rfl
        have f7:=Has.frozen HB0.out 0)
       | (
        go_at_call 41
        (with_reducible refine Calls.mono (take_no sLbrace HP.out HBR.out) ?_)
        rintro en w8 ⟨he8,hk8,hp8⟩
        clear c7 f7
        subst he8
        replace HK:=am (Kept.then_ HK.out (Kept.mono hk8 fun kk h=>.inl h))
        replace HX:=am (Kept.has hk8 HX.out (by omega))
        replace HB0:=am (Kept.has hk8 HB0.out (by omega))
        replace HB1:=am (Kept.has hk8 HB1.out (by omega))
        replace HB2:=am (Kept.has hk8 HB2.out (by omega))
        replace HP:=am hp8
        have hs8:=Kept.size hk8
        try simp at hs8))
     refine bodyPost_end (results_none rfl _ _ _) rfl ?_
     rw [HEQ.out]
     exact ⟨HK.out,rfl,⟨_,HX.out,VO.leaf _ _ _ 4 a0 0 s⟩,HP.out⟩
 ·refine .inr ⟨_,rfl, ?_⟩
  replace HEQ:Aside0 (R = .bad b er):=⟨by rw [HEQ.out,hr] <;> rfl⟩
  rw [<- hQQ,HEQ.out]
  exact ⟨rfl,Kept.then_ HK.out (Kept.mono hk fun kk h=>.inl h),rfl⟩
end Go.Proofs.YtngpgdmafmkddaaDoor.Par
end
section
namespace Go.Proofs.YtngpgdmafmkddaaDoor.Par
open Go.RowKit Go.Proofs.YtngpgdmafmkddaaDoorW.PrintWords Go.Proofs.YtngpgdmafmkddaaDoorW.PrintLast Go.Proofs.YtngpgdmafmkddaaDoorW.PrintMore
open Go.Proofs.YtngpgdmafmkddaaDoor.PParseBlanks (S35 S25 S27 k35 k25 k27 rd_T35 rd_T25 rd_T27 at_T35 at_T25 at_T27)
set_option linter.unusedVariables false
set_option linter.unusedSimpArgs false
set_option maxRecDepth 100000 in
set_option maxHeartbeats 4000000 in
theorem primary_ok {n:Nat} (HT:TreeOK n) (HA:ArrayOK n) (HC:ClosedOK n) (HN:NamedOK n):PrimaryOK (n + 1):=by
 intro g e d op l w h0 h1 HP hne
 unfold TreeOK at HT
 unfold ArrayOK at HA
 unfold ClosedOK at HC
 unfold NamedOK at HN
 have hu27:=Tryd.underlying27
 have HE:primaryP e (n + 1) d op l = if kindP l = 2 then (numberP e l).andThen fun v l1=>.ok (mkE 1 (atP e l) v.1 v.2 [] []) l1
  else if isP sTrue l = true then .ok (mkE 2 (atP e l) 1 ⟨#[]⟩ [] []) l.tail
  else if isP sFalse l = true then .ok (mkE 2 (atP e l) 0 ⟨#[]⟩ [] []) l.tail
  else if isP sLpar l = true then
   (if isP sRpar l.tail = true then .ok (mkE 3 (atP e l) 0 ⟨#[]⟩ [] []) l.tail.tail
    else (climbP e n (d + 1) true 1 l.tail).andThen fun x l' => if isP sRpar l' = true then .ok x l'.tail else .bad (atP e l') 30)
  else if isP sLbra l = true then arrayP e n d (atP e l) l.tail
  else if oneP [sIf,sMatch,sLbrace] l = true then closedP e n (d + 1) l
  else namedP e n d op l:=by simp only [primaryP]
 obtain ⟨R,hR⟩:∃ R,primaryP e (n + 1) d op l = R:=⟨_,rfl⟩
 rw [hR] at HE hne ⊢
 clear hR
 have hgw:=HP.glt
 obtain ⟨a0,ha0⟩:∃ a,atP e l = a:=⟨_,rfl⟩
 have HAT:=am ha0
 rw [ha0] at HE
 clear ha0
 have HEQ:=am HE
 have HNE:=am hne
 have HTT:=am HT
 have HAA:=am HA
 have HCC:=am HC
 have HNN:=am HN
 have HK:Aside0 (KeptG g w w):=⟨Kept.refl _ w⟩
 have HP:=am HP
 clear HE hne HT HA HC HN
 have ba1:=below_alloc (Below.refl (w).heap.size (w)) (Obj.cells #[.int .i64 0,.int .i64 0,.int .i64 0,.string ⟨#[]⟩,.slice none 0 0,.slice none 0 0,.int .i64 0,.string ⟨#[]⟩,.int .i64 0,.slice none 0 0] 27)
 replace HK:=am (Kept.below HK.out ba1)
 replace HP:=am (HP.out.below ba1)
 clear ba1
 have HR:=am (Has.new (w) #[.int .i64 0,.int .i64 0,.int .i64 0,.string ⟨#[]⟩,.slice none 0 0,.slice none 0 0,.int .i64 0,.string ⟨#[]⟩,.int .i64 0,.slice none 0 0] 27)
 go_enter Tryd.func79,Tryd.ntmps79
 go_upto_block 0 with ((
       go_at_call 29
       (with_reducible refine Calls.mono (at_ps HP.out) ?_)
       rintro en w1 ⟨he1,hb1⟩
       rw [HAT.out] at he1
       subst he1
       replace HK:=am (Kept.below HK.out hb1)
       replace HP:=am (HP.out.below hb1)
       replace HR:=am (HR.out.belowS hb1)
       have hs1:=Below.size hb1
       try simp at hs1
       have ba2:=below_alloc (Below.refl (w1).heap.size (w1)) (Obj.cells #[.int .i64 0,.int .i64 a0,.int .i64 0,.string ⟨#[]⟩,.slice none 0 0,.slice none 0 0,.int .i64 0,.string ⟨#[]⟩,.int .i64 0,.slice none 0 0] 27)
       replace HK:=am (Kept.below HK.out ba2)
       replace HP:=am (HP.out.below ba2)
       replace HR:=am (HR.out.belowS ba2)
       clear ba2
       have HX:=am (Has.new (w1) #[.int .i64 0,.int .i64 a0,.int .i64 0,.string ⟨#[]⟩,.slice none 0 0,.slice none 0 0,.int .i64 0,.string ⟨#[]⟩,.int .i64 0,.slice none 0 0] 27)))
 have hbx:w.heap.size < w1.heap.size:=by omega
 have hbg:w1.heap.size ≠ g:=by omega
 have hsx:=HX.out.lt
 obtain ⟨q,hq⟩:∃ q,kindP l = q:=⟨_,rfl⟩
 go_cut [] (fun wc => ∃ (cs:Array Value) (x:S27) (l' : List S35),Aside0 (R = .ok x l') /\ Aside0 (KeptG g w wc) /\ Aside0 (PS wc g l' e) /\ Aside0 (Has wc w.heap.size #[.int .i64 0,.int .i64 0,.int .i64 0,.string ⟨#[]⟩,.slice none 0 0,.slice none 0 0,.int .i64 0,.string ⟨#[]⟩,.int .i64 0,.slice none 0 0] 27) /\ Aside0 (Has wc w1.heap.size cs 27) /\ Aside0 (VE (w.heap.size + 1) wc (.agg cs) x))
 case first =>
  have HKQ:=am hq
  by_cases k2:q = 2
  ·have b2:(q == 2) = true:=by simp [k2]
   replace HEQ:=am (HEQ.out.trans (if_pos (hq.trans k2)))
   clear hq k2
   cases hr:numberP e l with
   | out=>exact absurd (by rw [HEQ.out,hr] <;> rfl) HNE.out
   | bad b er =>
    have HRR:=am hr
    replace HEQ:Aside0 (R = .bad b er):=⟨by rw [HEQ.out,hr] <;> rfl⟩
    clear hr
    go_wp2_with (first
      | (
       go_at_call 19
       (with_reducible refine Calls.mono (kind_ps HP.out) ?_)
       rintro en w2 ⟨he2,hb2⟩
       rw [HKQ.out] at he2
       subst he2
       replace HK:=am (Kept.below HK.out hb2)
       replace HP:=am (HP.out.below hb2)
       replace HR:=am (HR.out.belowS hb2)
       replace HX:=am (HX.out.belowS hb2)
       have hs2:=Below.size hb2
       try simp at hs2
       have c3:=hci HX.out 0 rfl
       have f3:=Has.frozen HX.out 0)
      | (
       go_at_call 69
       clear c3 f3
       replace HK:=am (Kept.setCellX HK.out (a:=⟨w1.heap.size,0,none⟩) (.inr (by show w.heap.size <= w1.heap.size;omega)) (.int .i64 1))
       replace HP:=am (PS.setT HP.out HX.out (by decide) (by decide) 0 (.int .i64 1))
       replace HR:=am (Has.other HR.out (a:=⟨w1.heap.size,0,none⟩) (by show w.heap.size ≠ w1.heap.size;omega) (.int .i64 1))
       replace HX:Aside0 (Has (w2.setCell ⟨w1.heap.size,0,none⟩ (.int .i64 1)) (w1.heap.size) #[.int .i64 1,.int .i64 a0,.int .i64 0,.string ⟨#[]⟩,.slice none 0 0,.slice none 0 0,.int .i64 0,.string ⟨#[]⟩,.int .i64 0,.slice none 0 0] 27):=⟨by have h:=Has.set_ HX.out 0 (.int .i64 1);exact h⟩
       (with_reducible refine Calls.mono (number_said g _ e _ HP.out (by rw [HRR.out];exact PR.bad_ne _ _)) ?_)
       rintro en w4 ⟨hk4,he4⟩
       rw [HRR.out] at he4
       subst he4
       replace HK:=am (Kept.then_ HK.out hk4)
       replace HR:=am (Kept.has hk4 HR.out (by omega))
       replace HX:=am (Kept.has hk4 HX.out (by omega))
       have hs4:=Kept.size hk4
       try simp at hs4))
    rw [HEQ.out]
    exact ⟨rfl,HK.out,rfl⟩
   | ok v l1 =>
    have HRR:=am hr
    rw [hr] at HEQ
    simp only [PR.andThen] at HEQ
    clear hr
    go_wp2_with (first
      | (
       go_at_call 19
       (with_reducible refine Calls.mono (kind_ps HP.out) ?_)
       rintro en w2 ⟨he2,hb2⟩
       rw [HKQ.out] at he2
       subst he2
       replace HK:=am (Kept.below HK.out hb2)
       replace HP:=am (HP.out.below hb2)
       replace HR:=am (HR.out.belowS hb2)
       replace HX:=am (HX.out.belowS hb2)
       have hs2:=Below.size hb2
       try simp at hs2
       have c3:=hci HX.out 0 rfl
       have f3:=Has.frozen HX.out 0)
      | (
       go_at_call 69
       clear c3 f3
       replace HK:=am (Kept.setCellX HK.out (a:=⟨w1.heap.size,0,none⟩) (.inr (by show w.heap.size <= w1.heap.size;omega)) (.int .i64 1))
       replace HP:=am (PS.setT HP.out HX.out (by decide) (by decide) 0 (.int .i64 1))
       replace HR:=am (Has.other HR.out (a:=⟨w1.heap.size,0,none⟩) (by show w.heap.size ≠ w1.heap.size;omega) (.int .i64 1))
       replace HX:Aside0 (Has (w2.setCell ⟨w1.heap.size,0,none⟩ (.int .i64 1)) (w1.heap.size) #[.int .i64 1,.int .i64 a0,.int .i64 0,.string ⟨#[]⟩,.slice none 0 0,.slice none 0 0,.int .i64 0,.string ⟨#[]⟩,.int .i64 0,.slice none 0 0] 27):=⟨by have h:=Has.set_ HX.out 0 (.int .i64 1);exact h⟩
       (with_reducible refine Calls.mono (number_said g _ e _ HP.out (by rw [HRR.out];exact PR.ok_ne _ _)) ?_)
       rintro en w4 ⟨hk4,he4⟩
       rw [HRR.out] at he4
       obtain ⟨v4,rfl,hv4,hp4⟩:=he4
       obtain rfl:=hv4
       replace HK:=am (Kept.then_ HK.out hk4)
       replace HR:=am (Kept.has hk4 HR.out (by omega))
       replace HX:=am (Kept.has hk4 HX.out (by omega))
       replace HP:=am hp4
       have hs4:=Kept.size hk4
       try simp at hs4
       have c5:=hci HX.out 2 rfl
       have f5:=Has.frozen HX.out 2
       have q6:Has (World.setCell (w4) ⟨w1.heap.size,2,none⟩ (.int .i64 v.fst)) (w1.heap.size) #[.int .i64 1,.int .i64 a0,.int .i64 v.fst,.string ⟨#[]⟩,.slice none 0 0,.slice none 0 0,.int .i64 0,.string ⟨#[]⟩,.int .i64 0,.slice none 0 0] 27:=Has.set_ HX.out 2 (.int .i64 v.fst)
       have c6:=hci q6 3 rfl
       have f6:=q6.frozen 3
       clear q6))
    clear c5 f5 c6 f6
    replace HK:=am (Kept.setCellX HK.out (a:=⟨w1.heap.size,2,none⟩) (.inr (by show w.heap.size <= w1.heap.size;omega)) (.int .i64 v.fst))
    replace HP:=am (PS.setT HP.out HX.out (by decide) (by decide) 2 (.int .i64 v.fst))
    replace HR:=am (Has.other HR.out (a:=⟨w1.heap.size,2,none⟩) (by show w.heap.size ≠ w1.heap.size;omega) (.int .i64 v.fst))
    replace HX:Aside0 (Has (w4.setCell ⟨w1.heap.size,2,none⟩ (.int .i64 v.fst)) (w1.heap.size) #[.int .i64 1,.int .i64 a0,.int .i64 v.fst,.string ⟨#[]⟩,.slice none 0 0,.slice none 0 0,.int .i64 0,.string ⟨#[]⟩,.int .i64 0,.slice none 0 0] 27):=⟨by have h:=Has.set_ HX.out 2 (.int .i64 v.fst);exact h⟩
    replace HK:=am (Kept.setCellX HK.out (a:=⟨w1.heap.size,3,none⟩) (.inr (by show w.heap.size <= w1.heap.size;omega)) (.string v.snd))
    replace HP:=am (PS.setT HP.out HX.out (by decide) (by decide) 3 (.string v.snd))
    replace HR:=am (Has.other HR.out (a:=⟨w1.heap.size,3,none⟩) (by show w.heap.size ≠ w1.heap.size;omega) (.string v.snd))
    replace HX:Aside0 (Has (((w4.setCell ⟨w1.heap.size,2,none⟩ (.int .i64 v.fst))).setCell ⟨w1.heap.size,3,none⟩ (.string v.snd)) (w1.heap.size) #[.int .i64 1,.int .i64 a0,.int .i64 v.fst,.string v.snd,.slice none 0 0,.slice none 0 0,.int .i64 0,.string ⟨#[]⟩,.int .i64 0,.slice none 0 0] 27):=⟨by have h:=Has.set_ HX.out 3 (.string v.snd);exact h⟩
    go_meet
    case rel=>exact ⟨_,_,_,HEQ,HK,HP,HR,HX,⟨VO.leaf _ _ _ 1 a0 v.fst v.snd⟩⟩
  ·have b2:(q == 2) = false:=by simp [k2]
   replace HEQ:=am (HEQ.out.trans (if_neg (show ¬ kindP l = 2 from fun h=>k2 (hq.symm.trans h))))
   clear hq k2
   go_wp2_with ((
         go_at_call 19
         (with_reducible refine Calls.mono (kind_ps HP.out) ?_)
         rintro en w2 ⟨he2,hb2⟩
         rw [HKQ.out] at he2
         subst he2
         replace HK:=am (Kept.below HK.out hb2)
         replace HP:=am (HP.out.below hb2)
         replace HR:=am (HR.out.belowS hb2)
         replace HX:=am (HX.out.belowS hb2)
         have hs2:=Below.size hb2
         try simp at hs2))
   cases hi:isP sTrue l with
   | true =>
    replace HEQ:=am (HEQ.out.trans (if_pos hi))
    have HT1:=am hi
    clear hi
    go_wp2_with ((
          go_at_call 41
          (with_reducible refine Calls.mono (take_yes sTrue HP.out HT1.out) ?_)
          rintro en w3 ⟨he3,hk3,hp3⟩
          subst he3
          replace HK:=am (Kept.then_ HK.out hk3)
          replace HR:=am (Kept.has hk3 HR.out (by omega))
          replace HX:=am (Kept.has hk3 HX.out (by omega))
          replace HP:=am hp3
          have hs3:=Kept.size hk3
          try simp at hs3
          have c4:=hci HX.out 0 rfl
          have f4:=Has.frozen HX.out 0
          have q5:Has (World.setCell (w3) ⟨w1.heap.size,0,none⟩ (.int .i64 2)) (w1.heap.size) #[.int .i64 2,.int .i64 a0,.int .i64 0,.string ⟨#[]⟩,.slice none 0 0,.slice none 0 0,.int .i64 0,.string ⟨#[]⟩,.int .i64 0,.slice none 0 0] 27:=Has.set_ HX.out 0 (.int .i64 2)
          have c5:=hci q5 2 rfl
          have f5:=q5.frozen 2
          clear q5))
    clear c4 f4 c5 f5
    replace HK:=am (Kept.setCellX HK.out (a:=⟨w1.heap.size,0,none⟩) (.inr (by show w.heap.size <= w1.heap.size;omega)) (.int .i64 2))
    replace HP:=am (PS.setT HP.out HX.out (by decide) (by decide) 0 (.int .i64 2))
    replace HR:=am (Has.other HR.out (a:=⟨w1.heap.size,0,none⟩) (by show w.heap.size ≠ w1.heap.size;omega) (.int .i64 2))
    replace HX:Aside0 (Has (w3.setCell ⟨w1.heap.size,0,none⟩ (.int .i64 2)) (w1.heap.size) #[.int .i64 2,.int .i64 a0,.int .i64 0,.string ⟨#[]⟩,.slice none 0 0,.slice none 0 0,.int .i64 0,.string ⟨#[]⟩,.int .i64 0,.slice none 0 0] 27):=⟨by have h:=Has.set_ HX.out 0 (.int .i64 2);exact h⟩
    replace HK:=am (Kept.setCellX HK.out (a:=⟨w1.heap.size,2,none⟩) (.inr (by show w.heap.size <= w1.heap.size;omega)) (.int .i64 1))
    replace HP:=am (PS.setT HP.out HX.out (by decide) (by decide) 2 (.int .i64 1))
    replace HR:=am (Has.other HR.out (a:=⟨w1.heap.size,2,none⟩) (by show w.heap.size ≠ w1.heap.size;omega) (.int .i64 1))
    replace HX:Aside0 (Has (((w3.setCell ⟨w1.heap.size,0,none⟩ (.int .i64 2))).setCell ⟨w1.heap.size,2,none⟩ (.int .i64 1)) (w1.heap.size) #[.int .i64 2,.int .i64 a0,.int .i64 1,.string ⟨#[]⟩,.slice none 0 0,.slice none 0 0,.int .i64 0,.string ⟨#[]⟩,.int .i64 0,.slice none 0 0] 27):=⟨by have h:=Has.set_ HX.out 2 (.int .i64 1);exact h⟩
    go_meet
    case rel=>exact ⟨_,_,_,HEQ,HK,HP,HR,HX,⟨VO.leaf _ _ _ 2 a0 1 ⟨#[]⟩⟩⟩
   | false =>
    replace HEQ:=am (HEQ.out.trans (if_neg (by rw [hi];decide)))
    have HT1:=am hi
    clear hi
    go_wp2_with ((
          go_at_call 41
          (with_reducible refine Calls.mono (take_no sTrue HP.out HT1.out) ?_)
          rintro en w3 ⟨he3,hk3,hp3⟩
          subst he3
          replace HK:=am (Kept.then_ HK.out hk3)
          replace HR:=am (Kept.has hk3 HR.out (by omega))
          replace HX:=am (Kept.has hk3 HX.out (by omega))
          replace HP:=am hp3
          have hs3:=Kept.size hk3
          try simp at hs3))
    cases hi:isP sFalse l with
    | true =>
     replace HEQ:=am (HEQ.out.trans (if_pos hi))
     have HT2:=am hi
     clear hi
     go_wp2_with ((
           go_at_call 41
           (with_reducible refine Calls.mono (take_yes sFalse HP.out HT2.out) ?_)
           rintro en w4 ⟨he4,hk4,hp4⟩
           subst he4
           replace HK:=am (Kept.then_ HK.out hk4)
           replace HR:=am (Kept.has hk4 HR.out (by omega))
           replace HX:=am (Kept.has hk4 HX.out (by omega))
           replace HP:=am hp4
           have hs4:=Kept.size hk4
           try simp at hs4
           have c5:=hci HX.out 0 rfl
           have f5:=Has.frozen HX.out 0))
     clear c5 f5
     replace HK:=am (Kept.setCellX HK.out (a:=⟨w1.heap.size,0,none⟩) (.inr (by show w.heap.size <= w1.heap.size;omega)) (.int .i64 2))
     replace HP:=am (PS.setT HP.out HX.out (by decide) (by decide) 0 (.int .i64 2))
     replace HR:=am (Has.other HR.out (a:=⟨w1.heap.size,0,none⟩) (by show w.heap.size ≠ w1.heap.size;omega) (.int .i64 2))
     replace HX:Aside0 (Has (w4.setCell ⟨w1.heap.size,0,none⟩ (.int .i64 2)) (w1.heap.size) #[.int .i64 2,.int .i64 a0,.int .i64 0,.string ⟨#[]⟩,.slice none 0 0,.slice none 0 0,.int .i64 0,.string ⟨#[]⟩,.int .i64 0,.slice none 0 0] 27):=⟨by have h:=Has.set_ HX.out 0 (.int .i64 2);exact h⟩
     go_meet
     case rel=>exact ⟨_,_,_,HEQ,HK,HP,HR,HX,⟨VO.leaf _ _ _ 2 a0 0 ⟨#[]⟩⟩⟩
    | false =>
     replace HEQ:=am (HEQ.out.trans (if_neg (by rw [hi];decide)))
     have HT2:=am hi
     clear hi
     go_wp2_with ((
           go_at_call 41
           (with_reducible refine Calls.mono (take_no sFalse HP.out HT2.out) ?_)
           rintro en w4 ⟨he4,hk4,hp4⟩
           subst he4
           replace HK:=am (Kept.then_ HK.out hk4)
           replace HR:=am (Kept.has hk4 HR.out (by omega))
           replace HX:=am (Kept.has hk4 HX.out (by omega))
           replace HP:=am hp4
           have hs4:=Kept.size hk4
           try simp at hs4))
     cases hi:isP sLpar l with
     | true =>
      replace HEQ:=am (HEQ.out.trans (if_pos hi))
      have HT3:=am hi
      clear hi
      go_wp2_with ((
            go_at_call 41
            (with_reducible refine Calls.mono (take_yes sLpar HP.out HT3.out) ?_)
            rintro en w5 ⟨he5,hk5,hp5⟩
            subst he5
            replace HK:=am (Kept.then_ HK.out hk5)
            replace HR:=am (Kept.has hk5 HR.out (by omega))
            replace HX:=am (Kept.has hk5 HX.out (by omega))
            replace HP:=am hp5
            have hs5:=Kept.size hk5
            try simp at hs5))
      cases hj:isP sRpar l.tail with
      | true =>
       replace HEQ:=am (HEQ.out.trans (if_pos hj))
       have HT4:=am hj
       clear hj
       go_wp2_with ((
             go_at_call 41
             (with_reducible refine Calls.mono (take_yes sRpar HP.out HT4.out) ?_)
             rintro en w6 ⟨he6,hk6,hp6⟩
             subst he6
             replace HK:=am (Kept.then_ HK.out hk6)
             replace HR:=am (Kept.has hk6 HR.out (by omega))
             replace HX:=am (Kept.has hk6 HX.out (by omega))
             replace HP:=am hp6
             have hs6:=Kept.size hk6
             try simp at hs6
             have c7:=hci HX.out 0 rfl
             have f7:=Has.frozen HX.out 0))
       clear c7 f7
       replace HK:=am (Kept.setCellX HK.out (a:=⟨w1.heap.size,0,none⟩) (.inr (by show w.heap.size <= w1.heap.size;omega)) (.int .i64 3))
       replace HP:=am (PS.setT HP.out HX.out (by decide) (by decide) 0 (.int .i64 3))
       replace HR:=am (Has.other HR.out (a:=⟨w1.heap.size,0,none⟩) (by show w.heap.size ≠ w1.heap.size;omega) (.int .i64 3))
       replace HX:Aside0 (Has (w6.setCell ⟨w1.heap.size,0,none⟩ (.int .i64 3)) (w1.heap.size) #[.int .i64 3,.int .i64 a0,.int .i64 0,.string ⟨#[]⟩,.slice none 0 0,.slice none 0 0,.int .i64 0,.string ⟨#[]⟩,.int .i64 0,.slice none 0 0] 27):=⟨by have h:=Has.set_ HX.out 0 (.int .i64 3);exact h⟩
       go_meet
       case rel=>exact ⟨_,_,_,HEQ,HK,HP,HR,HX,⟨VO.leaf _ _ _ 3 a0 0 ⟨#[]⟩⟩⟩
      | false =>
       replace HEQ:=am (HEQ.out.trans (if_neg (by rw [hj];decide)))
       have HT4:=am hj
       clear hj
       go_wp2_with ((
             go_at_call 41
             (with_reducible refine Calls.mono (take_no sRpar HP.out HT4.out) ?_)
             rintro en w6 ⟨he6,hk6,hp6⟩
             subst he6
             replace HK:=am (Kept.then_ HK.out hk6)
             replace HR:=am (Kept.has hk6 HR.out (by omega))
             replace HX:=am (Kept.has hk6 HX.out (by omega))
             replace HP:=am hp6
             have hs6:=Kept.size hk6
             try simp at hs6))
       cases hr:climbP e n (d + 1) true 1 l.tail with
       | out=>exact absurd (by rw [HEQ.out,hr] <;> rfl) HNE.out
       | bad b er =>
        have HRR:=am hr
        replace HEQ:Aside0 (R = .bad b er):=⟨by rw [HEQ.out,hr] <;> rfl⟩
        clear hr
        go_wp2_with ((
              go_at_call 18
              (with_reducible refine Calls.mono (HTT.out g e (d + 1) true l.tail _ (by omega) (by omega) HP.out (by rw [HRR.out];exact PR.bad_ne _ _)) ?_)
              rintro en w7 ⟨hk7,he7⟩
              rw [HRR.out] at he7
              subst he7
              replace HK:=am (Kept.then_ HK.out hk7)
              replace HR:=am (Kept.has hk7 HR.out (by omega))
              replace HX:=am (Kept.has hk7 HX.out (by omega))
              have hs7:=Kept.size hk7
              try simp at hs7))
        rw [HEQ.out]
        exact ⟨rfl,HK.out,rfl⟩
       | ok x l1 =>
        have HRR:=am hr
        rw [hr] at HEQ
        simp only [PR.andThen] at HEQ
        clear hr
        cases hk:isP sRpar l1 with
        | true =>
         replace HEQ:=am (HEQ.out.trans (if_pos hk))
         have HT5:=am hk
         clear hk
         go_wp2_with (first
           | (
            go_at_call 18
            (with_reducible refine Calls.mono (HTT.out g e (d + 1) true l.tail _ (by omega) (by omega) HP.out (by rw [HRR.out];exact PR.ok_ne _ _)) ?_)
            rintro en w7 ⟨hk7,he7⟩
            rw [HRR.out] at he7
            obtain ⟨v7,rfl,hv7,hp7⟩:=he7
            obtain ⟨a4,ac4,a5,ac5,a9,ac9,rfl⟩:=VO.form hv7
            have HV:=am hv7
            replace HK:=am (Kept.then_ HK.out hk7)
            replace HR:=am (Kept.has hk7 HR.out (by omega))
            replace HX:=am (Kept.has hk7 HX.out (by omega))
            replace HP:=am hp7
            have hs7:=Kept.size hk7
            try simp at hs7)
           | (
            (with_reducible refine gate_store (t:=27) (p:=7) rfl ?_)
            go_must (refine store_event (t:=27) (p:=7) (v:=.tmp 45) (w1:=w7.setRow (w1.heap.size) #[.int .i64 x.f0,.int .i64 x.f1,.int .i64 x.f2,.string x.f3,.slice a4 x.f4.length ac4,.slice a5 x.f5.length ac5,.int .i64 x.f6.f0,.string x.f6.f1,.int .i64 x.f6.f2,.slice a9 x.f6.f3.length ac9]) ?hg ?ho ?hn ?hr ?_;(case ho=>rfl);(case hg=>rfl);(case hn=>rfl);(case hr=>exact store27 w7 _ _ _ HX.out rfl rfl (by first | kernel_rfl | (simp [Value.oneCell'])) _ _ _ _ rfl rfl rfl);intro w77 hw77;subst hw77))
           | (
            go_at_call 42
            replace HK:=am (kept_rowX HK.out (g:=w1.heap.size) (.inr (by show w.heap.size <= w1.heap.size;omega)) #[.int .i64 x.f0,.int .i64 x.f1,.int .i64 x.f2,.string x.f3,.slice a4 x.f4.length ac4,.slice a5 x.f5.length ac5,.int .i64 x.f6.f0,.string x.f6.f1,.int .i64 x.f6.f2,.slice a9 x.f6.f3.length ac9])
            replace HP:=am (PS.rowP HP.out HX.out #[.int .i64 x.f0,.int .i64 x.f1,.int .i64 x.f2,.string x.f3,.slice a4 x.f4.length ac4,.slice a5 x.f5.length ac5,.int .i64 x.f6.f0,.string x.f6.f1,.int .i64 x.f6.f2,.slice a9 x.f6.f3.length ac9])
            replace HR:=am (has_row_other HR.out (g:=w1.heap.size) (cs':=#[.int .i64 x.f0,.int .i64 x.f1,.int .i64 x.f2,.string x.f3,.slice a4 x.f4.length ac4,.slice a5 x.f5.length ac5,.int .i64 x.f6.f0,.string x.f6.f1,.int .i64 x.f6.f2,.slice a9 x.f6.f3.length ac9]) (by omega))
            replace HV:=am (VO.rowO HV.out (g:=w1.heap.size) (fun kk h1 h2=>by omega) #[.int .i64 x.f0,.int .i64 x.f1,.int .i64 x.f2,.string x.f3,.slice a4 x.f4.length ac4,.slice a5 x.f5.length ac5,.int .i64 x.f6.f0,.string x.f6.f1,.int .i64 x.f6.f2,.slice a9 x.f6.f3.length ac9])
            replace HX:=am (has_row HX.out #[.int .i64 x.f0,.int .i64 x.f1,.int .i64 x.f2,.string x.f3,.slice a4 x.f4.length ac4,.slice a5 x.f5.length ac5,.int .i64 x.f6.f0,.string x.f6.f1,.int .i64 x.f6.f2,.slice a9 x.f6.f3.length ac9])
            (with_reducible refine Calls.mono (need_yes sRpar HP.out HT5.out) ?_)
            rintro en w8 ⟨he8,hk8,hp8⟩
            subst he8
            replace HK:=am (Kept.then_ HK.out hk8)
            replace HR:=am (Kept.has hk8 HR.out (by omega))
            replace HX:=am (Kept.has hk8 HX.out (by omega))
            replace HV:=am (VO.kps HV.out HP.out hk8)
            replace HP:=am hp8
            have hs8:=Kept.size hk8
            try simp at hs8))
         go_meet
         case rel=>exact ⟨_,_,_,HEQ,HK,HP,HR,HX,⟨HV.out.lower (by omega)⟩⟩
        | false =>
         replace HEQ:=am (HEQ.out.trans (if_neg (by rw [hk];decide)))
         have HT5:=am hk
         clear hk
         go_wp2_with (first
           | (
            go_at_call 18
            (with_reducible refine Calls.mono (HTT.out g e (d + 1) true l.tail _ (by omega) (by omega) HP.out (by rw [HRR.out];exact PR.ok_ne _ _)) ?_)
            rintro en w7 ⟨hk7,he7⟩
            rw [HRR.out] at he7
            obtain ⟨v7,rfl,hv7,hp7⟩:=he7
            obtain ⟨a4,ac4,a5,ac5,a9,ac9,rfl⟩:=VO.form hv7
            have HV:=am hv7
            replace HK:=am (Kept.then_ HK.out hk7)
            replace HR:=am (Kept.has hk7 HR.out (by omega))
            replace HX:=am (Kept.has hk7 HX.out (by omega))
            replace HP:=am hp7
            have hs7:=Kept.size hk7
            try simp at hs7)
           | (
            (with_reducible refine gate_store (t:=27) (p:=7) rfl ?_)
            go_must (refine store_event (t:=27) (p:=7) (v:=.tmp 45) (w1:=w7.setRow (w1.heap.size) #[.int .i64 x.f0,.int .i64 x.f1,.int .i64 x.f2,.string x.f3,.slice a4 x.f4.length ac4,.slice a5 x.f5.length ac5,.int .i64 x.f6.f0,.string x.f6.f1,.int .i64 x.f6.f2,.slice a9 x.f6.f3.length ac9]) ?hg ?ho ?hn ?hr ?_;(case ho=>rfl);(case hg=>rfl);(case hn=>rfl);(case hr=>exact store27 w7 _ _ _ HX.out rfl rfl (by first | kernel_rfl | (simp [Value.oneCell'])) _ _ _ _ rfl rfl rfl);intro w77 hw77;subst hw77))
           | (
            go_at_call 42
            replace HK:=am (kept_rowX HK.out (g:=w1.heap.size) (.inr (by show w.heap.size <= w1.heap.size;omega)) #[.int .i64 x.f0,.int .i64 x.f1,.int .i64 x.f2,.string x.f3,.slice a4 x.f4.length ac4,.slice a5 x.f5.length ac5,.int .i64 x.f6.f0,.string x.f6.f1,.int .i64 x.f6.f2,.slice a9 x.f6.f3.length ac9])
            replace HP:=am (PS.rowP HP.out HX.out #[.int .i64 x.f0,.int .i64 x.f1,.int .i64 x.f2,.string x.f3,.slice a4 x.f4.length ac4,.slice a5 x.f5.length ac5,.int .i64 x.f6.f0,.string x.f6.f1,.int .i64 x.f6.f2,.slice a9 x.f6.f3.length ac9])
            replace HR:=am (has_row_other HR.out (g:=w1.heap.size) (cs':=#[.int .i64 x.f0,.int .i64 x.f1,.int .i64 x.f2,.string x.f3,.slice a4 x.f4.length ac4,.slice a5 x.f5.length ac5,.int .i64 x.f6.f0,.string x.f6.f1,.int .i64 x.f6.f2,.slice a9 x.f6.f3.length ac9]) (by omega))
            replace HV:=am (VO.rowO HV.out (g:=w1.heap.size) (fun kk h1 h2=>by omega) #[.int .i64 x.f0,.int .i64 x.f1,.int .i64 x.f2,.string x.f3,.slice a4 x.f4.length ac4,.slice a5 x.f5.length ac5,.int .i64 x.f6.f0,.string x.f6.f1,.int .i64 x.f6.f2,.slice a9 x.f6.f3.length ac9])
            replace HX:=am (has_row HX.out #[.int .i64 x.f0,.int .i64 x.f1,.int .i64 x.f2,.string x.f3,.slice a4 x.f4.length ac4,.slice a5 x.f5.length ac5,.int .i64 x.f6.f0,.string x.f6.f1,.int .i64 x.f6.f2,.slice a9 x.f6.f3.length ac9])
            (with_reducible refine Calls.mono (need_no sRpar HP.out HT5.out) ?_)
            rintro en w8 ⟨he8,hk8⟩
            subst he8
            replace HK:=am (Kept.then_ HK.out hk8)
            replace HR:=am (Kept.has hk8 HR.out (by omega))
            replace HX:=am (Kept.has hk8 HX.out (by omega))
            replace HV:=am (VO.kps HV.out HP.out hk8)
            have hs8:=Kept.size hk8
            try simp at hs8))
         rw [HEQ.out]
         exact ⟨rfl,HK.out,rfl⟩
     | false =>
      replace HEQ:=am (HEQ.out.trans (if_neg (by rw [hi];decide)))
      have HT3:=am hi
      clear hi
      go_wp2_with ((
            go_at_call 41
            (with_reducible refine Calls.mono (take_no sLpar HP.out HT3.out) ?_)
            rintro en w5 ⟨he5,hk5,hp5⟩
            subst he5
            replace HK:=am (Kept.then_ HK.out hk5)
            replace HR:=am (Kept.has hk5 HR.out (by omega))
            replace HX:=am (Kept.has hk5 HX.out (by omega))
            replace HP:=am hp5
            have hs5:=Kept.size hk5
            try simp at hs5))
      cases hi:isP sLbra l with
      | true =>
       replace HEQ:=am (HEQ.out.trans (if_pos hi))
       have HT4:=am hi
       clear hi
       go_wp2_with ((
             go_at_call 41
             (with_reducible refine Calls.mono (take_yes sLbra HP.out HT4.out) ?_)
             rintro en w6 ⟨he6,hk6,hp6⟩
             subst he6
             replace HK:=am (Kept.then_ HK.out hk6)
             replace HR:=am (Kept.has hk6 HR.out (by omega))
             replace HX:=am (Kept.has hk6 HX.out (by omega))
             replace HP:=am hp6
             have hs6:=Kept.size hk6
             try simp at hs6))
       cases hr:arrayP e n d a0 l.tail with
       | out=>exact absurd (HEQ.out.trans hr) HNE.out
       | bad b er =>
        have HRR:=am hr
        replace HEQ:=am (HEQ.out.trans hr)
        clear hr
        go_wp2_with ((
              go_at_call 85
              (with_reducible refine Calls.mono (HAA.out g e d _ a0 l.tail _ h0 h1 HP.out HX.out (by rw [HRR.out];exact PR.bad_ne _ _)) ?_)
              rintro en w7 ⟨hk7,he7⟩
              rw [HRR.out] at he7
              subst he7
              replace HK:=am (Kept.thenX HK.out hk7 rfl (.inr ⟨by omega,HX.out.lt⟩))))
        rw [HEQ.out]
        exact ⟨rfl,HK.out,rfl⟩
       | ok x l1 =>
        have HRR:=am hr
        replace HEQ:=am (HEQ.out.trans hr)
        clear hr
        go_wp2_with ((
              go_at_call 85
              (with_reducible refine Calls.mono (HAA.out g e d _ a0 l.tail _ h0 h1 HP.out HX.out (by rw [HRR.out];exact PR.ok_ne _ _)) ?_)
              rintro en w7 ⟨hk7,he7⟩
              rw [HRR.out] at he7
              obtain ⟨rfl,⟨cs7,hx7,hv7⟩,hp7⟩:=he7
              replace HK:=am (Kept.thenX HK.out hk7 rfl (.inr ⟨by omega,HX.out.lt⟩))
              replace HR:=am (Kept.has hk7 HR.out (by rintro (h | h) <;> omega))
              replace HX:=am hx7
              replace HP:=am hp7
              have HV:=am hv7
              have hs7:=Kept.size hk7
              try simp at hs7))
        go_meet
        case rel=>exact ⟨_,_,_,HEQ,HK,HP,HR,HX,⟨HV.out.lower (by omega)⟩⟩
      | false =>
       replace HEQ:=am (HEQ.out.trans (if_neg (by rw [hi];decide)))
       have HT4:=am hi
       clear hi
       go_wp2_with ((
             go_at_call 41
             (with_reducible refine Calls.mono (take_no sLbra HP.out HT4.out) ?_)
             rintro en w6 ⟨he6,hk6,hp6⟩
             subst he6
             replace HK:=am (Kept.then_ HK.out hk6)
             replace HR:=am (Kept.has hk6 HR.out (by omega))
             replace HX:=am (Kept.has hk6 HX.out (by omega))
             replace HP:=am hp6
             have hs6:=Kept.size hk6
             try simp at hs6))
       cases hi:oneP [sIf,sMatch,sLbrace] l with
       | true =>
        replace HEQ:=am (HEQ.out.trans (if_pos hi))
        have HT5:=am hi
        clear hi
        cases hr:closedP e n (d + 1) l with
        | out=>exact absurd (HEQ.out.trans hr) HNE.out
        | bad b er =>
         have HRR:=am hr
         replace HEQ:=am (HEQ.out.trans hr)
         clear hr
         go_wp2_with (first
           | (
            go_at_call 61
            have ba3:=below_alloc (Below.refl (w6).heap.size (w6)) (Obj.cells ([sIf,sMatch,sLbrace].map Value.string).toArray 9)
            replace HK:=am (Kept.below HK.out ba3)
            replace HP:=am (HP.out.below ba3)
            replace HR:=am (HR.out.belowS ba3)
            replace HX:=am (HX.out.belowS ba3)
            clear ba3
            refine Calls.mono (one_ps [sIf,sMatch,sLbrace] (some ⟨w6.heap.size,0,none⟩) 3 HP.out (lit_S w6 [sIf,sMatch,sLbrace] (by decide)) (by decide)) ?_
            rintro en w7 ⟨he7,hb7⟩
            rw [HT5.out] at he7
            subst he7
            replace HK:=am (Kept.below HK.out hb7)
            replace HP:=am (HP.out.below hb7)
            replace HR:=am (HR.out.belowS hb7)
            replace HX:=am (HX.out.belowS hb7)
            have hs7:=Below.size hb7
            try simp at hs7)
           | (
            go_at_call 76
            (with_reducible refine Calls.mono (HCC.out g e (d + 1) l _ (by omega) (by omega) HP.out (by rw [HRR.out];exact PR.bad_ne _ _)) ?_)
            rintro en w8 ⟨hk8,he8⟩
            rw [HRR.out] at he8
            subst he8
            replace HK:=am (Kept.then_ HK.out hk8)
            replace HR:=am (Kept.has hk8 HR.out (by omega))
            replace HX:=am (Kept.has hk8 HX.out (by omega))
            have hs8:=Kept.size hk8
            try simp at hs8))
         rw [HEQ.out]
         exact ⟨rfl,HK.out,rfl⟩
        | ok x l1 =>
         have HRR:=am hr
         replace HEQ:=am (HEQ.out.trans hr)
         clear hr
         go_wp2_with (first
           | (
            go_at_call 61
            have ba3:=below_alloc (Below.refl (w6).heap.size (w6)) (Obj.cells ([sIf,sMatch,sLbrace].map Value.string).toArray 9)
            replace HK:=am (Kept.below HK.out ba3)
            replace HP:=am (HP.out.below ba3)
            replace HR:=am (HR.out.belowS ba3)
            replace HX:=am (HX.out.belowS ba3)
            clear ba3
            refine Calls.mono (one_ps [sIf,sMatch,sLbrace] (some ⟨w6.heap.size,0,none⟩) 3 HP.out (lit_S w6 [sIf,sMatch,sLbrace] (by decide)) (by decide)) ?_
            rintro en w7 ⟨he7,hb7⟩
            rw [HT5.out] at he7
            subst he7
            replace HK:=am (Kept.below HK.out hb7)
            replace HP:=am (HP.out.below hb7)
            replace HR:=am (HR.out.belowS hb7)
            replace HX:=am (HX.out.belowS hb7)
            have hs7:=Below.size hb7
            try simp at hs7)
           | (
            go_at_call 76
            (with_reducible refine Calls.mono (HCC.out g e (d + 1) l _ (by omega) (by omega) HP.out (by rw [HRR.out];exact PR.ok_ne _ _)) ?_)
            rintro en w8 ⟨hk8,he8⟩
            rw [HRR.out] at he8
            obtain ⟨v8,rfl,hv8,hp8⟩:=he8
            obtain ⟨a4,ac4,a5,ac5,a9,ac9,rfl⟩:=VO.form hv8
            have HV:=am hv8
            replace HK:=am (Kept.then_ HK.out hk8)
            replace HR:=am (Kept.has hk8 HR.out (by omega))
            replace HX:=am (Kept.has hk8 HX.out (by omega))
            replace HP:=am hp8
            have hs8:=Kept.size hk8
            try simp at hs8)
           | (
            (with_reducible refine gate_store (t:=27) (p:=6) rfl ?_)
            go_must (refine store_event (t:=27) (p:=6) (v:=.tmp 61) (w1:=w8.setRow (w.heap.size) #[.int .i64 x.f0,.int .i64 x.f1,.int .i64 x.f2,.string x.f3,.slice a4 x.f4.length ac4,.slice a5 x.f5.length ac5,.int .i64 x.f6.f0,.string x.f6.f1,.int .i64 x.f6.f2,.slice a9 x.f6.f3.length ac9]) ?hg ?ho ?hn ?hr ?_;(case ho=>rfl);(case hg=>rfl);(case hn=>rfl);(case hr=>exact store27 w8 _ _ _ HR.out rfl rfl (by first | kernel_rfl | (simp [Value.oneCell'])) _ _ _ _ rfl rfl rfl);intro w77 hw77;subst hw77)))
         replace HK:=am (kept_rowX HK.out (g:=w.heap.size) (.inr (by show w.heap.size <= w.heap.size;omega)) #[.int .i64 x.f0,.int .i64 x.f1,.int .i64 x.f2,.string x.f3,.slice a4 x.f4.length ac4,.slice a5 x.f5.length ac5,.int .i64 x.f6.f0,.string x.f6.f1,.int .i64 x.f6.f2,.slice a9 x.f6.f3.length ac9])
         replace HP:=am (PS.rowP HP.out HR.out #[.int .i64 x.f0,.int .i64 x.f1,.int .i64 x.f2,.string x.f3,.slice a4 x.f4.length ac4,.slice a5 x.f5.length ac5,.int .i64 x.f6.f0,.string x.f6.f1,.int .i64 x.f6.f2,.slice a9 x.f6.f3.length ac9])
         replace HX:=am (has_row_other HX.out (g:=w.heap.size) (cs':=#[.int .i64 x.f0,.int .i64 x.f1,.int .i64 x.f2,.string x.f3,.slice a4 x.f4.length ac4,.slice a5 x.f5.length ac5,.int .i64 x.f6.f0,.string x.f6.f1,.int .i64 x.f6.f2,.slice a9 x.f6.f3.length ac9]) (by omega))
         replace HV:=am (VO.rowO HV.out (g:=w.heap.size) (fun kk h1 h2=>by omega) #[.int .i64 x.f0,.int .i64 x.f1,.int .i64 x.f2,.string x.f3,.slice a4 x.f4.length ac4,.slice a5 x.f5.length ac5,.int .i64 x.f6.f0,.string x.f6.f1,.int .i64 x.f6.f2,.slice a9 x.f6.f3.length ac9])
         replace HR:=am (has_row HR.out #[.int .i64 x.f0,.int .i64 x.f1,.int .i64 x.f2,.string x.f3,.slice a4 x.f4.length ac4,.slice a5 x.f5.length ac5,.int .i64 x.f6.f0,.string x.f6.f1,.int .i64 x.f6.f2,.slice a9 x.f6.f3.length ac9])
         refine bodyPost_ret (results_cell_row rfl _ _ w.heap.size 27 #[.int .i64 x.f0,.int .i64 x.f1,.int .i64 x.f2,.string x.f3,.slice a4 x.f4.length ac4,.slice a5 x.f5.length ac5,.int .i64 x.f6.f0,.string x.f6.f1,.int .i64 x.f6.f2,.slice a9 x.f6.f3.length ac9] (0,0) _ rfl HR.out Tryd.underlying27 rfl (by rfl)) rfl ?_
         rw [HEQ.out]
         exact ⟨HK.out,_,rfl,HV.out.lower (by omega),HP.out⟩
       | false =>
        replace HEQ:=am (HEQ.out.trans (if_neg (by rw [hi];decide)))
        have HT5:=am hi
        clear hi
        cases hr:namedP e n d op l with
        | out=>exact absurd (HEQ.out.trans hr) HNE.out
        | bad b er =>
         have HRR:=am hr
         replace HEQ:=am (HEQ.out.trans hr)
         clear hr
         go_wp2_with (first
           | (
            go_at_call 61
            have ba3:=below_alloc (Below.refl (w6).heap.size (w6)) (Obj.cells ([sIf,sMatch,sLbrace].map Value.string).toArray 9)
            replace HK:=am (Kept.below HK.out ba3)
            replace HP:=am (HP.out.below ba3)
            replace HR:=am (HR.out.belowS ba3)
            replace HX:=am (HX.out.belowS ba3)
            clear ba3
            refine Calls.mono (one_ps [sIf,sMatch,sLbrace] (some ⟨w6.heap.size,0,none⟩) 3 HP.out (lit_S w6 [sIf,sMatch,sLbrace] (by decide)) (by decide)) ?_
            rintro en w7 ⟨he7,hb7⟩
            rw [HT5.out] at he7
            subst he7
            replace HK:=am (Kept.below HK.out hb7)
            replace HP:=am (HP.out.below hb7)
            replace HR:=am (HR.out.belowS hb7)
            replace HX:=am (HX.out.belowS hb7)
            have hs7:=Below.size hb7
            try simp at hs7)
           | (
            go_at_call 86
            (with_reducible refine Calls.mono (HNN.out g e d op _ l _ h0 h1 HP.out (by rw [HAT.out];exact HX.out) (by rw [HRR.out];exact PR.bad_ne _ _)) ?_)
            rintro en w8 ⟨hk8,he8⟩
            rw [HRR.out] at he8
            subst he8
            replace HK:=am (Kept.thenX HK.out hk8 rfl (.inr ⟨by omega,HX.out.lt⟩))))
         rw [HEQ.out]
         exact ⟨rfl,HK.out,rfl⟩
        | ok x l1 =>
         have HRR:=am hr
         replace HEQ:=am (HEQ.out.trans hr)
         clear hr
         go_wp2_with (first
           | (
            go_at_call 61
            have ba3:=below_alloc (Below.refl (w6).heap.size (w6)) (Obj.cells ([sIf,sMatch,sLbrace].map Value.string).toArray 9)
            replace HK:=am (Kept.below HK.out ba3)
            replace HP:=am (HP.out.below ba3)
            replace HR:=am (HR.out.belowS ba3)
            replace HX:=am (HX.out.belowS ba3)
            clear ba3
            refine Calls.mono (one_ps [sIf,sMatch,sLbrace] (some ⟨w6.heap.size,0,none⟩) 3 HP.out (lit_S w6 [sIf,sMatch,sLbrace] (by decide)) (by decide)) ?_
            rintro en w7 ⟨he7,hb7⟩
            rw [HT5.out] at he7
            subst he7
            replace HK:=am (Kept.below HK.out hb7)
            replace HP:=am (HP.out.below hb7)
            replace HR:=am (HR.out.belowS hb7)
            replace HX:=am (HX.out.belowS hb7)
            have hs7:=Below.size hb7
            try simp at hs7)
           | (
            go_at_call 86
            (with_reducible refine Calls.mono (HNN.out g e d op _ l _ h0 h1 HP.out (by rw [HAT.out];exact HX.out) (by rw [HRR.out];exact PR.ok_ne _ _)) ?_)
            rintro en w8 ⟨hk8,he8⟩
            rw [HRR.out] at he8
            obtain ⟨rfl,⟨cs8,hx8,hv8⟩,hp8⟩:=he8
            replace HK:=am (Kept.thenX HK.out hk8 rfl (.inr ⟨by omega,HX.out.lt⟩))
            replace HR:=am (Kept.has hk8 HR.out (by rintro (h | h) <;> omega))
            replace HX:=am hx8
            replace HP:=am hp8
            have HV:=am hv8
            have hs8:=Kept.size hk8
            try simp at hs8))
         go_meet
         case rel=>exact ⟨_,_,_,HEQ,HK,HP,HR,HX,⟨HV.out.lower (by omega)⟩⟩
 case rest =>
  clear HK HP HR HX HEQ
  obtain ⟨cs,x,l',HEQ,HK,HP,HR,HX,HV⟩:=hcut
  obtain ⟨a4,ac4,a5,ac5,a9,ac9,hcs⟩:=VO.form HV.out
  injection hcs with hcs
  subst hcs
  go_wp2_with (first
    | (
     (with_reducible refine gate_dst (N:=62) rfl ?_)
     go_must (refine Kd.event_run rfl (load27 wc (w1.heap.size) #[.int .i64 x.f0,.int .i64 x.f1,.int .i64 x.f2,.string x.f3,.slice a4 x.f4.length ac4,.slice a5 x.f5.length ac5,.int .i64 x.f6.f0,.string x.f6.f1,.int .i64 x.f6.f2,.slice a9 x.f6.f3.length ac9] HX.out rfl _ _ _ rfl rfl) ?_))
    | (
     (with_reducible refine gate_store (t:=27) (p:=6) rfl ?_)
     go_must (refine store_event (t:=27) (p:=6) (v:=.tmp 62) (w1:=wc.setRow (w.heap.size) #[.int .i64 x.f0,.int .i64 x.f1,.int .i64 x.f2,.string x.f3,.slice a4 x.f4.length ac4,.slice a5 x.f5.length ac5,.int .i64 x.f6.f0,.string x.f6.f1,.int .i64 x.f6.f2,.slice a9 x.f6.f3.length ac9]) ?hg ?ho ?hn ?hr ?_;(case ho=>rfl);(case hg=>rfl);(case hn=>rfl);(case hr=>exact store27 wc _ _ _ HR.out rfl rfl (by first | kernel_rfl | (simp [Value.oneCell'])) _ _ _ _ rfl rfl rfl);intro w77 hw77;subst hw77)))
  replace HK:=am (kept_rowX HK.out (g:=w.heap.size) (.inr (by show w.heap.size <= w.heap.size;omega)) #[.int .i64 x.f0,.int .i64 x.f1,.int .i64 x.f2,.string x.f3,.slice a4 x.f4.length ac4,.slice a5 x.f5.length ac5,.int .i64 x.f6.f0,.string x.f6.f1,.int .i64 x.f6.f2,.slice a9 x.f6.f3.length ac9])
  replace HP:=am (PS.rowP HP.out HR.out #[.int .i64 x.f0,.int .i64 x.f1,.int .i64 x.f2,.string x.f3,.slice a4 x.f4.length ac4,.slice a5 x.f5.length ac5,.int .i64 x.f6.f0,.string x.f6.f1,.int .i64 x.f6.f2,.slice a9 x.f6.f3.length ac9])
  replace HX:=am (has_row_other HX.out (g:=w.heap.size) (cs':=#[.int .i64 x.f0,.int .i64 x.f1,.int .i64 x.f2,.string x.f3,.slice a4 x.f4.length ac4,.slice a5 x.f5.length ac5,.int .i64 x.f6.f0,.string x.f6.f1,.int .i64 x.f6.f2,.slice a9 x.f6.f3.length ac9]) (by omega))
  replace HV:=am (VO.rowO HV.out (g:=w.heap.size) (fun kk h1 h2=>by omega) #[.int .i64 x.f0,.int .i64 x.f1,.int .i64 x.f2,.string x.f3,.slice a4 x.f4.length ac4,.slice a5 x.f5.length ac5,.int .i64 x.f6.f0,.string x.f6.f1,.int .i64 x.f6.f2,.slice a9 x.f6.f3.length ac9])
  replace HR:=am (has_row HR.out #[.int .i64 x.f0,.int .i64 x.f1,.int .i64 x.f2,.string x.f3,.slice a4 x.f4.length ac4,.slice a5 x.f5.length ac5,.int .i64 x.f6.f0,.string x.f6.f1,.int .i64 x.f6.f2,.slice a9 x.f6.f3.length ac9])
  refine bodyPost_ret (results_cell_row rfl _ _ w.heap.size 27 #[.int .i64 x.f0,.int .i64 x.f1,.int .i64 x.f2,.string x.f3,.slice a4 x.f4.length ac4,.slice a5 x.f5.length ac5,.int .i64 x.f6.f0,.string x.f6.f1,.int .i64 x.f6.f2,.slice a9 x.f6.f3.length ac9] (0,0) _ rfl HR.out Tryd.underlying27 rfl (by rfl)) rfl ?_
  rw [HEQ.out]
  exact ⟨HK.out,_,rfl,HV.out.lower (by omega),HP.out⟩
end Go.Proofs.YtngpgdmafmkddaaDoor.Par
end
section
namespace Go.Proofs.YtngpgdmafmkddaaDoor.Par
open Go.RowKit Go.Proofs.YtngpgdmafmkddaaDoorW.PrintWords Go.Proofs.YtngpgdmafmkddaaDoorW.PrintLast Go.Proofs.YtngpgdmafmkddaaDoorW.PrintMore
open Go.Proofs.YtngpgdmafmkddaaDoor.PParseBlanks (S35 S25 S27 k35 k25 k27 rd_T35 rd_T25 rd_T27 at_T35 at_T25 at_T27)
set_option linter.unusedVariables false
set_option linter.unusedSimpArgs false
structure AllOK (n:Nat):Prop where
 climb:∀ m,m <= n -> ClimbOK m
 typ:∀ m,m <= n -> TypOK m
 stmt:∀ m,m <= n -> StmtOK m
 cast:CastOK n
 operand:OperandOK n
 behind:BehindOK n
 trees:TreesOK n
 primary:PrimaryOK n
 named:NamedOK n
 array:ArrayOK n
 closed:ClosedOK n
 block:BlockOK n
 plainly:PlainlyOK n
 lets:LetOK n
theorem all_le {P:Nat -> Prop} {n:Nat} (h:∀ m,m <= n -> P m) (k:P (n + 1)):∀ m,m <= n + 1 -> P m:=fun m hm=>by
 by_cases e:m <= n
 ·exact h m e
 ·obtain rfl:m = n + 1:=by omega
  exact k
theorem all_0 {P:Nat -> Prop} (k:P 0):∀ m,m <= 0 -> P m:=fun m hm=>by
 obtain rfl:m = 0:=by omega
 exact k
theorem all_ok (n:Nat):AllOK n:=by
 induction n with
 | zero =>
  refine ⟨all_0 ?_,all_0 ?_,all_0 ?_, ?_, ?_, ?_, ?_, ?_, ?_, ?_, ?_, ?_, ?_, ?_⟩
  ·intro g e d op least l w _ _ _ _ _ hne
   exact absurd (by simp only [climbP]) hne
  ·intro g e d l w _ _ _ hne
   exact absurd (by simp only [typP]) hne
  ·intro g e d l w _ _ _ hne
   exact absurd (by simp only [stmtP]) hne
  ·intro g e d op l w _ _ _ hne
   exact absurd (by simp only [castP]) hne
  ·intro g e d op l w _ _ _ hne
   exact absurd (by simp only [operandP]) hne
  ·intro g e d x v B l w _ _ _ _ _ hne
   exact absurd (by simp only [behindP]) hne
  ·intro g e d stop l w _ _ _ hne
   exact absurd (by simp only [treesP]) hne
  ·intro g e d op l w _ _ _ hne
   exact absurd (by simp only [primaryP]) hne
  ·intro g e d op r l w _ _ _ _ hne
   exact absurd (by simp only [namedP]) hne
  ·intro g e d r a l w _ _ _ _ hne
   exact absurd (by simp only [arrayP]) hne
  ·intro g e d l w _ _ _ hne
   exact absurd (by simp only [closedP]) hne
  ·intro g e d l w _ _ _ hne
   exact absurd (by simp only [blockP]) hne
  ·intro g e d l w _ _ _ hne
   exact absurd (by simp only [plainlyP]) hne
  ·intro g e d r a l w _ _ _ _ hne
   exact absurd (by simp only [letP]) hne
 | succ n ih =>
  have hTA:∀ m,m < n + 1 -> TreeOK m:=fun m hm=>tree_ok (ih.climb m (by omega))
  have hT:TreeOK n:=hTA n (by omega)
  exact ⟨all_le ih.climb (climb_ok rank_ok ih.cast fun k hk=>ih.climb k (by omega)),all_le ih.typ (typ_ok (ih.typ n (Nat.le_refl n))),all_le ih.stmt (stmt_ok hT ih.block ih.closed ih.plainly ih.lets),
   cast_ok ih.operand (fun m hm=>ih.typ m (by omega)),operand_ok ih.operand ih.primary ih.behind,behind_ok n hTA,trees_ok hT,primary_ok hT ih.array ih.closed ih.named,named_ok ih.trees hTA,array_ok hT ih.trees,closed_ok hTA ih.block ih.closed,block_ok (fun m hm=>ih.stmt m (by omega)),plainly_ok hT,let_ok hT (ih.typ n (Nat.le_refl n))⟩
end Go.Proofs.YtngpgdmafmkddaaDoor.Par
end
section
namespace Go.Proofs.YtngpgdmafmkddaaDoor.Tre
open Go.Proofs.YtngpgdmafmkddaaDoor.Lex Go.Proofs.YtngpgdmafmkddaaDoor.Calm Go.Proofs.YtngpgdmafmkddaaDoor.Par Go.RowKit Go.Proofs.YtngpgdmafmkddaaDoorW.PrintWords Go.Proofs.YtngpgdmafmkddaaDoorW.PrintLast Go.Proofs.YtngpgdmafmkddaaDoorW.PrintMore
open Go.Proofs.YtngpgdmafmkddaaDoor.PParseBlanks (S35 S25 S27 k35 k25 k27 rd_T35 rd_T25 rd_T27 at_T35 at_T25 at_T27)
set_option linter.unusedVariables false
set_option linter.unusedSimpArgs false
theorem lexN_sz:∀ (k a:Nat) (l:List UInt8) (ts:List S35),lexN k a l = .ok ts -> ∀ t ∈ ts,t.f1.size <= l.length:=by
 intro k
 induction k with
 | zero=>intro a l ts h;cases h
 | succ k ih =>
  intro a l ts h
  cases l with
  | nil =>
   injection h with h
   subst h
   intro t ht
   cases ht
  | cons b r =>
   simp only [lexN] at h
   split at h
   ·cases h
   ·split at h
    ·cases h
    ·rename_i ts2 h2
     injection h with h
     subst h
     intro t ht
     rcases List.mem_cons.1 ht with rfl | ht
     ·simp only [ByteArray.size,List.size_toArray,List.length_take]
      omega
     ·have h3:=ih _ _ _ h2 t ht
      simp only [List.length_drop] at h3
      omega
theorem lexP_sz {s:ByteArray} {ts:List S35} (h:lexP s = .ok ts):TokSz ts:=by
 unfold lexP at h
 split at h
 ·cases h
 ·intro t ht
  have h2:=lexN_sz _ _ _ _ h t ht
  have h3:s.data.toList.length = s.size:=by simp
  simp only [List.length_drop] at h2
  omega
def BegPost (s:ByteArray) (w:World) (en:Ending) (w' : World):Prop:=
 Below w.heap.size w w' /\ match lexP s with
 | .ok ts => ∃ g,en = .returned (.tuple #[.pointer (some ⟨g,0,none⟩),.int .i64 0,.int .i64 0]) /\ w.heap.size <= g /\ PS w' g ts s.size
 | .error x => ∃ g,en = .returned (.tuple #[.pointer (some ⟨g,0,none⟩),.int .i64 x.1,.int .i64 x.2])
set_option maxRecDepth 100000 in
set_option maxHeartbeats 2000000 in
theorem begin_said (s:ByteArray) (w:World) (HT:Tab w):Calls Tryd.prog 15 #[.string s] w (BegPost s w):=by
 have HTT:=am HT
 clear HT
 unfold BegPost
 cases hr:lexP s with
 | error x =>
  have HR:=am hr
  clear hr
  go_enter Tryd.func15,Tryd.ntmps15
  go_wp2_with (
   go_at_call 9
   (with_reducible refine Calls.mono (lex_said s _ HTT.out) ?_)
   rintro en w1 ⟨hb,hq⟩
   rw [HR.out] at hq
   subst hq)
  go_ret3
  exact ⟨below_alloc hb _,_,rfl⟩
 | ok ts =>
  have HR:=am hr
  clear hr
  go_enter Tryd.func15,Tryd.ntmps15
  go_wp2_with (
   go_at_call 9
   (with_reducible refine Calls.mono (lex_said s _ HTT.out) ?_)
   rintro en w1 ⟨hb,hq⟩
   rw [HR.out] at hq
   obtain ⟨A,c,rfl,hc,hC,hrt⟩:=hq
   have hC:=am hC)
  go_ret3
  refine ⟨below_alloc hb _,w1.heap.size,rfl,hb.size,A,c,Has.new w1 _ 76,⟨hc,lexP_sz HR.out⟩,Kd.C_alloc hC.out _,hrt.below (below_alloc (Below.refl _ _) _)⟩
set_option maxRecDepth 100000 in
set_option maxHeartbeats 2000000 in
theorem clear_said (rb:Nat) (w:World) (old:Array Value) (H:Has w rb old 27) (ho:old.size = 10):Calls Tryd.prog 17 #[.pointer (some ⟨rb,0,none⟩)] w fun en w' => en = .returned (.tuple #[]) /\ w' = w.setRow rb #[.int .i64 0,.int .i64 0,.int .i64 0,.string ⟨#[]⟩,.slice none 0 0,.slice none 0 0,.int .i64 0,.string ⟨#[]⟩,.int .i64 0,.slice none 0 0]:=by
 have HH:=am H
 clear H
 go_enter Tryd.func17,Tryd.ntmps17
 go_wp2_with (
  (with_reducible refine gate_store (t:=27) (p:=0) rfl ?_)
  go_must (refine store_event (t:=27) (p:=0) (v:=.tmp 1) (w1:=w.setRow rb #[.int .i64 0,.int .i64 0,.int .i64 0,.string ⟨#[]⟩,.slice none 0 0,.slice none 0 0,.int .i64 0,.string ⟨#[]⟩,.int .i64 0,.slice none 0 0]) ?hg ?ho ?hn ?hr ?_;(case ho=>rfl);(case hg=>rfl);(case hn=>rfl);(case hr=>exact store27 w _ _ _ HH.out ho rfl (by first | kernel_rfl | (simp [Value.oneCell'])) _ _ _ _ rfl rfl rfl);intro w77 hw77;subst hw77))
 exact bodyPost_end (results_none rfl _ _ _) rfl ⟨rfl,rfl⟩
theorem ta78 (v:Value) (w:World):(Instr.typeAssert (.iface 78 v) 20 78 true).run Tryd.prog w = .ok (.tuple #[v,.bool true]) w:=by
 simp [Instr.typeAssert,run_underlying Tryd.underlying78]
def CauPost (ab eb rb:Nat) (a er:Int) (u:FrameMode) (w:World) (e:Ending) (u' : FrameMode) (w' : World):Prop:=
 e = .returned (.tuple #[]) /\ u' = u /\ Kept (fun b=>b = ab \/ b = eb \/ b = rb) w w' /\ Has w' ab #[.int .i64 a] 3 /\ Has w' eb #[.int .i64 er] 28 /\ Has w' rb #[.int .i64 0,.int .i64 0,.int .i64 0,.string ⟨#[]⟩,.slice none 0 0,.slice none 0 0,.int .i64 0,.string ⟨#[]⟩,.int .i64 0,.slice none 0 0] 27
set_option maxRecDepth 100000 in
set_option maxHeartbeats 4000000 in
theorem caught_idle (ab eb rb:Nat) (w:World) :
  CallsD Tryd.prog 16 #[Value.pointer (some ⟨ab,0,none⟩),.pointer (some ⟨eb,0,none⟩),.func (.func 17) #[] #[.pointer (some ⟨rb,0,none⟩)]] (.returning) w (fun e u' w' => e = .returned (.tuple #[]) /\ u' = .returning /\ w' = w):=by
 refine callsD_of_wpS Tryd.func16 rfl fun c₀ cs hu => ?_
 rw [show (#[Value.pointer (some ⟨ab,0,none⟩),.pointer (some ⟨eb,0,none⟩),.func (.func 17) #[] #[.pointer (some ⟨rb,0,none⟩)]] ++ Array.replicate (Tryd.f16.ntmps - (#[Value.pointer (some ⟨ab,0,none⟩),.pointer (some ⟨eb,0,none⟩),.func (.func 17) #[] #[.pointer (some ⟨rb,0,none⟩)]]:Array Value).size) undef) = #[.pointer (some ⟨ab,0,none⟩),.pointer (some ⟨eb,0,none⟩),.func (.func 17) #[] #[.pointer (some ⟨rb,0,none⟩)],undef,undef,undef,undef,undef,undef,undef,undef,undef,undef,undef,undef,undef,undef,undef,undef,undef,undef,undef,undef,undef,undef] from by kernel_rfl]
 apply wpS_seq
 apply wpS_region
 simp [wpOpsS,go_sem,recoverD,hu,Exit.thenS]
 refine wpS_of_wp ?_
 go_wp2
 exact ⟨rfl,_,by first | rfl | (cases c₀;simp_all),.tuple #[],results_none rfl _ _ _,rfl,by first | rfl | assumption,rfl⟩
set_option maxRecDepth 100000 in
set_option maxHeartbeats 4000000 in
theorem caught_stop (ab eb rb:Nat) (a er a1 e1:Int) (old:Array Value) (w:World) (ha:Has w ab #[.int .i64 a1] 3) (he:Has w eb #[.int .i64 e1] 28) (hr:Has w rb old 27) (ho:old.size = 10) :
  CallsD Tryd.prog 16 #[Value.pointer (some ⟨ab,0,none⟩),.pointer (some ⟨eb,0,none⟩),.func (.func 17) #[] #[.pointer (some ⟨rb,0,none⟩)]] (.panicking [stopE a er]) w (CauPost ab eb rb a er (.panicking [{ v:=.iface 78 (.agg #[.int .i64 a,.int .i64 er]),recovered:=true }]) w):=by
 have hu78:=Tryd.underlying78
 have hta:=ta78
 refine callsD_of_wpS Tryd.func16 rfl fun c₀ cs hu => ?_
 rw [show (#[Value.pointer (some ⟨ab,0,none⟩),.pointer (some ⟨eb,0,none⟩),.func (.func 17) #[] #[.pointer (some ⟨rb,0,none⟩)]] ++ Array.replicate (Tryd.f16.ntmps - (#[Value.pointer (some ⟨ab,0,none⟩),.pointer (some ⟨eb,0,none⟩),.func (.func 17) #[] #[.pointer (some ⟨rb,0,none⟩)]]:Array Value).size) undef) = #[.pointer (some ⟨ab,0,none⟩),.pointer (some ⟨eb,0,none⟩),.func (.func 17) #[] #[.pointer (some ⟨rb,0,none⟩)],undef,undef,undef,undef,undef,undef,undef,undef,undef,undef,undef,undef,undef,undef,undef,undef,undef,undef,undef,undef,undef,undef] from by kernel_rfl]
 apply wpS_seq
 apply wpS_region
 simp [wpOpsS,go_sem,recoverD,hu,stopE,Exit.thenS]
 refine wpS_of_wp ?_
 go_wp2
 have hA:=(ha.alloc (Obj.cells #[.int .i64 a,.int .i64 er] 78)).drewN 1
 have hE:=(he.alloc (Obj.cells #[.int .i64 a,.int .i64 er] 78)).drewN 1
 have hR:=(hr.alloc (Obj.cells #[.int .i64 a,.int .i64 er] 78)).drewN 1
 have hS0:=(Has.new w #[.int .i64 a,.int .i64 er] 78).drewN 1
 have hK:=(Par.Kept.of_below (S:=fun b=>b = ab \/ b = eb \/ b = rb) (below_alloc (Below.refl _ w) (Obj.cells #[.int .i64 a,.int .i64 er] 78))).drewN 1
 obtain ⟨W,hW⟩:∃ W,(w.alloc (Obj.cells #[.int .i64 a,.int .i64 er] 78)).drew = W:=⟨_,rfl⟩
 have hW1:(w.alloc (Obj.cells #[.int .i64 a,.int .i64 er] 78)).drewN 1 = W:=hW
 rw [hW1] at hA hE hR hS0 hK
 have hna:ab ≠ w.heap.size:=by have:=ha.lt;omega
 have hne:eb ≠ w.heap.size:=by have:=he.lt;omega
 have hae:ab ≠ eb:=ha.ne he (by decide)
 have har:rb ≠ ab:=fun h=>by subst h;exact absurd rfl (hr.ne ha (by decide))
 have her:rb ≠ eb:=fun h=>by subst h;exact absurd rfl (hr.ne he (by decide))
 refine region_treeQ (by kernel_rfl) (fun w' => Has w' w.heap.size #[.int .i64 a,.int .i64 er] 78) (hW ▸ hS0) fun hS => ?_
 rw [hW] at hS ⊢
 clear hW hW1
 generalize hQQ:Exit.then _ _ = QQ
 have hsure:Sure QQ:=by
  rw [<- hQQ]
  intro c x x' w1 hd h
  simp +zetaDelta only [Exit.then,Exit.thenS,Exit.inBlock,bodyPost,bodyPostS] at h ⊢
  first | (simp at h;done) | simpa [hd] using h
 refine tqh hsure hS 0 ?_
 apply Exists.intro
 apply And.intro
 ·rintro w' k1
  apply VR.mk
  go_simp
  with_reducible rfl
 simp only [sA,sB,sC]
 refine tqh hsure hS 1 ?_
 apply Exists.intro
 apply And.intro
 ·rintro w' k1
  apply VR.mk
  go_simp
  with_reducible rfl
 simp only [sA,sB,sC]
 refine tqh hsure hS 2 ?_
 apply Exists.intro
 apply And.intro
 ·rintro w' k1
  apply VR.mk
  go_simp
  with_reducible rfl
 simp only [sA,sB,sC]
 refine tqh hsure hS 3 ?_
 apply Exists.intro
 apply And.intro
 ·rintro w' k1
  have cc0:=hci k1 0 rfl
  apply VR.mk
  go_simp
  with_reducible rfl
 simp only [sA,sB,sC]
 refine tqh hsure hS 4 ?_
 apply Exists.intro
 apply And.intro
 ·rintro w' k1
  apply VR.mk
  go_simp
  with_reducible rfl
 simp only [sA,sB,sC]
 refine tqh hsure hS 5 ?_
 apply Exists.intro
 apply And.intro
 ·rintro w' k1
  have cc0:=hci k1 1 rfl
  apply VR.mk
  go_simp
  with_reducible rfl
 simp only [sA,sB,sC]
 refine tqh hsure hS 6 ?_
 apply Exists.intro
 apply And.intro
 ·rintro w' k1
  apply VR.mk
  go_simp
  with_reducible rfl
 simp only [sA,sB,sC]
 have ca:=hci hA 0 rfl
 have fa:=hA.frozen 0
 refine tree_1Q (i:=7) (by kernel_rfl) ?_
 refine step_list (by rfl) ?_
 go_wp2
 clear ca fa
 replace hS0:=hS0.other (a:=⟨ab,0,none⟩) (Ne.symm hna) (.int .i64 a)
 replace hE:=hE.other (a:=⟨ab,0,none⟩) (Ne.symm hae) (.int .i64 a)
 replace hR:=hR.other (a:=⟨ab,0,none⟩) har (.int .i64 a)
 replace hK:=hK.setCell (a:=⟨ab,0,none⟩) (.inl rfl) (.int .i64 a)
 replace hA:Has (W.setCell ⟨ab,0,none⟩ (.int .i64 a)) ab #[.int .i64 a] 3:=hA.set_ 0 (.int .i64 a)
 refine ⟨hS0, ?_⟩
 obtain ⟨W2,hW2⟩:∃ V,W.setCell ⟨ab,0,none⟩ (.int .i64 a) = V:=⟨_,rfl⟩
 rw [hW2] at hS0 hE hR hK hA ⊢
 clear hW2
 refine tqh hsure hS0 8 ?_
 apply Exists.intro
 apply And.intro
 ·rintro w' k1
  apply VR.mk
  go_simp
  with_reducible rfl
 simp only [sA,sB,sC]
 have ce:=hci hE 0 rfl
 have fe:=hE.frozen 0
 refine tree_1Q (i:=9) (by kernel_rfl) ?_
 refine step_list (by rfl) ?_
 go_wp2
 clear ce fe
 replace hS0:=hS0.other (a:=⟨eb,0,none⟩) (Ne.symm hne) (.int .i64 er)
 replace hA:=hA.other (a:=⟨eb,0,none⟩) hae (.int .i64 er)
 replace hR:=hR.other (a:=⟨eb,0,none⟩) her (.int .i64 er)
 replace hK:=hK.setCell (a:=⟨eb,0,none⟩) (.inr (.inl rfl)) (.int .i64 er)
 replace hE:Has (W2.setCell ⟨eb,0,none⟩ (.int .i64 er)) eb #[.int .i64 er] 28:=hE.set_ 0 (.int .i64 er)
 refine ⟨hS0,tree_endQ (by kernel_rfl) ?_⟩
 obtain ⟨W3,hW3⟩:∃ V,W2.setCell ⟨eb,0,none⟩ (.int .i64 er) = V:=⟨_,rfl⟩
 rw [hW3] at hS0 hE hR hK hA ⊢
 clear hW3 hS hsure
 rw [<- hQQ]
 clear hQQ
 have hcf:∀ w:World,(callFunc 17 #[.pointer (some ⟨rb,0,none⟩)]).run Tryd.prog w = .ok (.enter 17 #[.pointer (some ⟨rb,0,none⟩)]) w:=by intro w;kernel_rfl
 have HH:=am (And.intro hA (And.intro hE (And.intro hR hK)))
 clear hA hE hR hK
 obtain ⟨hA,hE,hR,hK⟩:=HH.out
 have HRR:=am hR
 clear hA hE hR hK
 go_wp2_with ((
       go_at_call 17
       (with_reducible refine Calls.mono (clear_said rb _ _ HRR.out ho) ?_)
       rintro en w9 ⟨rfl,rfl⟩))
 obtain ⟨hA,hE,hR,hK⟩:=HH.out
 exact ⟨rfl,_,by first | rfl | (cases c₀;simp_all),.tuple #[],results_none rfl _ _ _,rfl,by first | rfl | assumption,kept_rowX hK (.inl (.inr (.inr rfl))) _,has_row_other hA (Ne.symm har),has_row_other hE (Ne.symm her),has_row hR _⟩
end Go.Proofs.YtngpgdmafmkddaaDoor.Tre
end
section
namespace Go.Proofs.YtngpgdmafmkddaaDoor.Tre
open Go.Proofs.YtngpgdmafmkddaaDoor.Lex Go.Proofs.YtngpgdmafmkddaaDoor.Calm Go.Proofs.YtngpgdmafmkddaaDoor.Par Go.RowKit Go.Proofs.YtngpgdmafmkddaaDoorW.PrintWords Go.Proofs.YtngpgdmafmkddaaDoorW.PrintLast Go.Proofs.YtngpgdmafmkddaaDoorW.PrintMore
open Go.Proofs.YtngpgdmafmkddaaDoor.PParseBlanks (S35 S25 S27 k35 k25 k27 rd_T35 rd_T25 rd_T27 at_T35 at_T25 at_T27)
set_option linter.unusedVariables false
set_option linter.unusedSimpArgs false
theorem lexN_bad:∀ (k a:Nat) (l:List UInt8) (x:Nat × Int),l.length < k -> lexN k a l = .error x -> x.2 ≠ 0:=by
 intro k
 induction k with
 | zero=>intro a l x h;omega
 | succ k ih =>
  intro a l x hk h
  cases l with
  | nil=>cases h
  | cons b r =>
   simp only [lexN] at h
   split at h
   ·rename_i h2
    injection h with h
    subst h
    exact nextN_bad h2
   ·rename_i hz
    split at h
    ·rename_i h2
     injection h with h
     subst h
     refine ih _ _ _ ?_ h2
     simp only [List.length_drop]
     have:0 < (nextN (b :: r)).2.1:=Nat.pos_of_ne_zero hz
     simp only [List.length_cons] at hk ⊢
     omega
    ·cases h
theorem lexP_bad {s:ByteArray} {a:Nat} {e:Int} (h:lexP s = .error (a,e)):e ≠ 0:=by
 unfold lexP at h
 split at h
 ·injection h with h
  injection h with _ h
  subst h
  decide
 ·refine lexN_bad _ _ _ _ ?_ h
  have h3:s.data.toList.length = s.size:=by simp
  simp only [List.length_drop]
  omega
def treeX (s:ByteArray) (n:Nat):Option (S27 × Int × Int):=match lexP s with
 | .error x=>some (Z0,(x.1:Int),x.2)
 | .ok ts=>match treeP s.size n ts with
  | .ok x _=>some (x,0,0)
  | .bad a er=>some (Z0,a,er)
  | .out=>none
def TrePost (s:ByteArray) (n:Nat) (w:World) (en:Ending) (w' : World):Prop:=
 Below w.heap.size w w' /\ ∃ v x a er,treeX s n = some (x,a,er) /\ en = .returned (.tuple #[v,.int .i64 a,.int .i64 er]) /\ VE w.heap.size w' v x
set_option maxRecDepth 100000 in
theorem tree_end (T:Array Value) {rb ab eb:Nat} (h2:T[2]? = some (.pointer (some ⟨rb,0,none⟩))) (h3:T[3]? = some (.pointer (some ⟨ab,0,none⟩))) (h4:T[4]? = some (.pointer (some ⟨eb,0,none⟩))) {w:World} {a er:Int} {c0 c1 c2 c3 c4 c5 c6 c7 c8 c9:Value} (HR:Has w rb #[c0,c1,c2,c3,c4,c5,c6,c7,c8,c9] 27) (HA:Has w ab #[.int .i64 a] 3) (HE:Has w eb #[.int .i64 er] 28) :
  (results Tryd.f8 T).run Tryd.prog w = .ok (.tuple #[.agg #[c0,c1,c2,c3,c4,c5,c6,c7,c8,c9],.int .i64 a,.int .i64 er]) w:=by
 have b0:=HR.cell 0
 have b1:=HR.cell 1
 have b2:=HR.cell 2
 have b3:=HR.cell 3
 have b4:=HR.cell 4
 have b5:=HR.cell 5
 have b6:=HR.cell 6
 have b7:=HR.cell 7
 have b8:=HR.cell 8
 have b9:=HR.cell 9
 have ca:=HA.cell 0
 have ce:=HE.cell 0
 have hu:=Tryd.underlying27
 simp only [List.getElem?_toArray,List.getElem?_cons_zero,List.getElem?_cons_succ] at b0 b1 b2 b3 b4 b5 b6 b7 b8 b9 ca ce
 simp [results,Tryd.results8,h2,h3,h4,b0,b1,b2,b3,b4,b5,b6,b7,b8,b9,ca,ce,go_sem]
theorem Z_VE (B:Nat) (w:World):VE B w (.agg #[.int .i64 0,.int .i64 0,.int .i64 0,.string ⟨#[]⟩,.slice none 0 0,.slice none 0 0,.int .i64 0,.string ⟨#[]⟩,.int .i64 0,.slice none 0 0]) Z0:=VO.leaf _ _ _ 0 0 0 ⟨#[]⟩
abbrev treD (rb ab eb:Nat):Deferred := { target:=.fn (.func 16) #[],args:=#[.pointer (some ⟨ab,0,none⟩),.pointer (some ⟨eb,0,none⟩),.func (.func 17) #[] #[.pointer (some ⟨rb,0,none⟩)]] }
theorem kept_below3 {B ab eb rb:Nat} {w w1 w2:World} (hb:Below B w w1) (hk:Par.Kept (fun b=>b = ab \/ b = eb \/ b = rb) w1 w2) (h1:B <= ab) (h2:B <= eb) (h3:B <= rb) (hB:B <= w1.heap.size):Below B w w2:=
 below_tr hb (hk.below_of (B:=B) (fun b h=>by rcases h with rfl | rfl | rfl <;> assumption) hB)
theorem tree_stops (T:Array Value) {rb ab eb:Nat} (h2:T[2]? = some (.pointer (some ⟨rb,0,none⟩))) (h3:T[3]? = some (.pointer (some ⟨ab,0,none⟩))) (h4:T[4]? = some (.pointer (some ⟨eb,0,none⟩))) {s:ByteArray} {n:Nat} {w w5:World} {a er a1 e1:Int} {old:Array Value} (hx:treeX s n = some (Z0,a,er)) (ha:Has w5 ab #[.int .i64 a1] 3) (he:Has w5 eb #[.int .i64 e1] 28) (hr:Has w5 rb old 27) (ho:old.size = 10)
  (hb:Below w.heap.size w w5) (n1:w.heap.size <= ab) (n2:w.heap.size <= eb) (n3:w.heap.size <= rb):Leaves Tryd.prog Tryd.f8 T (TrePost s n w) [treD rb ab eb] (.panicking [stopE a er]) w5:=by
 refine leaves_cons (f:=16) (args:=#[.pointer (some ⟨ab,0,none⟩),.pointer (some ⟨eb,0,none⟩),.func (.func 17) #[] #[.pointer (some ⟨rb,0,none⟩)]]) (by simp) (by simp [go_sem]) ?_
 refine (caught_stop ab eb rb a er a1 e1 old w5 ha he hr ho).mono ?_
 rintro e u' w6 ⟨rfl,rfl,hk,hA,hE,hR⟩
 have hb6:=kept_below3 hb hk n1 n2 n3 hb.size
 exact ⟨_,tree_end T h2 h3 h4 hR hA hE,hb6,_,Z0,a,er,hx,rfl,Z_VE _ _⟩
theorem tree_idles (T:Array Value) {rb ab eb:Nat} (h2:T[2]? = some (.pointer (some ⟨rb,0,none⟩))) (h3:T[3]? = some (.pointer (some ⟨ab,0,none⟩))) (h4:T[4]? = some (.pointer (some ⟨eb,0,none⟩))) {s:ByteArray} {n:Nat} {w w5:World} {x:S27} {c0 c1 c2 c3 c4 c5 c6 c7 c8 c9:Value} (hx:treeX s n = some (x,0,0)) (ha:Has w5 ab #[.int .i64 0] 3) (he:Has w5 eb #[.int .i64 0] 28) (hr:Has w5 rb #[c0,c1,c2,c3,c4,c5,c6,c7,c8,c9] 27)
  (hb:Below w.heap.size w w5) (hv:VE w.heap.size w5 (.agg #[c0,c1,c2,c3,c4,c5,c6,c7,c8,c9]) x):Leaves Tryd.prog Tryd.f8 T (TrePost s n w) [treD rb ab eb] .returning w5:=by
 refine leaves_cons (f:=16) (args:=#[.pointer (some ⟨ab,0,none⟩),.pointer (some ⟨eb,0,none⟩),.func (.func 17) #[] #[.pointer (some ⟨rb,0,none⟩)]]) (by simp) (by simp [go_sem]) ?_
 refine (caught_idle ab eb rb w5).mono ?_
 rintro e u' w6 ⟨rfl,rfl,rfl⟩
 exact ⟨_,tree_end T h2 h3 h4 hr ha he,hb,_,x,0,0,hx,rfl,hv⟩
def panQ (Q:Exit -> Act -> World -> Prop) (D:List Deferred):Exit -> Act -> World -> Prop
 | .panic c,a,w=>False
 | e,a,w=>Q e a w
theorem panQ_sure (Q:Exit -> Act -> World -> Prop) (D:List Deferred):Sure (panQ Q D):=fun c a a' w hd h=>h
theorem region_treeQN {P:Program} {Q:Exit -> Act -> World -> Prop} {a:Act} {w:World} {id:Nat} {l:List Oper} (hm:P.follows .mixedOrders = true) (S:World -> Prop) (hS:S w.drew) (h:S w.drew -> TreeQ P l.toArray (panQ Q a.defers) S l.length (Array.replicate l.length false) a w.drew):(Code.region id l.toArray true).wp P Q a w:=by
 refine Code.wp_mono (Q:=panQ Q a.defers) (fun e a w h => ?_) (region_treeQ hm S hS h)
 cases e with
 | panic c=>exact h.elim
 | _=>exact h
theorem below_setX {B:Nat} {w w' : World} (h:Below B w w') {a:Addr} (ha:B <= a.block) (v:Value):Below B w (w'.setCell a v):=⟨h.os,h.tape,h.output,by simpa [World.setCell] using h.size,fun k hk=>(Below.heap_setCell w' a v k (by omega)).trans (h.block k hk)⟩
theorem below_rowX {B:Nat} {w w' : World} (h:Below B w w') {g:Nat} (hg:B <= g) (cs:Array Value):Below B w (w'.setRow g cs):=⟨h.os,h.tape,h.output,by rw [row_size];exact h.size,fun k hk=>(row_block w' g k cs (by omega)).trans (h.block k hk)⟩
set_option maxRecDepth 100000 in
set_option maxHeartbeats 4000000 in
theorem tree_said (s:ByteArray) (n:Nat) (w:World) (HT:Tab w) (hne:treeX s n ≠ none):Calls Tryd.prog 8 #[.string s] w (TrePost s n w):=by
 have hu27:=Tryd.underlying27
 have HR:Aside0 (Has (w.alloc (Obj.cells #[.int .i64 0,.int .i64 0,.int .i64 0,.string ⟨#[]⟩,.slice none 0 0,.slice none 0 0,.int .i64 0,.string ⟨#[]⟩,.int .i64 0,.slice none 0 0] 27)) (w.heap.size) #[.int .i64 0,.int .i64 0,.int .i64 0,.string ⟨#[]⟩,.slice none 0 0,.slice none 0 0,.int .i64 0,.string ⟨#[]⟩,.int .i64 0,.slice none 0 0] 27):=⟨by have h:=Has.new (w) #[.int .i64 0,.int .i64 0,.int .i64 0,.string ⟨#[]⟩,.slice none 0 0,.slice none 0 0,.int .i64 0,.string ⟨#[]⟩,.int .i64 0,.slice none 0 0] 27;first | exact h | (simpa using h)⟩
 have hz1:((w.alloc (Obj.cells #[.int .i64 0,.int .i64 0,.int .i64 0,.string ⟨#[]⟩,.slice none 0 0,.slice none 0 0,.int .i64 0,.string ⟨#[]⟩,.int .i64 0,.slice none 0 0] 27))).heap.size = w.heap.size + 1:=by simp
 replace HR:=am (Has.alloc HR.out (Obj.cells #[.int .i64 0] 3))
 have HA:Aside0 (Has (((w.alloc (Obj.cells #[.int .i64 0,.int .i64 0,.int .i64 0,.string ⟨#[]⟩,.slice none 0 0,.slice none 0 0,.int .i64 0,.string ⟨#[]⟩,.int .i64 0,.slice none 0 0] 27))).alloc (Obj.cells #[.int .i64 0] 3)) (w.heap.size + 1) #[.int .i64 0] 3):=⟨by have h:=Has.new ((w.alloc (Obj.cells #[.int .i64 0,.int .i64 0,.int .i64 0,.string ⟨#[]⟩,.slice none 0 0,.slice none 0 0,.int .i64 0,.string ⟨#[]⟩,.int .i64 0,.slice none 0 0] 27))) #[.int .i64 0] 3;first | exact h | (simpa using h)⟩
 replace HR:=am (Has.alloc HR.out (Obj.cells #[.int .i64 0] 28))
 replace HA:=am (Has.alloc HA.out (Obj.cells #[.int .i64 0] 28))
 have HE:Aside0 (Has (((((w.alloc (Obj.cells #[.int .i64 0,.int .i64 0,.int .i64 0,.string ⟨#[]⟩,.slice none 0 0,.slice none 0 0,.int .i64 0,.string ⟨#[]⟩,.int .i64 0,.slice none 0 0] 27))).alloc (Obj.cells #[.int .i64 0] 3))).alloc (Obj.cells #[.int .i64 0] 28)) (w.heap.size + 2) #[.int .i64 0] 28):=⟨by have h:=Has.new ((((w.alloc (Obj.cells #[.int .i64 0,.int .i64 0,.int .i64 0,.string ⟨#[]⟩,.slice none 0 0,.slice none 0 0,.int .i64 0,.string ⟨#[]⟩,.int .i64 0,.slice none 0 0] 27))).alloc (Obj.cells #[.int .i64 0] 3))) #[.int .i64 0] 28;first | exact h | (simpa using h)⟩
 have HB:=am (below_alloc (below_alloc (below_alloc (Below.refl w.heap.size w) (Obj.cells #[.int .i64 0,.int .i64 0,.int .i64 0,.string ⟨#[]⟩,.slice none 0 0,.slice none 0 0,.int .i64 0,.string ⟨#[]⟩,.int .i64 0,.slice none 0 0] 27)) (Obj.cells #[.int .i64 0] 3)) (Obj.cells #[.int .i64 0] 28))
 have HTT:=am (HT.below (below_alloc (below_alloc (below_alloc (Below.refl w.heap.size w) (Obj.cells #[.int .i64 0,.int .i64 0,.int .i64 0,.string ⟨#[]⟩,.slice none 0 0,.slice none 0 0,.int .i64 0,.string ⟨#[]⟩,.int .i64 0,.slice none 0 0] 27)) (Obj.cells #[.int .i64 0] 3)) (Obj.cells #[.int .i64 0] 28)))
 have hz0:((((((w.alloc (Obj.cells #[.int .i64 0,.int .i64 0,.int .i64 0,.string ⟨#[]⟩,.slice none 0 0,.slice none 0 0,.int .i64 0,.string ⟨#[]⟩,.int .i64 0,.slice none 0 0] 27))).alloc (Obj.cells #[.int .i64 0] 3))).alloc (Obj.cells #[.int .i64 0] 28))).heap.size = w.heap.size + 3:=by simp
 have HNE:=am hne
 clear HT hne
 have hmf:∀ (fn:Fn) (first cap:Array Value) (w:World),(Instr.makeFunc fn first cap).run Tryd.prog w = .ok (.func fn first cap) w:=fun _ _ _ _=>rfl
 cases hr:lexP s with
 | error xe =>
  have HLX:=am hr
  clear hr
  obtain ⟨ea,ee⟩:=xe
  have hne:ee ≠ 0:=lexP_bad HLX.out
  have kne:(ee != 0) = true:=by simp [hne]
  go_enter_defers Tryd.func8,Tryd.ntmps8
  go_upto_region 3 with ((
        go_at_call 15
        (with_reducible refine Calls.mono (begin_said s _ HTT.out) ?_)
        rintro en w1 ⟨hb1,hq1⟩
        rw [HLX.out] at hq1
        obtain ⟨g,rfl⟩:=hq1
        replace HR:=am (HR.out.belowS hb1)
        replace HA:=am (HA.out.belowS hb1)
        replace HE:=am (HE.out.belowS hb1)
        replace HB:=am (below_then HB.out HB.out.size hb1)
        have hs1:=hb1.size
        rw [hz0] at hs1
        clear hb1
        have c2:=hci HA.out 0 rfl
        have f2:=Has.frozen HA.out 0))
  clear c2 f2
  replace HR:=am (Has.other HR.out (a:=⟨w.heap.size + 1,0,none⟩) (by show w.heap.size ≠ w.heap.size + 1;omega) (.int .i64 (ea:Int)))
  replace HE:=am (Has.other HE.out (a:=⟨w.heap.size + 1,0,none⟩) (by show w.heap.size + 2 ≠ w.heap.size + 1;omega) (.int .i64 (ea:Int)))
  replace HA:Aside0 (Has (w1.setCell ⟨w.heap.size + 1,0,none⟩ (.int .i64 (ea:Int))) (w.heap.size + 1) #[.int .i64 (ea:Int)] 3):=⟨by have h:=Has.set_ HA.out 0 (.int .i64 (ea:Int));exact h⟩
  have hD:=below_drew (Below.refl ((w1.setCell ⟨w.heap.size + 1,0,none⟩ (.int .i64 (ea:Int)))).heap.size ((w1.setCell ⟨w.heap.size + 1,0,none⟩ (.int .i64 (ea:Int)))))
  replace HR:=am (HR.out.belowS hD)
  replace HA:=am (HA.out.belowS hD)
  replace HE:=am (HE.out.belowS hD)
  replace HB:=am (below_setX HB.out (a:=⟨w.heap.size + 1,0,none⟩) (by show w.heap.size <= w.heap.size + 1;omega) (.int .i64 (ea:Int)))
  replace HB:=am (below_then HB.out HB.out.size hD)
  clear hD
  obtain ⟨W,hW⟩:∃ W,((w1.setCell ⟨w.heap.size + 1,0,none⟩ (.int .i64 (ea:Int)))).drew = W:=⟨_,rfl⟩
  rw [hW] at HR HA HE HB
  refine region_treeQN (by kernel_rfl) (fun w' => Has w' (w.heap.size + 1) #[.int .i64 (ea:Int)] 3) (hW ▸ HA.out) fun hS => ?_
  rw [hW] at hS ⊢
  clear hW hS
  generalize hQQ:panQ _ _ = QQ
  have hsure:Sure QQ:=by
   rw [<- hQQ]
   exact panQ_sure _ _
  refine tqh hsure HA.out 0 ?_
  apply Exists.intro
  apply And.intro
  ·rintro w' k1
   apply VR.mk
   go_simp
   with_reducible rfl
  simp only [sA,sB,sC]
  refine tqh hsure HA.out 1 ?_
  apply Exists.intro
  apply And.intro
  ·rintro w' k1
   have cc0:=hci k1 0 rfl
   apply VR.mk
   go_simp
   with_reducible rfl
  simp only [sA,sB,sC]
  refine tqh hsure HA.out 2 ?_
  apply Exists.intro
  apply And.intro
  ·rintro w' k1
   apply VR.mk
   go_simp
   with_reducible rfl
  simp only [sA,sB,sC]
  refine tree_1Q (i:=3) (by kernel_rfl) ?_
  refine step_storeQ (w':=W.setRow w.heap.size #[.int .i64 0,.int .i64 0,.int .i64 0,.string ⟨#[]⟩,.slice none 0 0,.slice none 0 0,.int .i64 0,.string ⟨#[]⟩,.int .i64 0,.slice none 0 0]) (by rfl) (by rfl) (by rfl) ⟨store27 W _ _ _ HR.out rfl rfl (by kernel_rfl) _ _ _ _ rfl rfl rfl⟩ ?_ ?_
  ·exact has_row_other HA.out (by omega)
  replace HA:=am (has_row_other HA.out (g:=w.heap.size) (cs':=#[.int .i64 0,.int .i64 0,.int .i64 0,.string ⟨#[]⟩,.slice none 0 0,.slice none 0 0,.int .i64 0,.string ⟨#[]⟩,.int .i64 0,.slice none 0 0]) (by omega))
  replace HE:=am (has_row_other HE.out (g:=w.heap.size) (cs':=#[.int .i64 0,.int .i64 0,.int .i64 0,.string ⟨#[]⟩,.slice none 0 0,.slice none 0 0,.int .i64 0,.string ⟨#[]⟩,.int .i64 0,.slice none 0 0]) (by omega))
  replace HB:=am (below_rowX HB.out (Nat.le_refl _) #[.int .i64 0,.int .i64 0,.int .i64 0,.string ⟨#[]⟩,.slice none 0 0,.slice none 0 0,.int .i64 0,.string ⟨#[]⟩,.int .i64 0,.slice none 0 0])
  replace HR:=am (has_row HR.out #[.int .i64 0,.int .i64 0,.int .i64 0,.string ⟨#[]⟩,.slice none 0 0,.slice none 0 0,.int .i64 0,.string ⟨#[]⟩,.int .i64 0,.slice none 0 0])
  obtain ⟨W2,hW2⟩:∃ V,W.setRow w.heap.size #[.int .i64 0,.int .i64 0,.int .i64 0,.string ⟨#[]⟩,.slice none 0 0,.slice none 0 0,.int .i64 0,.string ⟨#[]⟩,.int .i64 0,.slice none 0 0] = V:=⟨_,rfl⟩
  rw [hW2] at HA HE HB HR ⊢
  clear hW2
  have ca:=hci HA.out 0 rfl
  have fa:=HA.out.frozen 0
  refine tree_1Q (i:=4) (by kernel_rfl) ?_
  refine step_list (by rfl) ?_
  go_wp2
  clear ca fa
  replace HE:=am (HE.out.other (a:=⟨w.heap.size + 1,0,none⟩) (by show _ ≠ w.heap.size + 1;omega) (.int .i64 (ea:Int)))
  replace HR:=am (HR.out.other (a:=⟨w.heap.size + 1,0,none⟩) (by show _ ≠ w.heap.size + 1;omega) (.int .i64 (ea:Int)))
  replace HB:=am (below_setX HB.out (a:=⟨w.heap.size + 1,0,none⟩) (by show w.heap.size <= w.heap.size + 1;omega) (.int .i64 (ea:Int)))
  have hx:Has (W2.setCell ⟨w.heap.size + 1,0,none⟩ (.int .i64 (ea:Int))) (w.heap.size + 1) #[.int .i64 (ea:Int)] 3:=HA.out.set_ 0 (.int .i64 (ea:Int))
  replace HA:=am hx
  clear hx
  refine ⟨HA.out, ?_⟩
  obtain ⟨W3,hW3⟩:∃ V,W2.setCell ⟨w.heap.size + 1,0,none⟩ (.int .i64 (ea:Int)) = V:=⟨_,rfl⟩
  rw [hW3] at HA HE HB HR ⊢
  clear hW3
  have ce:=hci HE.out 0 rfl
  have fe:=HE.out.frozen 0
  refine tree_1Q (i:=5) (by kernel_rfl) ?_
  refine step_list (by rfl) ?_
  go_wp2
  clear ce fe
  replace HA:=am (HA.out.other (a:=⟨w.heap.size + 2,0,none⟩) (by show _ ≠ w.heap.size + 2;omega) (.int .i64 ee))
  replace HR:=am (HR.out.other (a:=⟨w.heap.size + 2,0,none⟩) (by show _ ≠ w.heap.size + 2;omega) (.int .i64 ee))
  replace HB:=am (below_setX HB.out (a:=⟨w.heap.size + 2,0,none⟩) (by show w.heap.size <= w.heap.size + 2;omega) (.int .i64 ee))
  have hx:Has (W3.setCell ⟨w.heap.size + 2,0,none⟩ (.int .i64 ee)) (w.heap.size + 2) #[.int .i64 ee] 28:=HE.out.set_ 0 (.int .i64 ee)
  replace HE:=am hx
  clear hx
  refine ⟨HA.out,tree_endQ (by kernel_rfl) ?_⟩
  obtain ⟨W4,hW4⟩:∃ V,W3.setCell ⟨w.heap.size + 2,0,none⟩ (.int .i64 ee) = V:=⟨_,rfl⟩
  rw [hW4] at HA HE HB HR ⊢
  clear hW4
  rw [<- hQQ]
  clear hQQ hsure
  simp only [panQ]
  go_wp2
  refine ⟨_,tree_end _ (by rfl) (by rfl) (by rfl) HR.out HA.out HE.out,HB.out,_,Z0,(ea:Int),ee, ?_,rfl,Z_VE _ _⟩
  unfold treeX
  rw [HLX.out]
 | ok ts =>
  have HLX:=am hr
  clear hr
  have HTO:=tree_ok ((all_ok n).climb n (Nat.le_refl n))
  unfold TreeOK at HTO
  have HTO:=am HTO
  have hxo:∀ (h:treeP s.size n ts = .out),False:=fun h=>HNE.out (by unfold treeX;rw [HLX.out];dsimp only;rw [h])
  cases hr:climbP s.size n 0 true 1 ts with
  | out=>exact (hxo (by unfold treeP;rw [hr];rfl)).elim
  | bad a er =>
   have HC:=am hr
   have hx:treeX s n = some (Z0,a,er):=by unfold treeX treeP;rw [HLX.out];dsimp only;rw [hr];rfl
   have HX:=am hx
   clear hr hx hxo
   go_enter_defers Tryd.func8,Tryd.ntmps8
   go_wp2_with (first
     | (
      go_at_call 15
      (with_reducible refine Calls.mono (begin_said s _ HTT.out) ?_)
      rintro en w1 ⟨hb1,hq1⟩
      rw [HLX.out] at hq1
      obtain ⟨g,rfl,hg1,hp1⟩:=hq1
      rw [hz0] at hg1
      have HP:=am hp1
      replace HR:=am (HR.out.belowS hb1)
      replace HA:=am (HA.out.belowS hb1)
      replace HE:=am (HE.out.belowS hb1)
      replace HB:=am (below_then HB.out HB.out.size hb1)
      have hs1:=hb1.size
      rw [hz0] at hs1
      clear hb1
      have c2:=hci HA.out 0 rfl
      have f2:=Has.frozen HA.out 0)
     | (
      go_at_call 18
      clear c2 f2
      have hxx:=HA.out.set_ 0 (.int .i64 0)
      replace HB:=am (below_setX HB.out (a:=⟨w.heap.size + 1,0,none⟩) (by show w.heap.size <= w.heap.size + 1;omega) (.int .i64 0))
      replace HP:=am (PS.setT HP.out HA.out (by decide) (by decide) 0 (.int .i64 0))
      replace HR:=am (HR.out.other (a:=⟨w.heap.size + 1,0,none⟩) (by show _ ≠ w.heap.size + 1;omega) (.int .i64 0))
      replace HE:=am (HE.out.other (a:=⟨w.heap.size + 1,0,none⟩) (by show _ ≠ w.heap.size + 1;omega) (.int .i64 0))
      replace HA:Aside0 (Has (w1.setCell ⟨w.heap.size + 1,0,none⟩ (.int .i64 0)) (w.heap.size + 1) #[.int .i64 0] 3):=⟨hxx⟩
      clear hxx
      (with_reducible refine Calls.mono (HTO.out g s.size 0 true ts _ (by omega) (by omega) HP.out (by rw [HC.out];exact PR.bad_ne _ _)) ?_)
      rintro en w3 ⟨hk3,hq3⟩
      rw [HC.out] at hq3
      subst hq3
      replace HR:=am (Par.Kept.has hk3 HR.out (by omega))
      replace HA:=am (Par.Kept.has hk3 HA.out (by omega))
      replace HE:=am (Par.Kept.has hk3 HE.out (by omega))
      replace HB:=am (below_tr HB.out (Par.Kept.below_of hk3 (B:=w.heap.size) (fun b hb=>by omega) HB.out.size))
      have hs3:=Par.Kept.size hk3
      try simp at hs3))
   exact tree_stops _ (by rfl) (by rfl) (by rfl) HX.out HA.out HE.out HR.out rfl HB.out (by omega) (by omega) (Nat.le_refl _)
  | ok x l2 =>
   have HC:=am hr
   by_cases hk:kindP l2 = 0
   ·have hx:treeX s n = some (x,0,0):=by unfold treeX treeP;rw [HLX.out];dsimp only;rw [hr];simp only [PR.andThen];rw [if_pos hk]
    have HX:=am hx
    clear hr hx hxo
    obtain ⟨q,hq⟩:∃ q,kindP l2 = q:=⟨_,rfl⟩
    have HQ:=am hq
    rw [hq] at hk
    clear hq
    have kq:(q != 0) = false:=by simp [hk]
    go_enter_defers Tryd.func8,Tryd.ntmps8
    go_wp2_with (first
      | (
       go_at_call 15
       (with_reducible refine Calls.mono (begin_said s _ HTT.out) ?_)
       rintro en w1 ⟨hb1,hq1⟩
       rw [HLX.out] at hq1
       obtain ⟨g,rfl,hg1,hp1⟩:=hq1
       rw [hz0] at hg1
       have HP:=am hp1
       replace HR:=am (HR.out.belowS hb1)
       replace HA:=am (HA.out.belowS hb1)
       replace HE:=am (HE.out.belowS hb1)
       replace HB:=am (below_then HB.out HB.out.size hb1)
       have hs1:=hb1.size
       rw [hz0] at hs1
       clear hb1
       have c2:=hci HA.out 0 rfl
       have f2:=Has.frozen HA.out 0)
      | (
       go_at_call 18
       clear c2 f2
       have hxx:=HA.out.set_ 0 (.int .i64 0)
       replace HB:=am (below_setX HB.out (a:=⟨w.heap.size + 1,0,none⟩) (by show w.heap.size <= w.heap.size + 1;omega) (.int .i64 0))
       replace HP:=am (PS.setT HP.out HA.out (by decide) (by decide) 0 (.int .i64 0))
       replace HR:=am (HR.out.other (a:=⟨w.heap.size + 1,0,none⟩) (by show _ ≠ w.heap.size + 1;omega) (.int .i64 0))
       replace HE:=am (HE.out.other (a:=⟨w.heap.size + 1,0,none⟩) (by show _ ≠ w.heap.size + 1;omega) (.int .i64 0))
       replace HA:Aside0 (Has (w1.setCell ⟨w.heap.size + 1,0,none⟩ (.int .i64 0)) (w.heap.size + 1) #[.int .i64 0] 3):=⟨hxx⟩
       clear hxx
       (with_reducible refine Calls.mono (HTO.out g s.size 0 true ts _ (by omega) (by omega) HP.out (by rw [HC.out];exact PR.ok_ne _ _)) ?_)
       rintro en w3 ⟨hk3,hq3⟩
       rw [HC.out] at hq3
       obtain ⟨v3,rfl,hv3,hp3⟩:=hq3
       obtain ⟨a4,ac4,a5,ac5,a9,ac9,rfl⟩:=VO.form hv3
       have HV:=am hv3
       replace HR:=am (Par.Kept.has hk3 HR.out (by omega))
       replace HA:=am (Par.Kept.has hk3 HA.out (by omega))
       replace HE:=am (Par.Kept.has hk3 HE.out (by omega))
       replace HB:=am (below_tr HB.out (Par.Kept.below_of hk3 (B:=w.heap.size) (fun b hb=>by omega) HB.out.size))
       replace HP:=am hp3
       have hs3:=Par.Kept.size hk3
       try simp at hs3)
      | (
       (with_reducible refine gate_store (t:=27) (p:=2) rfl ?_)
       (refine store_event (t:=27) (p:=2) (v:=.tmp 20) (w1:=w3.setRow w.heap.size #[.int .i64 x.f0,.int .i64 x.f1,.int .i64 x.f2,.string x.f3,.slice a4 x.f4.length ac4,.slice a5 x.f5.length ac5,.int .i64 x.f6.f0,.string x.f6.f1,.int .i64 x.f6.f2,.slice a9 x.f6.f3.length ac9]) ?hg ?ho ?hn ?hr ?_;(case ho=>rfl);(case hg=>rfl);(case hn=>rfl);(case hr=>exact store27 w3 _ _ _ HR.out rfl rfl (by first | kernel_rfl | (simp [Value.oneCell'])) _ _ _ _ rfl rfl rfl);intro w77 hw77;subst hw77))
      | (
       go_at_call 19
       have HVL:Aside0 (VE (w.heap.size + 3) (w3.setRow w.heap.size #[.int .i64 x.f0,.int .i64 x.f1,.int .i64 x.f2,.string x.f3,.slice a4 x.f4.length ac4,.slice a5 x.f5.length ac5,.int .i64 x.f6.f0,.string x.f6.f1,.int .i64 x.f6.f2,.slice a9 x.f6.f3.length ac9]) (.agg #[.int .i64 x.f0,.int .i64 x.f1,.int .i64 x.f2,.string x.f3,.slice a4 x.f4.length ac4,.slice a5 x.f5.length ac5,.int .i64 x.f6.f0,.string x.f6.f1,.int .i64 x.f6.f2,.slice a9 x.f6.f3.length ac9]) x):=⟨VO.row (HV.out.lower (show w.heap.size + 3 <= _ by simp;omega)) (by omega) #[.int .i64 x.f0,.int .i64 x.f1,.int .i64 x.f2,.string x.f3,.slice a4 x.f4.length ac4,.slice a5 x.f5.length ac5,.int .i64 x.f6.f0,.string x.f6.f1,.int .i64 x.f6.f2,.slice a9 x.f6.f3.length ac9]⟩
       replace HV:Aside0 (VE w.heap.size (w3.setRow w.heap.size #[.int .i64 x.f0,.int .i64 x.f1,.int .i64 x.f2,.string x.f3,.slice a4 x.f4.length ac4,.slice a5 x.f5.length ac5,.int .i64 x.f6.f0,.string x.f6.f1,.int .i64 x.f6.f2,.slice a9 x.f6.f3.length ac9]) (.agg #[.int .i64 x.f0,.int .i64 x.f1,.int .i64 x.f2,.string x.f3,.slice a4 x.f4.length ac4,.slice a5 x.f5.length ac5,.int .i64 x.f6.f0,.string x.f6.f1,.int .i64 x.f6.f2,.slice a9 x.f6.f3.length ac9]) x):=⟨(VO.row (HV.out.lower (show w.heap.size + 1 <= _ by simp;omega)) (Nat.lt_succ_self _) #[.int .i64 x.f0,.int .i64 x.f1,.int .i64 x.f2,.string x.f3,.slice a4 x.f4.length ac4,.slice a5 x.f5.length ac5,.int .i64 x.f6.f0,.string x.f6.f1,.int .i64 x.f6.f2,.slice a9 x.f6.f3.length ac9]).lower (Nat.le_succ _)⟩
       replace HP:=am (PS.rowP HP.out HR.out #[.int .i64 x.f0,.int .i64 x.f1,.int .i64 x.f2,.string x.f3,.slice a4 x.f4.length ac4,.slice a5 x.f5.length ac5,.int .i64 x.f6.f0,.string x.f6.f1,.int .i64 x.f6.f2,.slice a9 x.f6.f3.length ac9])
       replace HA:=am (has_row_other HA.out (g:=w.heap.size) (cs':=#[.int .i64 x.f0,.int .i64 x.f1,.int .i64 x.f2,.string x.f3,.slice a4 x.f4.length ac4,.slice a5 x.f5.length ac5,.int .i64 x.f6.f0,.string x.f6.f1,.int .i64 x.f6.f2,.slice a9 x.f6.f3.length ac9]) (by omega))
       replace HE:=am (has_row_other HE.out (g:=w.heap.size) (cs':=#[.int .i64 x.f0,.int .i64 x.f1,.int .i64 x.f2,.string x.f3,.slice a4 x.f4.length ac4,.slice a5 x.f5.length ac5,.int .i64 x.f6.f0,.string x.f6.f1,.int .i64 x.f6.f2,.slice a9 x.f6.f3.length ac9]) (by omega))
       replace HB:=am (below_rowX HB.out (Nat.le_refl _) #[.int .i64 x.f0,.int .i64 x.f1,.int .i64 x.f2,.string x.f3,.slice a4 x.f4.length ac4,.slice a5 x.f5.length ac5,.int .i64 x.f6.f0,.string x.f6.f1,.int .i64 x.f6.f2,.slice a9 x.f6.f3.length ac9])
       replace HR:=am (has_row HR.out #[.int .i64 x.f0,.int .i64 x.f1,.int .i64 x.f2,.string x.f3,.slice a4 x.f4.length ac4,.slice a5 x.f5.length ac5,.int .i64 x.f6.f0,.string x.f6.f1,.int .i64 x.f6.f2,.slice a9 x.f6.f3.length ac9])
       (with_reducible refine Calls.mono (kind_ps HP.out) ?_)
       rintro en w4 ⟨he4,hb4⟩
       rw [HQ.out] at he4
       subst he4
       replace HR:=am (HR.out.belowS hb4)
       replace HA:=am (HA.out.belowS hb4)
       replace HE:=am (HE.out.belowS hb4)
       replace HP:=am (HP.out.below hb4)
       replace HV:=am (HV.out.below hb4)
       replace HB:=am (below_then HB.out HB.out.size hb4)
       have hbb:=am hb4)
      | (
       (with_reducible refine gate_dst (N:=26) rfl ?_)
       go_must (refine Kd.event_run rfl (load27 w4 w.heap.size #[.int .i64 x.f0,.int .i64 x.f1,.int .i64 x.f2,.string x.f3,.slice a4 x.f4.length ac4,.slice a5 x.f5.length ac5,.int .i64 x.f6.f0,.string x.f6.f1,.int .i64 x.f6.f2,.slice a9 x.f6.f3.length ac9] HR.out rfl _ _ _ rfl rfl) ?_))
      | (
       (with_reducible refine gate_store (t:=27) (p:=2) rfl ?_)
       (refine store_event (t:=27) (p:=2) (v:=.tmp 26) (w1:=(w4.setRow w.heap.size #[.int .i64 x.f0,.int .i64 x.f1,.int .i64 x.f2,.string x.f3,.slice a4 x.f4.length ac4,.slice a5 x.f5.length ac5,.int .i64 x.f6.f0,.string x.f6.f1,.int .i64 x.f6.f2,.slice a9 x.f6.f3.length ac9])) ?hg ?ho ?hn ?hr ?_;(case ho=>rfl);(case hg=>rfl);(case hn=>rfl);(case hr=>exact store27 w4 _ _ _ HR.out rfl rfl (by first | kernel_rfl | (simp [Value.oneCell'])) _ _ _ _ rfl rfl rfl);intro w77 hw77;subst hw77)
       have HV3:Aside0 (VE (w.heap.size + 3) (w4.setRow w.heap.size #[.int .i64 x.f0,.int .i64 x.f1,.int .i64 x.f2,.string x.f3,.slice a4 x.f4.length ac4,.slice a5 x.f5.length ac5,.int .i64 x.f6.f0,.string x.f6.f1,.int .i64 x.f6.f2,.slice a9 x.f6.f3.length ac9]) (.agg #[.int .i64 x.f0,.int .i64 x.f1,.int .i64 x.f2,.string x.f3,.slice a4 x.f4.length ac4,.slice a5 x.f5.length ac5,.int .i64 x.f6.f0,.string x.f6.f1,.int .i64 x.f6.f2,.slice a9 x.f6.f3.length ac9]) x):=⟨VO.row (HVL.out.below hbb.out) (by omega) #[.int .i64 x.f0,.int .i64 x.f1,.int .i64 x.f2,.string x.f3,.slice a4 x.f4.length ac4,.slice a5 x.f5.length ac5,.int .i64 x.f6.f0,.string x.f6.f1,.int .i64 x.f6.f2,.slice a9 x.f6.f3.length ac9]⟩
       replace HA:=am (has_row_other HA.out (g:=w.heap.size) (cs':=#[.int .i64 x.f0,.int .i64 x.f1,.int .i64 x.f2,.string x.f3,.slice a4 x.f4.length ac4,.slice a5 x.f5.length ac5,.int .i64 x.f6.f0,.string x.f6.f1,.int .i64 x.f6.f2,.slice a9 x.f6.f3.length ac9]) (by omega))
       replace HE:=am (has_row_other HE.out (g:=w.heap.size) (cs':=#[.int .i64 x.f0,.int .i64 x.f1,.int .i64 x.f2,.string x.f3,.slice a4 x.f4.length ac4,.slice a5 x.f5.length ac5,.int .i64 x.f6.f0,.string x.f6.f1,.int .i64 x.f6.f2,.slice a9 x.f6.f3.length ac9]) (by omega))
       replace HB:=am (below_rowX HB.out (Nat.le_refl _) #[.int .i64 x.f0,.int .i64 x.f1,.int .i64 x.f2,.string x.f3,.slice a4 x.f4.length ac4,.slice a5 x.f5.length ac5,.int .i64 x.f6.f0,.string x.f6.f1,.int .i64 x.f6.f2,.slice a9 x.f6.f3.length ac9])
       replace HR:=am (has_row HR.out #[.int .i64 x.f0,.int .i64 x.f1,.int .i64 x.f2,.string x.f3,.slice a4 x.f4.length ac4,.slice a5 x.f5.length ac5,.int .i64 x.f6.f0,.string x.f6.f1,.int .i64 x.f6.f2,.slice a9 x.f6.f3.length ac9])
       have ca:=hci HA.out 0 rfl
       have fa:=HA.out.frozen 0
       have he2:=HE.out.other (a:=⟨w.heap.size + 1,0,none⟩) (by show _ ≠ w.heap.size + 1;omega) (.int .i64 0)
       have ce:=hci he2 0 rfl
       have fe:=he2.frozen 0
       clear he2))
    have hA1:=HA.out.set_ 0 (.int .i64 0)
    have hA2:=hA1.other (a:=⟨w.heap.size + 2,0,none⟩) (by show _ ≠ w.heap.size + 2;omega) (.int .i64 0)
    have hE1:=(HE.out.other (a:=⟨w.heap.size + 1,0,none⟩) (by show _ ≠ w.heap.size + 1;omega) (.int .i64 0)).set_ 0 (.int .i64 0)
    have hR2:=(HR.out.other (a:=⟨w.heap.size + 1,0,none⟩) (by show _ ≠ w.heap.size + 1;omega) (.int .i64 0)).other (a:=⟨w.heap.size + 2,0,none⟩) (by show _ ≠ w.heap.size + 2;omega) (.int .i64 0)
    skip
    exact tree_idles _ (by rfl) (by rfl) (by rfl) HX.out hA2 hE1 hR2 (below_setX (below_setX HB.out (by show w.heap.size <= w.heap.size + 1;omega) _) (by show w.heap.size <= w.heap.size + 2;omega) _) (((VO.setO (VO.setO HV3.out (a:=⟨w.heap.size + 1,0,none⟩) (fun k h1 h2=>by show k ≠ w.heap.size + 1;omega) _) (a:=⟨w.heap.size + 2,0,none⟩) (fun k h1 h2=>by show k ≠ w.heap.size + 2;omega) _)).lower (by omega))
   ·have hx:treeX s n = some (Z0,atP s.size l2,30):=by unfold treeX treeP;rw [HLX.out];dsimp only;rw [hr];simp only [PR.andThen];rw [if_neg hk]
    have HX:=am hx
    clear hr hx hxo
    obtain ⟨q,hq⟩:∃ q,kindP l2 = q:=⟨_,rfl⟩
    have HQ:=am hq
    rw [hq] at hk
    clear hq
    have kq:(q != 0) = true:=by simp [hk]
    go_enter_defers Tryd.func8,Tryd.ntmps8
    go_wp2_with (first
      | (
       go_at_call 15
       (with_reducible refine Calls.mono (begin_said s _ HTT.out) ?_)
       rintro en w1 ⟨hb1,hq1⟩
       rw [HLX.out] at hq1
       obtain ⟨g,rfl,hg1,hp1⟩:=hq1
       rw [hz0] at hg1
       have HP:=am hp1
       replace HR:=am (HR.out.belowS hb1)
       replace HA:=am (HA.out.belowS hb1)
       replace HE:=am (HE.out.belowS hb1)
       replace HB:=am (below_then HB.out HB.out.size hb1)
       have hs1:=hb1.size
       rw [hz0] at hs1
       clear hb1
       have c2:=hci HA.out 0 rfl
       have f2:=Has.frozen HA.out 0)
      | (
       go_at_call 18
       clear c2 f2
       have hxx:=HA.out.set_ 0 (.int .i64 0)
       replace HB:=am (below_setX HB.out (a:=⟨w.heap.size + 1,0,none⟩) (by show w.heap.size <= w.heap.size + 1;omega) (.int .i64 0))
       replace HP:=am (PS.setT HP.out HA.out (by decide) (by decide) 0 (.int .i64 0))
       replace HR:=am (HR.out.other (a:=⟨w.heap.size + 1,0,none⟩) (by show _ ≠ w.heap.size + 1;omega) (.int .i64 0))
       replace HE:=am (HE.out.other (a:=⟨w.heap.size + 1,0,none⟩) (by show _ ≠ w.heap.size + 1;omega) (.int .i64 0))
       replace HA:Aside0 (Has (w1.setCell ⟨w.heap.size + 1,0,none⟩ (.int .i64 0)) (w.heap.size + 1) #[.int .i64 0] 3):=⟨hxx⟩
       clear hxx
       (with_reducible refine Calls.mono (HTO.out g s.size 0 true ts _ (by omega) (by omega) HP.out (by rw [HC.out];exact PR.ok_ne _ _)) ?_)
       rintro en w3 ⟨hk3,hq3⟩
       rw [HC.out] at hq3
       obtain ⟨v3,rfl,hv3,hp3⟩:=hq3
       obtain ⟨a4,ac4,a5,ac5,a9,ac9,rfl⟩:=VO.form hv3
       have HV:=am hv3
       replace HR:=am (Par.Kept.has hk3 HR.out (by omega))
       replace HA:=am (Par.Kept.has hk3 HA.out (by omega))
       replace HE:=am (Par.Kept.has hk3 HE.out (by omega))
       replace HB:=am (below_tr HB.out (Par.Kept.below_of hk3 (B:=w.heap.size) (fun b hb=>by omega) HB.out.size))
       replace HP:=am hp3
       have hs3:=Par.Kept.size hk3
       try simp at hs3)
      | (
       (with_reducible refine gate_store (t:=27) (p:=2) rfl ?_)
       go_must (refine store_event (t:=27) (p:=2) (v:=.tmp 20) (w1:=w3.setRow w.heap.size #[.int .i64 x.f0,.int .i64 x.f1,.int .i64 x.f2,.string x.f3,.slice a4 x.f4.length ac4,.slice a5 x.f5.length ac5,.int .i64 x.f6.f0,.string x.f6.f1,.int .i64 x.f6.f2,.slice a9 x.f6.f3.length ac9]) ?hg ?ho ?hn ?hr ?_;(case ho=>rfl);(case hg=>rfl);(case hn=>rfl);(case hr=>exact store27 w3 _ _ _ HR.out rfl rfl (by first | kernel_rfl | (simp [Value.oneCell'])) _ _ _ _ rfl rfl rfl);intro w77 hw77;subst hw77))
      | (
       go_at_call 19
       replace HV:Aside0 (VE w.heap.size (w3.setRow w.heap.size #[.int .i64 x.f0,.int .i64 x.f1,.int .i64 x.f2,.string x.f3,.slice a4 x.f4.length ac4,.slice a5 x.f5.length ac5,.int .i64 x.f6.f0,.string x.f6.f1,.int .i64 x.f6.f2,.slice a9 x.f6.f3.length ac9]) (.agg #[.int .i64 x.f0,.int .i64 x.f1,.int .i64 x.f2,.string x.f3,.slice a4 x.f4.length ac4,.slice a5 x.f5.length ac5,.int .i64 x.f6.f0,.string x.f6.f1,.int .i64 x.f6.f2,.slice a9 x.f6.f3.length ac9]) x):=⟨(VO.row (HV.out.lower (show w.heap.size + 1 <= _ by simp;omega)) (Nat.lt_succ_self _) #[.int .i64 x.f0,.int .i64 x.f1,.int .i64 x.f2,.string x.f3,.slice a4 x.f4.length ac4,.slice a5 x.f5.length ac5,.int .i64 x.f6.f0,.string x.f6.f1,.int .i64 x.f6.f2,.slice a9 x.f6.f3.length ac9]).lower (Nat.le_succ _)⟩
       replace HP:=am (PS.rowP HP.out HR.out #[.int .i64 x.f0,.int .i64 x.f1,.int .i64 x.f2,.string x.f3,.slice a4 x.f4.length ac4,.slice a5 x.f5.length ac5,.int .i64 x.f6.f0,.string x.f6.f1,.int .i64 x.f6.f2,.slice a9 x.f6.f3.length ac9])
       replace HA:=am (has_row_other HA.out (g:=w.heap.size) (cs':=#[.int .i64 x.f0,.int .i64 x.f1,.int .i64 x.f2,.string x.f3,.slice a4 x.f4.length ac4,.slice a5 x.f5.length ac5,.int .i64 x.f6.f0,.string x.f6.f1,.int .i64 x.f6.f2,.slice a9 x.f6.f3.length ac9]) (by omega))
       replace HE:=am (has_row_other HE.out (g:=w.heap.size) (cs':=#[.int .i64 x.f0,.int .i64 x.f1,.int .i64 x.f2,.string x.f3,.slice a4 x.f4.length ac4,.slice a5 x.f5.length ac5,.int .i64 x.f6.f0,.string x.f6.f1,.int .i64 x.f6.f2,.slice a9 x.f6.f3.length ac9]) (by omega))
       replace HB:=am (below_rowX HB.out (Nat.le_refl _) #[.int .i64 x.f0,.int .i64 x.f1,.int .i64 x.f2,.string x.f3,.slice a4 x.f4.length ac4,.slice a5 x.f5.length ac5,.int .i64 x.f6.f0,.string x.f6.f1,.int .i64 x.f6.f2,.slice a9 x.f6.f3.length ac9])
       replace HR:=am (has_row HR.out #[.int .i64 x.f0,.int .i64 x.f1,.int .i64 x.f2,.string x.f3,.slice a4 x.f4.length ac4,.slice a5 x.f5.length ac5,.int .i64 x.f6.f0,.string x.f6.f1,.int .i64 x.f6.f2,.slice a9 x.f6.f3.length ac9])
       (with_reducible refine Calls.mono (kind_ps HP.out) ?_)
       rintro en w4 ⟨he4,hb4⟩
       rw [HQ.out] at he4
       subst he4
       replace HR:=am (HR.out.belowS hb4)
       replace HA:=am (HA.out.belowS hb4)
       replace HE:=am (HE.out.belowS hb4)
       replace HP:=am (HP.out.below hb4)
       replace HV:=am (HV.out.below hb4)
       replace HB:=am (below_then HB.out HB.out.size hb4))
      | (
       go_at_call 20
       (with_reducible refine Calls.mono (fail_ps 30 HP.out) ?_)
       rintro en w5 ⟨rfl,hb5⟩
       replace HR:=am (HR.out.belowS hb5)
       replace HA:=am (HA.out.belowS hb5)
       replace HE:=am (HE.out.belowS hb5)
       replace HB:=am (below_then HB.out HB.out.size hb5)))
    exact tree_stops _ (by rfl) (by rfl) (by rfl) HX.out HA.out HE.out HR.out rfl HB.out (by omega) (by omega) (Nat.le_refl _)
end Go.Proofs.YtngpgdmafmkddaaDoor.Tre
end
section
namespace Go.Proofs.YtngpgdmafmkddaaDoor.Par
open Go.RowKit Go.Proofs.YtngpgdmafmkddaaDoorW.PrintWords Go.Proofs.YtngpgdmafmkddaaDoorW.PrintLast Go.Proofs.YtngpgdmafmkddaaDoorW.PrintMore
open Go.Proofs.YtngpgdmafmkddaaDoor.PParseBlanks (S35 S25 S27 k35 k25 k27 rd_T35 rd_T25 rd_T27 at_T35 at_T25 at_T27)
set_option linter.unusedVariables false
set_option linter.unusedSimpArgs false
def Stands (S:ByteArray) (a:Int) (x:ByteArray):Prop := ∃ p q:List UInt8,S.data.toList = p ++ (x.data.toList ++ q) /\ a = (p.length:Int) /\ x.data.toList ≠ []
def InT (S:ByteArray) (a:Int):Prop:=0 <= a /\ a < (S.size:Int)
theorem Stands.size {S x:ByteArray} {a:Int} (h:Stands S a x):0 <= a /\ a + (x.size:Int) <= (S.size:Int) /\ 0 < x.size:=by
 obtain ⟨p,q,h1,h2,h3⟩:=h
 have e:=congrArg List.length h1
 simp only [List.length_append,Array.length_toList] at e
 have h4:0 < x.data.toList.length:=List.length_pos_iff.2 h3
 rw [Array.length_toList] at h4
 show 0 <= a /\ a + (x.data.size:Int) <= (S.data.size:Int) /\ 0 < x.data.size
 omega
theorem Stands.inT {S x:ByteArray} {a:Int} (h:Stands S a x):InT S a:=by
 have:=h.size
 exact ⟨by omega,by omega⟩
def nam (k:Int):Bool:=k == 4 || k == 11 || k == 15 || k == 14 || k == 9
inductive TyS:S25 -> Prop
 | mk (t:S25) (hl:t.f3.length <= 1) (hk:∀ (i:Nat) (u:S25),t.f3[i]? = some u -> TyS u):TyS t
def TyL (l:List S25):Prop:=l.length <= 1 /\ ∀ (i:Nat) (u:S25),l[i]? = some u -> TyS u
theorem TyL.nil:TyL []:=⟨by simp,fun i u h=>by simp at h⟩
theorem TyL.one {t:S25} (h:TyS t):TyL [t]:=⟨by simp,fun i u hu=>by
 cases i with
 | zero =>
  simp at hu
  subst hu
  exact h
 | succ i=>simp at hu⟩
theorem TyS.leaf (k n:Int) (s:ByteArray):TyS ⟨k,s,n,[]⟩:=TyS.mk _ (by simp) TyL.nil.2
theorem TyS.node {t:S25} (h:TyS t) (k n:Int) (s:ByteArray):TyS ⟨k,s,n,[t]⟩:=TyS.mk _ (by simp) (TyL.one h).2
inductive Tr (S S' : ByteArray):S27 -> S27 -> Prop
 | mk (x y:S27) (h0:x.f0 = y.f0) (h2:x.f2 = y.f2) (h3:x.f3 = y.f3) (h5:x.f5 = y.f5) (h6:x.f6 = y.f6) (ha:InT S x.f1) (hb:InT S' y.f1) (hn:nam x.f0 = true -> Stands S x.f1 x.f3 /\ Stands S' y.f1 y.f3)
  (hl:x.f4.length = y.f4.length) (hz:x.f4.length <= 1000000) (hy:TyL x.f5) (h7:x.f6.f3 = []) (hk:∀ (i:Nat) (u v:S27),x.f4[i]? = some u -> y.f4[i]? = some v -> Tr S S' u v):Tr S S' x y
def TrL (S S' : ByteArray) (xs ys:List S27):Prop:=xs.length = ys.length /\ xs.length <= 1000000 /\ ∀ (i:Nat) (u v:S27),xs[i]? = some u -> ys[i]? = some v -> Tr S S' u v
section
variable {S S' : ByteArray}
def TrZ (S S' : ByteArray) (xs ys:List S27):Prop:=TrL S S' xs ys /\ xs.length < 1000000
theorem TrL.nil:TrL S S' [] []:=⟨rfl,by simp,fun i u v h=>by simp at h⟩
theorem TrL.snoc {xs ys:List S27} {x y:S27} (h:TrL S S' xs ys) (k:Tr S S' x y) (hz:xs.length < 1000000):TrL S S' (xs ++ [x]) (ys ++ [y]):=by
 obtain ⟨hl, -,hk⟩:=h
 refine ⟨by simp [hl],by simp;omega,fun i u v hu hv => ?_⟩
 by_cases hi:i < xs.length
 ·rw [List.getElem?_append_left hi] at hu
  rw [List.getElem?_append_left (by omega)] at hv
  exact hk i u v hu hv
 ·rw [List.getElem?_append_right (by omega)] at hu
  rw [List.getElem?_append_right (by omega)] at hv
  have e:i - xs.length = 0:=by
   by_cases e:i - xs.length = 0
   ·exact e
   ·obtain ⟨m,hm⟩:=Nat.exists_eq_succ_of_ne_zero e
    rw [hm] at hu
    simp at hu
  rw [e] at hu
  rw [<- hl,e] at hv
  simp at hu hv
  subst hu hv
  exact k
theorem TrL.cons {xs ys:List S27} {x y:S27} (h:TrL S S' xs ys) (k:Tr S S' x y) (hz:xs.length < 1000000):TrL S S' (x :: xs) (y :: ys):=by
 obtain ⟨hl, -,hk⟩:=h
 refine ⟨by simp [hl],by simp;omega,fun i u v hu hv => ?_⟩
 cases i with
 | zero =>
  simp at hu hv
  subst hu hv
  exact k
 | succ i =>
  simp at hu hv
  exact hk i u v hu hv
theorem TrL.one {x y:S27} (k:Tr S S' x y):TrL S S' [x] [y]:=TrL.nil.cons k (by decide)
theorem TrL.two {x y u v:S27} (k:Tr S S' x y) (j:Tr S S' u v):TrL S S' [x,u] [y,v]:=(TrL.one j).cons k (by simp)
theorem TrL.three {x y u v p q:S27} (k:Tr S S' x y) (j:Tr S S' u v) (i:Tr S S' p q):TrL S S' [x,u,p] [y,v,q]:=(TrL.two j i).cons k (by simp)
theorem Tr.node {k n:Int} {a b:Int} {s:ByteArray} {xs ys:List S27} {ty:List S25} (ha:InT S a) (hb:InT S' b) (hn:nam k = true -> Stands S a s /\ Stands S' b s) (h:TrL S S' xs ys) (hy:TyL ty:=by exact TyL.nil):Tr S S' (mkE k a n s xs ty) (mkE k b n s ys ty):=
 Tr.mk _ _ rfl rfl rfl rfl rfl ha hb hn h.1 h.2.1 hy rfl h.2.2
inductive Sim (S S' : ByteArray):List S35 -> List S35 -> Prop
 | nil:Sim S S' [] []
 | cons (t u:S35) (r q:List S35) (h0:t.f0 = u.f0) (h1:t.f1 = u.f1) (hs:Stands S t.f2 t.f1) (ht:Stands S' u.f2 u.f1) (h:Sim S S' r q):Sim S S' (t :: r) (u :: q)
variable {l l' : List S35}
theorem Sim.isP (h:Sim S S' l l') (s:ByteArray):isP s l' = isP s l:=by
 cases h with
 | nil=>rfl
 | cons t u r q h0 h1=>simp only [Par.isP,h0,h1]
theorem Sim.kind (h:Sim S S' l l'):kindP l' = kindP l:=by
 cases h with
 | nil=>rfl
 | cons t u r q h0 h1=>exact h0.symm
theorem Sim.one (h:Sim S S' l l') (ss:List ByteArray):oneP ss l' = oneP ss l:=by
 simp only [oneP,h.isP]
theorem Sim.rank (h:Sim S S' l l'):rankP l' = rankP l:=by
 cases h with
 | nil=>rfl
 | cons t u r q h0 h1=>simp only [rankP,h0,h1]
theorem Sim.tl (h:Sim S S' l l'):Sim S S' l.tail l'.tail:=by
 cases h with
 | nil=>exact .nil
 | cons t u r q h0 h1 hs ht h=>exact h
theorem Sim.tail_lt {s:ByteArray} (hi:Par.isP s l = true):l.tail.length + 1 = l.length:=by
 cases l with
 | nil=>cases hi
 | cons t r=>rfl
theorem Sim.at_ (h:Sim S S' l l') (hl:0 < l.length) (e e' : Int):InT S (atP e l) /\ InT S' (atP e' l'):=by
 cases h with
 | nil=>cases hl
 | cons t u r q h0 h1 hs ht h=>exact ⟨hs.inT,ht.inT⟩
def GR {α:Type} (S S' : ByteArray) (P:α -> α -> Prop) (m:Nat):PR α -> PR α -> Prop
 | .ok x l,.ok y l' => P x y /\ Sim S S' l l' /\ l.length < m
 | .bad _ e,.bad _ e' => e = e' /\ e ≠ 0
 | _,_=>False
theorem GR.bad {α:Type} {P:α -> α -> Prop} {m:Nat} (a b e:Int) (h:e ≠ 0:=by decide):GR S S' P m (.bad a e) (.bad b e):=⟨rfl,h⟩
theorem GR.ok {α:Type} {P:α -> α -> Prop} {m:Nat} {x y:α} (h:P x y) (hs:Sim S S' l l') (hl:l.length < m):GR S S' P m (.ok x l) (.ok y l'):=⟨h,hs,hl⟩
theorem GR.mono {α:Type} {P:α -> α -> Prop} {m k:Nat} {r r' : PR α} (h:GR S S' P m r r') (hm:m <= k):GR S S' P k r r':=by
 cases r <;> cases r' <;> first | exact h.elim | exact h | exact ⟨h.1,h.2.1,Nat.lt_of_lt_of_le h.2.2 hm⟩
theorem GR.then {α β:Type} {P:α -> α -> Prop} {Q:β -> β -> Prop} {m k:Nat} {r r' : PR α} {f f' : α -> List S35 -> PR β} (h:GR S S' P m r r') (hf:∀ x y l l',P x y -> Sim S S' l l' -> l.length < m -> GR S S' Q k (f x l) (f' y l')):GR S S' Q k (r.andThen f) (r'.andThen f'):=by
 cases r <;> cases r' <;> first | exact h.elim | exact h | exact hf _ _ _ _ h.1 h.2.1 h.2.2
theorem GR.ite {α:Type} {P:α -> α -> Prop} {m:Nat} {c c' : Prop} [Decidable c] [Decidable c'] {a b a' b' : PR α} (hc:c' ↔ c) (h1:c -> GR S S' P m a a') (h2 : ¬ c -> GR S S' P m b b'):GR S S' P m (if c then a else b) (if c' then a' else b'):=by
 by_cases h:c
 ·rw [if_pos h,if_pos (hc.2 h)];exact h1 h
 ·rw [if_neg h,if_neg (fun k=>h (hc.1 k))];exact h2 h
theorem GR.isP {α:Type} {P:α -> α -> Prop} {m:Nat} {s:ByteArray} {a b a' b' : PR α} (h:Sim S S' l l') (h1:Par.isP s l = true -> Sim S S' l.tail l'.tail -> l.tail.length + 1 = l.length -> GR S S' P m a a') (h2:Par.isP s l = false -> GR S S' P m b b'):GR S S' P m (if Par.isP s l = true then a else b) (if Par.isP s l' = true then a' else b'):=
 GR.ite (by rw [h.isP]) (fun hi=>h1 hi h.tl (Sim.tail_lt hi)) (fun hi=>h2 (by simpa using hi))
theorem needG (h:Sim S S' l l') (e e' : Int) (s:ByteArray):GR S S' (fun _ _=>True) l.length (needP e s l) (needP e' s l'):=by
 unfold needP
 exact GR.isP h (fun _ h1 h2=>GR.ok trivial h1 (by omega)) (fun _=>GR.bad _ _ _)
theorem nameG (hS:S.size <= 65536) (h:Sim S S' l l') (e e' : Int):GR S S' (fun s s' => s = s' /\ Stands S (atP e l) s /\ Stands S' (atP e' l') s /\ s.size <= 65536) l.length (nameP e l) (nameP e' l'):=by
 cases h with
 | nil=>exact GR.bad _ _ _
 | cons t u r q h0 h1 hs ht h =>
  simp only [nameP]
  refine GR.ite (by rw [h0]) (fun _=>GR.ok ⟨h1,hs,h1 ▸ ht, ?_⟩ h (Nat.lt_succ_self _)) (fun _=>GR.bad _ _ _)
  have:=hs.size
  omega
theorem Sim.small (hS:S.size <= 65536) {t u:S35} {r q:List S35} (h:Sim S S' (t :: r) (u :: q)):t.f1.size < 4611686018427387904 /\ u.f1.size < 4611686018427387904 /\ t.f0 = u.f0 /\ t.f1 = u.f1 /\ Sim S S' r q:=by
 cases h with
 | cons _ _ _ _ h0 h1 hs ht h =>
  have:=hs.size
  exact ⟨by omega,by rw [<- h1];omega,h0,h1,h⟩
theorem numberG (hS:S.size <= 65536) (h:Sim S S' l l') (e e' : Int):GR S S' (fun s s' => s = s') l.length (numberP e l) (numberP e' l'):=by
 cases h with
 | nil=>exact GR.bad _ _ _
 | cons t u r q h0 h1 hs ht h =>
  obtain ⟨z1,z2, -, -, -⟩:=Sim.small hS (Sim.cons t u r q h0 h1 hs ht h)
  simp only [numberP]
  refine GR.ite (by rw [h0]) (fun _ => ?_) (fun _=>GR.bad _ _ _)
  rw [if_pos z1,if_pos z2]
  exact GR.ok (by rw [h1]) h (Nat.lt_succ_self _)
theorem plainG (hS:S.size <= 65536) (h:Sim S S' l l') (e e' : Int):GR S S' (fun s s' => s = s') l.length (plainP e l) (plainP e' l'):=by
 cases h with
 | nil=>exact GR.bad _ _ _
 | cons t u r q h0 h1 hs ht h =>
  obtain ⟨z1,z2, -, -, -⟩:=Sim.small hS (Sim.cons t u r q h0 h1 hs ht h)
  simp only [plainP]
  refine GR.ite (by rw [h0]) (fun _ => ?_) (fun _=>GR.bad _ _ _)
  rw [if_pos z1,if_pos z2]
  exact GR.ite (by rw [h1]) (fun _=>GR.ok (by rw [h1]) h (Nat.lt_succ_self _)) (fun _=>GR.bad _ _ _)
theorem countG (hS:S.size <= 65536) (h:Sim S S' l l') (e e' : Int):GR S S' (fun s s' => s = s') l.length (countP e l) (countP e' l'):=by
 have hp:=plainG hS h e e'
 cases h with
 | nil=>exact GR.bad _ _ _
 | cons t u r q h0 h1 hs ht h =>
  obtain ⟨z1,z2, -, -, -⟩:=Sim.small hS (Sim.cons t u r q h0 h1 hs ht h)
  simp only [countP]
  refine GR.ite (by rw [h0]) (fun _ => ?_) (fun _=>GR.bad _ _ _)
  rw [if_pos z1,if_pos z2]
  exact GR.ite (by rw [h1]) (fun _=>GR.bad _ _ _) (fun _=>hp)
theorem Stands.second {x:ByteArray} {a:Int} (h:Stands S a x) (hx:x.toList = sShr.toList):Stands S (a + 1) sGt:=by
 obtain ⟨p,q,h1,h2,h3⟩:=h
 have hx2:x.data.toList = [62,62]:=by
  rw [ByteArray.toList_eq,ByteArray.toList_eq] at hx
  simpa using hx
 refine ⟨p ++ [62],q, ?_, ?_,by decide⟩
 ·rw [h1,hx2];simp
 ·simp [h2]
theorem closeG (hS:S.size <= 65536) (hS' : S'.size <= 65536) (h:Sim S S' l l') (hl:l.length <= 65536) (e e' : Int):GR S S' (fun _ _=>True) (l.length + 1) (closeP e l) (closeP e' l'):=by
 cases h with
 | nil=>exact GR.bad _ _ _
 | cons t u r q h0 h1 hs ht h =>
  have hl2:q.length = r.length:=by
   clear hs ht hl
   induction h with
   | nil=>rfl
   | cons=>simp_all
  simp only [closeP]
  refine GR.ite (by rw [(Sim.cons t u r q h0 h1 hs ht h).isP]) (fun hi => ?_) (fun _=>(needG (Sim.cons t u r q h0 h1 hs ht h) e e' sGt).mono (Nat.le_succ _))
  have k1:=hs.size
  have k2:=ht.size
  simp only [List.length_cons] at hl
  rw [if_pos ⟨k1.1,by omega,by simp only [List.length_cons];omega⟩,if_pos ⟨k2.1,by omega,by simp only [List.length_cons];omega⟩]
  have hx:t.f1.toList = sShr.toList:=by
   simp only [Par.isP,Bool.and_eq_true,beq_iff_eq] at hi
   exact hi.2
  exact GR.ok trivial (Sim.cons _ _ _ _ h0 rfl (hs.second hx) (ht.second (h1 ▸ hx)) h) (by simp)
theorem listG {stop:ByteArray} {e e' : Int} {rd rd' : List S27 -> List S35 -> PR (List S27)} (L:Nat)
  (hrd:∀ xs ys l l',TrL S S' xs ys -> xs.length < 1000000 -> Sim S S' l l' -> l.length <= L -> GR S S' (fun xs2 ys2=>TrL S S' xs2 ys2 /\ xs2.length = xs.length + 1) l.length (rd xs l) (rd' ys l')) :
  ∀ (n:Nat) (xs ys:List S27) (l l' : List S35),TrL S S' xs ys -> Sim S S' l l' -> l.length < n -> l.length <= L -> xs.length + l.length < 1000000 -> GR S S' (TrZ S S') l.length (listP e stop rd n xs l) (listP e' stop rd' n ys l')
 | 0,_,_,_,_,_,_,hn,_,_=>by omega
 | n + 1,xs,ys,l,l',hx,h,hn,hL,hz=>by
  simp only [listP]
  refine GR.isP h (fun hi h1 h2=>GR.ok ⟨hx,by omega⟩ h1 (by omega)) (fun hi => ?_)
  have hr:=hrd xs ys l l' hx (by omega) h hL
  cases e1:rd xs l with
  | out=>rw [e1] at hr;cases e2:rd' ys l' <;> rw [e2] at hr <;> exact hr.elim
  | bad a er=>rw [e1] at hr;cases e2:rd' ys l' <;> rw [e2] at hr <;> first | exact hr.elim | exact hr
  | ok x l1 =>
   rw [e1] at hr
   cases e2:rd' ys l' with
   | out=>rw [e2] at hr;exact hr.elim
   | bad a er=>rw [e2] at hr;exact hr.elim
   | ok y l1' =>
    rw [e2] at hr
    obtain ⟨⟨hx1,hx2⟩,h1,h2⟩:=hr
    show GR S S' (TrZ S S') l.length (if Par.isP stop l1 = true then listP e stop rd n x l1 else if Par.isP sComma l1 = true then listP e stop rd n x l1.tail else .bad (atP e l1) 30) (if Par.isP stop l1' = true then listP e' stop rd' n y l1' else if Par.isP sComma l1' = true then listP e' stop rd' n y l1'.tail else .bad (atP e' l1') 30)
    refine GR.isP h1 (fun hj h3 h4 => ?_) (fun hj=>GR.isP h1 (fun hk h3 h4 => ?_) (fun hk=>GR.bad _ _ _))
    ·exact (listG L hrd n x y l1 l1' hx1 h1 (by omega) (by omega) (by omega)).mono (by omega)
    ·exact (listG L hrd n x y l1.tail l1'.tail hx1 h3 (by omega) (by omega) (by omega)).mono (by omega)
theorem typG (hS:S.size <= 65536) (hS' : S'.size <= 65536) (e e' : Int):∀ (n:Nat) (d:Int) (l l' : List S35),Sim S S' l l' -> l.length < n -> l.length <= 65536 -> GR S S' (fun t u=>t = u /\ TyS t) l.length (typP e n d l) (typP e' n d l')
 | 0,_,_,_,_,hn,_=>by omega
 | n + 1,d,l,l',h,hn,hl=>by
  simp only [typP]
  refine GR.ite (by rw [h.kind,h.one]) (fun _=>GR.bad _ _ _) (fun _ => ?_)
  refine GR.ite Iff.rfl (fun _=>GR.bad _ _ _) (fun _ => ?_)
  refine GR.isP h (fun _ h1 z1 => ?_) (fun _ => ?_)
  ·exact (needG h1 e e' sRpar).then fun _ _ l2 l2' _ h2 z2=>GR.ok ⟨rfl,TyS.leaf _ _ _⟩ h2 (by omega)
  refine GR.isP h (fun _ h1 z1 => ?_) (fun _ => ?_)
  ·refine (typG hS hS' e e' n (d + 1) l.tail l'.tail h1 (by omega) (by omega)).then fun t u l2 l2' ht h2 z2 => ?_
   refine (needG h2 e e' sSemi).then fun _ _ l3 l3' _ h3 z3 => ?_
   refine (countG hS h3 e e').then fun v v' l4 l4' hv h4 z4 => ?_
   refine (needG h4 e e' sRbra).then fun _ _ l5 l5' _ h5 z5 => ?_
   exact GR.ok ⟨by rw [ht.1,hv],ht.2.node _ _ _⟩ h5 (by omega)
  refine GR.isP h (fun _ h1 z1 => ?_) (fun _ => ?_)
  ·refine GR.isP h1 (fun _ h2 z2 => ?_) (fun _ => ?_)
   ·refine (typG hS hS' e e' n (d + 1) l.tail.tail l'.tail.tail h2 (by omega) (by omega)).then fun t u l2 l2' ht h2 z2 => ?_
    exact GR.ok ⟨by rw [ht.1],ht.2.node _ _ _⟩ h2 (by omega)
   ·refine (typG hS hS' e e' n (d + 1) l.tail l'.tail h1 (by omega) (by omega)).then fun t u l2 l2' ht h2 z2 => ?_
    exact GR.ok ⟨by rw [ht.1],ht.2.node _ _ _⟩ h2 (by omega)
  refine (nameG hS h e e').then fun s s' l1 l1' hs h1 z1 => ?_
  obtain ⟨rfl, -⟩:=hs
  refine GR.ite Iff.rfl (fun _ => ?_) (fun _ => ?_)
  ·refine (needG h1 e e' sLt).then fun _ _ l2 l2' _ h2 z2 => ?_
   refine (typG hS hS' e e' n (d + 1) l2 l2' h2 (by omega) (by omega)).then fun t u l3 l3' ht h3 z3 => ?_
   refine (closeG hS hS' h3 (by omega) e e').then fun _ _ l4 l4' _ h4 z4 => ?_
   exact GR.ok ⟨by rw [ht.1],ht.2.node _ _ _⟩ h4 (by omega)
  ·cases tykP s.toList with
   | some k=>exact GR.ok ⟨rfl,TyS.leaf _ _ _⟩ h1 (by omega)
   | none=>exact GR.ok ⟨rfl,TyS.leaf _ _ _⟩ h1 (by omega)
theorem bindG (hS:S.size <= 65536) (e e' : Int) (xs ys:List S27) (l l' : List S35) (hx:TrL S S' xs ys) (hz:xs.length < 1000000) (h:Sim S S' l l'):GR S S' (fun xs2 ys2=>TrL S S' xs2 ys2 /\ xs2.length = xs.length + 1) l.length (bindP e xs l) (bindP e' ys l'):=by
 unfold bindP
 refine (nameG hS h e e').then fun s s' l1 l1' hs h1 z1 => ?_
 obtain ⟨rfl,hs1,hs2, -⟩:=hs
 unfold addP
 rw [if_neg (by omega),if_neg (by rw [<- hx.1];omega)]
 exact GR.ok ⟨hx.snoc (Tr.node hs1.inT hs2.inT (fun h=>absurd h (by decide)) TrL.nil) hz,by simp⟩ h1 z1
theorem patG (hS:S.size <= 65536) (e e' : Int) (n:Nat) (h:Sim S S' l l') (hn:l.length < n) (hl:l.length <= 65536):GR S S' (Tr S S') l.length (patP e n l) (patP e' n l'):=by
 have hat:0 < l.length -> InT S (atP e l) /\ InT S' (atP e' l'):=fun hp=>h.at_ hp e e'
 unfold patP
 refine GR.isP h (fun _ h1 z1=>GR.ok (Tr.node (hat (by omega)).1 (hat (by omega)).2 (fun h=>absurd h (by decide)) TrL.nil) h1 (by omega)) (fun _ => ?_)
 refine GR.isP h (fun _ h1 z1=>GR.ok (Tr.node (hat (by omega)).1 (hat (by omega)).2 (fun h=>absurd h (by decide)) TrL.nil) h1 (by omega)) (fun _ => ?_)
 refine GR.isP h (fun _ h1 z1 => ?_) (fun _ => ?_)
 ·refine (plainG hS h1 e e').then fun v v' l2 l2' hv h2 z2 => ?_
  subst hv
  exact GR.ok (Tr.node (hat (by omega)).1 (hat (by omega)).2 (fun h=>absurd h (by decide)) TrL.nil) h2 (by omega)
 refine GR.ite (by rw [h.kind]) (fun _ => ?_) (fun _ => ?_)
 ·refine (plainG hS h e e').then fun v v' l2 l2' hv h2 z2 => ?_
  subst hv
  exact GR.ok (Tr.node (hat (by omega)).1 (hat (by omega)).2 (fun h=>absurd h (by decide)) TrL.nil) h2 (by omega)
 refine (nameG hS h e e').then fun s s' l1 l1' hs h1 z1 => ?_
 obtain ⟨rfl, -, -,hz⟩:=hs
 refine GR.ite (by rw [h1.isP]) (fun _=>GR.ok (Tr.node (hat (by omega)).1 (hat (by omega)).2 (fun h=>absurd h (by decide)) TrL.nil) h1 (by omega)) (fun _ => ?_)
 refine (needG h1 e e' sColons).then fun _ _ l2 l2' _ h2 z2 => ?_
 refine (nameG hS h2 e e').then fun s2 s2' l3 l3' hs h3 z3 => ?_
 obtain ⟨rfl, -, -,hz2⟩:=hs
 have hzz : ¬ s.size + s2.size >= 4611686018427387904:=by omega
 rw [if_neg hzz,if_neg hzz]
 refine GR.isP h3 (fun _ h4 z4 => ?_) (fun _=>GR.ok (Tr.node (hat (by omega)).1 (hat (by omega)).2 (fun h=>absurd h (by decide)) TrL.nil) h3 (by omega))
 refine (listG 65536 (fun xs ys l l' hx hz h _=>bindG hS e e' xs ys l l' hx hz h) n [] [] _ _ TrL.nil h4 (by omega) (by omega) (by simp;omega)).then fun ks ks' l5 l5' hk h5 z5 => ?_
 exact GR.ok (Tr.node (hat (by omega)).1 (hat (by omega)).2 (fun h=>absurd h (by decide)) hk.1) h5 (by omega)
end
end Go.Proofs.YtngpgdmafmkddaaDoor.Par
end
