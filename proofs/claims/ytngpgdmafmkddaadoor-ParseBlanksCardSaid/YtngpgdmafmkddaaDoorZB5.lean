/- Steps toward the laws of the parser (B), merged from several texts (some of them began as the kit's print). No condition. -/
import Derived.WalkSpells
import Derived.Maps.AppendAt
import Derived.Test.YtngpgdmafmkddaaDoorZB4
section
namespace Go.Proofs.YtngpgdmafmkddaaDoor.Par
open Go.RowKit Go.Proofs.YtngpgdmafmkddaaDoorW.PrintWords Go.Proofs.YtngpgdmafmkddaaDoorW.PrintLast Go.Proofs.YtngpgdmafmkddaaDoorW.PrintMore
open Go.Proofs.YtngpgdmafmkddaaDoor.PParseBlanks (S35 S25 S27 k35 k25 k27 rd_T35 rd_T25 rd_T27 at_T35 at_T25 at_T27)
set_option linter.unusedVariables false
set_option linter.unusedSimpArgs false
def BPost (g:Nat) (e:Int) (r:Nat) (R:PR S27) (w:World) (en:Ending) (w' : World):Prop:=
 Kept (fun b=>b = g \/ b = r) w w' /\ match R with
 | .ok x l=>en = .returned (.tuple #[]) /\ (∃ cs,Has w' r cs 27 /\ VE w.heap.size w' (.agg cs) x) /\ PS w' g l e
 | .bad a er=>en = .panicked [stopE a er]
 | .out=>False
theorem Kept.thenX {S:Nat -> Prop} {w w1 w2:World} {g r:Nat} (h:Kept S w w1) (k:Kept (fun b=>b = g \/ b = r) w1 w2) (hg:S g) (hr:S r \/ (w.heap.size <= r /\ r < w1.heap.size)):Kept S w w2:=
 h.trans (k.mono fun b hb=>by
  rcases hb with rfl | rfl
  ·exact .inl hg
  ·exact hr)
theorem BPost.ways {g r:Nat} {e:Int} {R:PR S27} {w w' : World} {en:Ending} (h:BPost g e r R w en w') :
  (∃ x l a4 ac4 a5 ac5 a9 ac9,R = .ok x l /\ en = .returned (.tuple #[]) /\ Kept (fun b=>b = g \/ b = r) w w' /\ Has w' r #[.int .i64 x.f0,.int .i64 x.f1,.int .i64 x.f2,.string x.f3,.slice a4 x.f4.length ac4,.slice a5 x.f5.length ac5,.int .i64 x.f6.f0,.string x.f6.f1,.int .i64 x.f6.f2,.slice a9 x.f6.f3.length ac9] 27 /\ VE w.heap.size w' (.agg #[.int .i64 x.f0,.int .i64 x.f1,.int .i64 x.f2,.string x.f3,.slice a4 x.f4.length ac4,.slice a5 x.f5.length ac5,.int .i64 x.f6.f0,.string x.f6.f1,.int .i64 x.f6.f2,.slice a9 x.f6.f3.length ac9]) x /\ PS w' g l e) \/ (∃ a er,R = .bad a er /\ en = .panicked [stopE a er] /\ Kept (fun b=>b = g \/ b = r) w w'):=by
 obtain ⟨hk,h⟩:=h
 cases R with
 | ok x l =>
  obtain ⟨he,⟨cs,hx,hv⟩,hp⟩:=h
  obtain ⟨a4,ac4,a5,ac5,a9,ac9,ea⟩:=hv.form
  injection ea with ea
  subst ea
  exact .inl ⟨x,l,a4,ac4,a5,ac5,a9,ac9,rfl,he,hk,hx,hv,hp⟩
 | bad a er=>exact .inr ⟨a,er,rfl,h,hk⟩
 | out=>exact h.elim
def LetOK (n:Nat):Prop := ∀ (g:Nat) (e d:Int) (r:Nat) (a:Int) (l:List S35) (w:World),0 <= d -> d < 60 -> PS w g l e -> Has w r #[.int .i64 0,.int .i64 a,.int .i64 0,.string ⟨#[]⟩,.slice none 0 0,.slice none 0 0,.int .i64 0,.string ⟨#[]⟩,.int .i64 0,.slice none 0 0] 27 -> letP e n d a l ≠ .out ->
 Calls Tryd.prog 75 #[.pointer (some ⟨g,0,none⟩),.pointer (some ⟨r,0,none⟩),.int .i64 d] w (BPost g e r (letP e n d a l) w)
end Go.Proofs.YtngpgdmafmkddaaDoor.Par
end
section
namespace Go.Proofs.YtngpgdmafmkddaaDoor.Par
open Go.Proofs.YtngpgdmafmkddaaDoor.Calm Go.RowKit Go.Proofs.YtngpgdmafmkddaaDoorW.PrintWords Go.Proofs.YtngpgdmafmkddaaDoorW.PrintLast Go.Proofs.YtngpgdmafmkddaaDoorW.PrintMore
open Go.Proofs.YtngpgdmafmkddaaDoor.PParseBlanks (S35 S25 S27 k35 k25 k27 rd_T35 rd_T25 rd_T27 at_T35 at_T25 at_T27)
set_option linter.unusedVariables false
set_option linter.unusedSimpArgs false
set_option maxRecDepth 100000 in
set_option maxHeartbeats 8000000 in
theorem stmt_ok {n:Nat} (HT:TreeOK n) (HB:BlockOK n) (HC:ClosedOK n) (HL:PlainlyOK n) (HLET:LetOK n):StmtOK (n + 1):=by
 intro g e d l w h0 h1 HP hne
 unfold TreeOK at HT
 unfold BlockOK at HB
 unfold ClosedOK at HC
 unfold PlainlyOK at HL
 unfold LetOK at HLET
 have HTT:=am HT
 have HBB:=am HB
 have HCC:=am HC
 have HLL:=am HL
 have HLT:=am HLET
 have hu27:=Tryd.underlying27
 have kw:IntKind.i64.wrap (d + 1) = d + 1:=IntWalk.i64_in _ (by omega)
 obtain ⟨R,hR⟩:∃ R,stmtP e (n + 1) d l = R:=⟨_,rfl⟩
 have hE:=hR
 simp only [stmtP] at hE
 rw [hR] at hne ⊢
 obtain ⟨a0,ha0⟩:∃ a,atP e l = a:=⟨_,rfl⟩
 rw [ha0] at hE
 have HAT:=am ha0
 have HEQ:=am hE.symm
 have HNE:=am hne
 have hgw:=HP.glt
 have HK:Aside0 (KeptG g w w):=⟨Kept.refl _ w⟩
 have HP:=am HP
 clear hR hne hE ha0 HT HB HC HL HLET
 have ba1:=below_alloc (Below.refl (w).heap.size (w)) (Obj.cells #[.int .i64 0,.int .i64 0,.int .i64 0,.string ⟨#[]⟩,.slice none 0 0,.slice none 0 0,.int .i64 0,.string ⟨#[]⟩,.int .i64 0,.slice none 0 0] 27)
 replace HK:=am (Kept.below HK.out ba1)
 replace HP:=am (HP.out.below ba1)
 clear ba1
 have HR:=am (Has.new (w) #[.int .i64 0,.int .i64 0,.int .i64 0,.string ⟨#[]⟩,.slice none 0 0,.slice none 0 0,.int .i64 0,.string ⟨#[]⟩,.int .i64 0,.slice none 0 0] 27)
 have hrg:w.heap.size ≠ g:=by omega
 go_enter Tryd.func67,Tryd.ntmps67
 have st1:=tt
 go_wp2_with ((
       go_at_call 29
       clear st1
       go_must (
        (with_reducible refine Calls.mono (at_ps HP.out) ?_)
        rintro en w1 ⟨he1,hb1⟩
        rw [HAT.out] at he1
        subst he1
        replace HK:=am (Kept.below HK.out hb1)
        replace HP:=am (HP.out.below hb1)
        replace HR:=am (HR.out.belowS hb1)
        have hs1:=Below.size hb1
        try simp at hs1
        have c2:=hci HR.out 1 rfl
        have f2:=Has.frozen HR.out 1
        have st2:=tt)))
 clear st2
 clear c2 f2
 replace HK:=am (Kept.setCellX HK.out (a:=⟨w.heap.size,1,none⟩) (.inr (by show w.heap.size <= w.heap.size;omega)) (.int .i64 a0))
 replace HP:=am (PS.setT HP.out HR.out (by decide) (by decide) 1 (.int .i64 a0))
 replace HR:Aside0 (Has (w1.setCell ⟨w.heap.size,1,none⟩ (.int .i64 a0)) (w.heap.size) #[.int .i64 0,.int .i64 a0,.int .i64 0,.string ⟨#[]⟩,.slice none 0 0,.slice none 0 0,.int .i64 0,.string ⟨#[]⟩,.int .i64 0,.slice none 0 0] 27):=⟨by have h:=Has.set_ HR.out 1 (.int .i64 a0);exact h⟩
 cases hHA:isP sLet l with
 | true =>
  have HA:=am hHA
  clear hHA
  have st3:=tt
  go_wp2_with ((
        go_at_call 41
        clear st3
        go_must (
         (with_reducible refine Calls.mono (take_yes sLet HP.out HA.out) ?_)
         rintro en w3 ⟨he3,hk3,hp3⟩
         subst he3
         replace HK:=am (Kept.then_ HK.out hk3)
         replace HR:=am (Kept.has hk3 HR.out (by omega))
         replace HP:=am hp3
         have hs3:=Kept.size hk3
         try simp at hs3
         have st4:=tt)))
  clear st4
  cases hHB:letP e n d a0 l.tail with
  | out=>exact absurd (by rw [HEQ.out];simp [needP,PR.andThen,HA.out,hHB]) HNE.out
  | bad bb er =>
   have HB:=am hHB
   have HBN:=am (show letP e n d a0 l.tail ≠ .out by rw [hHB];exact PR.bad_ne _ _)
   clear hHB
   have st5:=tt
   go_wp2_with ((
         go_at_call 75
         clear st5
         go_must (
          (with_reducible refine Calls.mono (HLT.out g e d w.heap.size a0 l.tail _ h0 (by omega) HP.out HR.out HBN.out) ?_)
          rintro en w4 ⟨hk4,he4⟩
          rw [HB.out] at he4
          subst he4
          have st6:=tt)))
   clear st6
   have HE:Aside0 (R = .bad bb er):=⟨by rw [HEQ.out];simp [needP,PR.andThen,HA.out,HB.out]⟩
   rw [HE.out]
   exact ⟨rfl,HK.out.thenX hk4 rfl (.inr ⟨Nat.le_refl _,HR.out.lt⟩),rfl⟩
  | ok x l1 =>
  have HB:=am hHB
  have HBN:=am (show letP e n d a0 l.tail ≠ .out by rw [hHB];exact PR.ok_ne _ _)
  clear hHB
  have st5:=tt
  go_wp2_with ((
        go_at_call 75
        clear st5
        go_must (
         (with_reducible refine Calls.mono (HLT.out g e d w.heap.size a0 l.tail _ h0 (by omega) HP.out HR.out HBN.out) ?_)
         rintro en w4 ⟨hk4,he4⟩
         rw [HB.out] at he4
         obtain ⟨rfl,⟨cs,hx,hv⟩,hp⟩:=he4
         obtain ⟨x4,xc4,x5,xc5,x9,xc9,ea⟩:=hv.form
         injection ea with ea
         subst ea
         have Vx:=am (VO.lower hv (show w.heap.size + 1 <= _ by (have:=HR.out.lt;omega)))
         replace HK:=am (HK.out.thenX hk4 rfl (.inr ⟨Nat.le_refl _,HR.out.lt⟩))
         replace HR:=am hx
         replace HP:=am hp
         clear hx hp hv
         have st6:=tt)))
  clear st6
  cases hHS:isP sSemi l1 with
  | true =>
   have HS:=am hHS
   clear hHS
   have st7:=tt
   go_wp2_with (first
     | (
      go_at_call 42
      clear st7
      go_must (
       (with_reducible refine Calls.mono (need_yes sSemi HP.out HS.out) ?_)
       rintro en w5 ⟨he5,hk5,hp5⟩
       subst he5
       replace HK:=am (Kept.then_ HK.out hk5)
       replace HR:=am (Kept.has hk5 HR.out (by omega))
       replace Vx:=am (VO.kps Vx.out HP.out hk5)
       replace HP:=am hp5
       have hs5:=Kept.size hk5
       try simp at hs5
       have st8:=tt))
     | (
      (with_reducible refine gate_dst (N:=90) rfl ?_)
      clear st8
      go_must (
       refine Kd.event_run rfl (load27 w5 (w.heap.size) #[.int .i64 x.f0,.int .i64 x.f1,.int .i64 x.f2,.string x.f3,.slice x4 x.f4.length xc4,.slice x5 x.f5.length xc5,.int .i64 x.f6.f0,.string x.f6.f1,.int .i64 x.f6.f2,.slice x9 x.f6.f3.length xc9] HR.out rfl _ _ _ rfl rfl) ?_
       have st9:=tt))
     | (
      (with_reducible refine gate_store (t:=27) (p:=4) rfl ?_)
      clear st9
      go_must (
       refine store_event (t:=27) (p:=4) (v:=.tmp 90) (w1:=World.setRow w5 (w.heap.size) #[.int .i64 x.f0,.int .i64 x.f1,.int .i64 x.f2,.string x.f3,.slice x4 x.f4.length xc4,.slice x5 x.f5.length xc5,.int .i64 x.f6.f0,.string x.f6.f1,.int .i64 x.f6.f2,.slice x9 x.f6.f3.length xc9]) ?hg ?ho ?hn ?hr ?_
       (case ho=>rfl)
       (case hg=>rfl)
       (case hn=>rfl)
       (case hr=>exact store27 w5 (w.heap.size) _ _ HR.out rfl rfl (by first | kernel_rfl | (simp [Value.oneCell'])) _ _ _ _ rfl rfl rfl)
       intro w76 hw76
       subst hw76
       have st10:=tt)))
   clear st10
   replace HK:=am (kept_rowX HK.out (g:=w.heap.size) (.inr (by show w.heap.size <= w.heap.size;omega)) #[.int .i64 x.f0,.int .i64 x.f1,.int .i64 x.f2,.string x.f3,.slice x4 x.f4.length xc4,.slice x5 x.f5.length xc5,.int .i64 x.f6.f0,.string x.f6.f1,.int .i64 x.f6.f2,.slice x9 x.f6.f3.length xc9])
   replace HP:=am (PS.rowP HP.out HR.out #[.int .i64 x.f0,.int .i64 x.f1,.int .i64 x.f2,.string x.f3,.slice x4 x.f4.length xc4,.slice x5 x.f5.length xc5,.int .i64 x.f6.f0,.string x.f6.f1,.int .i64 x.f6.f2,.slice x9 x.f6.f3.length xc9])
   replace Vx:=am (VO.rowO Vx.out (g:=w.heap.size) (fun kk h1 h2=>by omega) #[.int .i64 x.f0,.int .i64 x.f1,.int .i64 x.f2,.string x.f3,.slice x4 x.f4.length xc4,.slice x5 x.f5.length xc5,.int .i64 x.f6.f0,.string x.f6.f1,.int .i64 x.f6.f2,.slice x9 x.f6.f3.length xc9])
   replace HR:=am (has_row HR.out #[.int .i64 x.f0,.int .i64 x.f1,.int .i64 x.f2,.string x.f3,.slice x4 x.f4.length xc4,.slice x5 x.f5.length xc5,.int .i64 x.f6.f0,.string x.f6.f1,.int .i64 x.f6.f2,.slice x9 x.f6.f3.length xc9])
   have HE:Aside0 (R = .ok (x,false) l1.tail):=⟨by rw [HEQ.out];simp [needP,PR.andThen,HA.out,HB.out,HS.out]⟩
   refine bodyPost_ret (results_ct rfl _ _ w.heap.size 27 #[.int .i64 x.f0,.int .i64 x.f1,.int .i64 x.f2,.string x.f3,.slice x4 x.f4.length xc4,.slice x5 x.f5.length xc5,.int .i64 x.f6.f0,.string x.f6.f1,.int .i64 x.f6.f2,.slice x9 x.f6.f3.length xc9] (0,0) _ rfl HR.out Tryd.underlying27 rfl (by rfl)) rfl ?_
   rw [HE.out]
   exact ⟨HK.out,_,rfl,⟨_,rfl,(Vx.out.lower (by omega))⟩,HP.out⟩
  | false =>
  have HS:=am hHS
  clear hHS
  have st7:=tt
  go_wp2_with ((
        go_at_call 42
        clear st7
        go_must (
         (with_reducible refine Calls.mono (need_no sSemi HP.out HS.out) ?_)
         rintro en w5 ⟨he5,hk5⟩
         subst he5
         replace HK:=am (Kept.then_ HK.out hk5)
         replace HR:=am (Kept.has hk5 HR.out (by omega))
         replace Vx:=am (VO.kps Vx.out HP.out hk5)
         have hs5:=Kept.size hk5
         try simp at hs5
         have st8:=tt)))
  clear st8
  have HE:Aside0 (R = .bad (atP e l1) 30):=⟨by rw [HEQ.out];simp [needP,PR.andThen,HA.out,HB.out,HS.out]⟩
  rw [HE.out]
  exact ⟨rfl,HK.out,rfl⟩
 | false =>
 have HA:=am hHA
 clear hHA
 have st3:=tt
 go_wp2_with ((
       go_at_call 41
       clear st3
       go_must (
        (with_reducible refine Calls.mono (take_no sLet HP.out HA.out) ?_)
        rintro en w3 ⟨he3,hk3,hp3⟩
        subst he3
        replace HK:=am (Kept.then_ HK.out hk3)
        replace HR:=am (Kept.has hk3 HR.out (by omega))
        replace HP:=am hp3
        have hs3:=Kept.size hk3
        try simp at hs3
        have st4:=tt)))
 clear st4
 cases hHW:isP sWhile l with
 | true =>
  have HW:=am hHW
  clear hHW
  have st5:=tt
  go_wp2_with ((
        go_at_call 41
        clear st5
        go_must (
         (with_reducible refine Calls.mono (take_yes sWhile HP.out HW.out) ?_)
         rintro en w4 ⟨he4,hk4,hp4⟩
         subst he4
         replace HK:=am (Kept.then_ HK.out hk4)
         replace HR:=am (Kept.has hk4 HR.out (by omega))
         replace HP:=am hp4
         have hs4:=Kept.size hk4
         try simp at hs4
         have c5:=hci HR.out 0 rfl
         have f5:=Has.frozen HR.out 0
         have st6:=tt)))
  clear st6
  clear c5 f5
  replace HK:=am (Kept.setCellX HK.out (a:=⟨w.heap.size,0,none⟩) (.inr (by show w.heap.size <= w.heap.size;omega)) (.int .i64 28))
  replace HP:=am (PS.setT HP.out HR.out (by decide) (by decide) 0 (.int .i64 28))
  replace HR:Aside0 (Has (w4.setCell ⟨w.heap.size,0,none⟩ (.int .i64 28)) (w.heap.size) #[.int .i64 28,.int .i64 a0,.int .i64 0,.string ⟨#[]⟩,.slice none 0 0,.slice none 0 0,.int .i64 0,.string ⟨#[]⟩,.int .i64 0,.slice none 0 0] 27):=⟨by have h:=Has.set_ HR.out 0 (.int .i64 28);exact h⟩
  cases hHB:climbP e n (d + 1) false 1 l.tail with
  | out=>exact absurd (by rw [HEQ.out];simp [needP,PR.andThen,HA.out,HW.out,hHB]) HNE.out
  | bad bb er =>
   have HB:=am hHB
   have HBN:=am (show climbP e n (d + 1) false 1 l.tail ≠ .out by rw [hHB];exact PR.bad_ne _ _)
   clear hHB
   have st7:=tt
   go_wp2_with ((
         go_at_call 18
         clear st7
         go_must (
          (with_reducible refine Calls.mono (HTT.out g e (d + 1) false l.tail _ (by omega) (by omega) HP.out HBN.out) ?_)
          rintro en w6 ⟨hk6,he6⟩
          rw [HB.out] at he6
          subst he6
          replace HK:=am (Kept.then_ HK.out hk6)
          replace HR:=am (Kept.has hk6 HR.out (by omega))
          have hs6:=Kept.size hk6
          try simp at hs6
          have st8:=tt)))
   clear st8
   have HE:Aside0 (R = .bad bb er):=⟨by rw [HEQ.out];simp [needP,PR.andThen,HA.out,HW.out,HB.out]⟩
   rw [HE.out]
   exact ⟨rfl,HK.out,rfl⟩
  | ok x l1 =>
  have HB:=am hHB
  have HBN:=am (show climbP e n (d + 1) false 1 l.tail ≠ .out by rw [hHB];exact PR.ok_ne _ _)
  clear hHB
  have st7:=tt
  go_wp2_with ((
        go_at_call 18
        clear st7
        go_must (
         (with_reducible refine Calls.mono (HTT.out g e (d + 1) false l.tail _ (by omega) (by omega) HP.out HBN.out) ?_)
         rintro en w6 ⟨hk6,he6⟩
         rw [HB.out] at he6
         obtain ⟨v6,rfl,hv6,hp6⟩:=he6
         obtain ⟨x4,xc4,x5,xc5,x9,xc9,rfl⟩:=(hv6).form
         have Vx:=am (VO.lower hv6 (show w.heap.size + 1 <= _ by (have:=HR.out.lt;omega)))
         clear hv6
         replace HK:=am (Kept.then_ HK.out hk6)
         replace HR:=am (Kept.has hk6 HR.out (by omega))
         replace HP:=am hp6
         have hs6:=Kept.size hk6
         try simp at hs6
         have ba2:=below_alloc (Below.refl (w6).heap.size (w6)) (Obj.cells #[.int .i64 x.f0,.int .i64 x.f1,.int .i64 x.f2,.string x.f3,.slice x4 x.f4.length xc4,.slice x5 x.f5.length xc5,.int .i64 x.f6.f0,.string x.f6.f1,.int .i64 x.f6.f2,.slice x9 x.f6.f3.length xc9] 27)
         replace HK:=am (Kept.below HK.out ba2)
         replace HP:=am (HP.out.below ba2)
         replace HR:=am (HR.out.belowS ba2)
         replace Vx:=am (Vx.out.below ba2)
         clear ba2
         have HX:=am (Has.new (w6) #[.int .i64 x.f0,.int .i64 x.f1,.int .i64 x.f2,.string x.f3,.slice x4 x.f4.length xc4,.slice x5 x.f5.length xc5,.int .i64 x.f6.f0,.string x.f6.f1,.int .i64 x.f6.f2,.slice x9 x.f6.f3.length xc9] 27)
         have st8:=tt)))
  clear st8
  have hD:=below_drew (Below.refl ((w6.alloc (Obj.cells #[.int .i64 x.f0,.int .i64 x.f1,.int .i64 x.f2,.string x.f3,.slice x4 x.f4.length xc4,.slice x5 x.f5.length xc5,.int .i64 x.f6.f0,.string x.f6.f1,.int .i64 x.f6.f2,.slice x9 x.f6.f3.length xc9] 27))).heap.size ((w6.alloc (Obj.cells #[.int .i64 x.f0,.int .i64 x.f1,.int .i64 x.f2,.string x.f3,.slice x4 x.f4.length xc4,.slice x5 x.f5.length xc5,.int .i64 x.f6.f0,.string x.f6.f1,.int .i64 x.f6.f2,.slice x9 x.f6.f3.length xc9] 27))))
  replace HK:=am (Kept.below HK.out hD)
  replace HP:=am (HP.out.below hD)
  replace HR:=am (HR.out.belowS hD)
  replace Vx:=am (Vx.out.below hD)
  replace HX:=am (HX.out.belowS hD)
  clear hD
  obtain ⟨W1,hW1⟩:∃ W,((w6.alloc (Obj.cells #[.int .i64 x.f0,.int .i64 x.f1,.int .i64 x.f2,.string x.f3,.slice x4 x.f4.length xc4,.slice x5 x.f5.length xc5,.int .i64 x.f6.f0,.string x.f6.f1,.int .i64 x.f6.f2,.slice x9 x.f6.f3.length xc9] 27))).drew = W:=⟨_,rfl⟩
  rw [hW1] at HK HP HR Vx HX
  have hzW1:((w6.alloc (Obj.cells #[.int .i64 x.f0,.int .i64 x.f1,.int .i64 x.f2,.string x.f3,.slice x4 x.f4.length xc4,.slice x5 x.f5.length xc5,.int .i64 x.f6.f0,.string x.f6.f1,.int .i64 x.f6.f2,.slice x9 x.f6.f3.length xc9] 27))).heap.size <= W1.heap.size:=by rw [<- hW1];exact Nat.le_refl _
  try simp at hzW1
  refine region_treeR 6 (by kernel_rfl) (by kernel_rfl) (fun w' => Has w' (w6.heap.size) #[.int .i64 x.f0,.int .i64 x.f1,.int .i64 x.f2,.string x.f3,.slice x4 x.f4.length xc4,.slice x5 x.f5.length xc5,.int .i64 x.f6.f0,.string x.f6.f1,.int .i64 x.f6.f2,.slice x9 x.f6.f3.length xc9] 27) (hW1 ▸ HX.out) fun hS => ?_
  rw [hW1] at hS ⊢
  clear hW1
  simp only [List.take_succ_cons,List.take_zero]
  generalize hQQ:tailK _ _ = QQ
  have hsure:Sure QQ:=by
   rw [<- hQQ]
   intro c a a' w1 hd h
   simp +zetaDelta only [tailK,Exit.then,Exit.inBlock,bodyPost] at h ⊢
   simpa [hd] using h
  refine tqh hsure hS 0 ?_
  apply Exists.intro
  apply And.intro
  ·rintro w' k1
   apply VR.mk
   exact load27 w' (w6.heap.size) #[.int .i64 x.f0,.int .i64 x.f1,.int .i64 x.f2,.string x.f3,.slice x4 x.f4.length xc4,.slice x5 x.f5.length xc5,.int .i64 x.f6.f0,.string x.f6.f1,.int .i64 x.f6.f2,.slice x9 x.f6.f3.length xc9] k1 rfl _ _ _ rfl rfl
  try simp only [sA,sB,sC]
  refine tqh hsure hS 1 ?_
  apply Exists.intro
  apply And.intro
  ·rintro w' k1
   apply VR.mk
   go_simp
   with_reducible rfl
  try simp only [sA,sB,sC]
  refine tqh hsure hS 2 ?_
  apply Exists.intro
  apply And.intro
  ·rintro w' k1
   apply VR.mk
   go_simp
   with_reducible rfl
  try simp only [sA,sB,sC]
  refine tqh hsure hS 3 ?_
  apply Exists.intro
  apply And.intro
  ·rintro w' k1
   apply VR.mk
   go_simp
   with_reducible rfl
  try simp only [sA,sB,sC]
  have hne2:blockP e n (d + 1) l1 ≠ .out:=fun h=>HNE.out (by rw [HEQ.out];simp [needP,PR.andThen,HA.out,HW.out,HB.out,h])
  refine tree_1Q (i:=4) (by kernel_rfl) ?_
  refine step_callQ (by rfl) (by rfl) (by rfl) (ER.go (by go_simp;with_reducible exact ⟨rfl,rfl⟩)) ?_
  refine (HBB.out g e (d + 1) l1 W1 (by omega) (by omega) HP.out hne2).mono ?_
  intro en w7 hq
  rcases hq.ways with ⟨v,y,l2,hr,rfl,hk,hv,hp⟩ | ⟨bb,er,hr,rfl,hk⟩
  ·have HY:=am hr
   obtain ⟨y4,yc4,y5,yc5,y9,yc9,rfl⟩:=hv.form
   have Vy:=am (VO.lower hv (show w.heap.size + 1 <= _ by (have:=HR.out.lt;omega)))
   replace HK:=am (Kept.then_ HK.out hk)
   replace HR:=am (Kept.has hk HR.out (by omega))
   replace Vx:=am (VO.kps Vx.out HP.out hk)
   replace HX:=am (Kept.has hk HX.out (by omega))
   replace HP:=am hp
   have hs7:=Kept.size hk
   try simp at hs7
   clear hv hr hk
   refine .inl ⟨_,rfl,HX.out, ?_⟩
   simp only [sA,sB,sC]
   refine tree_1Q (i:=5) (by kernel_rfl) ?_
   refine step_list (by rfl) ?_
   go_wp2
   obtain ⟨Mx,Lx⟩:=VO.lit (cs:=[.int .i64 x.f0,.int .i64 x.f1,.int .i64 x.f2,.string x.f3,.slice x4 x.f4.length xc4,.slice x5 x.f5.length xc5,.int .i64 x.f6.f0,.string x.f6.f1,.int .i64 x.f6.f2,.slice x9 x.f6.f3.length xc9]) Vx.out
   obtain ⟨My,Ly⟩:=VO.lit (cs:=[.int .i64 y.f0,.int .i64 y.f1,.int .i64 y.f2,.string y.f3,.slice y4 y.f4.length yc4,.slice y5 y.f5.length yc5,.int .i64 y.f6.f0,.string y.f6.f1,.int .i64 y.f6.f2,.slice y9 y.f6.f3.length yc9]) Vy.out
   have HKD:Aside0 (k27.R 27 ((w7).alloc (Obj.cells #[.int .i64 x.f0,.int .i64 x.f1,.int .i64 x.f2,.string x.f3,.slice x4 x.f4.length xc4,.slice x5 x.f5.length xc5,.int .i64 x.f6.f0,.string x.f6.f1,.int .i64 x.f6.f2,.slice x9 x.f6.f3.length xc9,.int .i64 y.f0,.int .i64 y.f1,.int .i64 y.f2,.string y.f3,.slice y4 y.f4.length yc4,.slice y5 y.f5.length yc5,.int .i64 y.f6.f0,.string y.f6.f1,.int .i64 y.f6.f2,.slice y9 y.f6.f3.length yc9] 27)) (w.heap.size + 1) Any (.slice (some ⟨(w7).heap.size,0,none⟩) 2 2) [x,y]):=⟨by have h:=kids_lit (w7) (w.heap.size + 1) (by (have:=HR.out.lt;omega)) trivial (xs:=[x,y]) (reps_two Mx Lx My Ly) (by simp);exact h⟩
   clear Mx Lx My Ly
   have ba3:=below_alloc (Below.refl (w7).heap.size (w7)) (Obj.cells #[.int .i64 x.f0,.int .i64 x.f1,.int .i64 x.f2,.string x.f3,.slice x4 x.f4.length xc4,.slice x5 x.f5.length xc5,.int .i64 x.f6.f0,.string x.f6.f1,.int .i64 x.f6.f2,.slice x9 x.f6.f3.length xc9,.int .i64 y.f0,.int .i64 y.f1,.int .i64 y.f2,.string y.f3,.slice y4 y.f4.length yc4,.slice y5 y.f5.length yc5,.int .i64 y.f6.f0,.string y.f6.f1,.int .i64 y.f6.f2,.slice y9 y.f6.f3.length yc9] 27)
   replace HK:=am (Kept.below HK.out ba3)
   replace HP:=am (HP.out.below ba3)
   replace HR:=am (HR.out.belowS ba3)
   replace Vx:=am (Vx.out.below ba3)
   replace HX:=am (HX.out.belowS ba3)
   replace Vy:=am (Vy.out.below ba3)
   clear ba3
   refine ⟨HX.out, ?_⟩
   rw [<- hQQ]
   refine tree_doneR (by kernel_rfl) ?_
   refine restQ_tree (fun _=>True) ?_
   clear hsure hS hQQ
   refine tqh (by intro c a a' w1 hd h;simp +zetaDelta only [Exit.then,Exit.inBlock,bodyPost] at h ⊢; simpa [hd] using h) trivial 6 ?_
   apply Exists.intro
   apply And.intro
   ·rintro w' -
    apply VR.mk
    go_simp
    with_reducible rfl
   simp only [sA,sB,sC]
   have c8:=hci HR.out 4 rfl
   have f8:=Has.frozen HR.out 4
   refine tree_1Q (i:=7) (by kernel_rfl) ?_
   refine step_list (by rfl) ?_
   go_wp2
   refine ⟨trivial,tree_endQ (by kernel_rfl) ?_⟩
   clear c8 f8
   replace HK:=am (Kept.setCellX HK.out (a:=⟨w.heap.size,4,none⟩) (.inr (by show w.heap.size <= w.heap.size;omega)) (.slice (some ⟨(w7).heap.size,0,none⟩) 2 2))
   replace HP:=am (PS.setT HP.out HR.out (by decide) (by decide) 4 (.slice (some ⟨(w7).heap.size,0,none⟩) 2 2))
   replace Vx:=am (VO.setO Vx.out (a:=⟨w.heap.size,4,none⟩) (fun kk h1 h2=>by show kk ≠ w.heap.size;omega) (.slice (some ⟨(w7).heap.size,0,none⟩) 2 2))
   replace HX:=am (Has.other HX.out (a:=⟨w.heap.size,4,none⟩) (by show w6.heap.size ≠ w.heap.size;omega) (.slice (some ⟨(w7).heap.size,0,none⟩) 2 2))
   replace Vy:=am (VO.setO Vy.out (a:=⟨w.heap.size,4,none⟩) (fun kk h1 h2=>by show kk ≠ w.heap.size;omega) (.slice (some ⟨(w7).heap.size,0,none⟩) 2 2))
   replace HKD:=am (R_far HKD.out (fun kk h1 _=>Below.heap_setCell _ ⟨w.heap.size,4,none⟩ (.slice (some ⟨(w7).heap.size,0,none⟩) 2 2) kk (by show kk ≠ w.heap.size;omega)))
   replace HR:Aside0 (Has (((w7.alloc (Obj.cells #[.int .i64 x.f0,.int .i64 x.f1,.int .i64 x.f2,.string x.f3,.slice x4 x.f4.length xc4,.slice x5 x.f5.length xc5,.int .i64 x.f6.f0,.string x.f6.f1,.int .i64 x.f6.f2,.slice x9 x.f6.f3.length xc9,.int .i64 y.f0,.int .i64 y.f1,.int .i64 y.f2,.string y.f3,.slice y4 y.f4.length yc4,.slice y5 y.f5.length yc5,.int .i64 y.f6.f0,.string y.f6.f1,.int .i64 y.f6.f2,.slice y9 y.f6.f3.length yc9] 27))).setCell ⟨w.heap.size,4,none⟩ (.slice (some ⟨(w7).heap.size,0,none⟩) 2 2)) (w.heap.size) #[.int .i64 28,.int .i64 a0,.int .i64 0,.string ⟨#[]⟩,.slice (some ⟨(w7).heap.size,0,none⟩) 2 2,.slice none 0 0,.int .i64 0,.string ⟨#[]⟩,.int .i64 0,.slice none 0 0] 27):=⟨by have h:=Has.set_ HR.out 4 (.slice (some ⟨(w7).heap.size,0,none⟩) 2 2);exact h⟩
   have st9:=tt
   go_wp2_with (first
     | (
      (with_reducible refine gate_dst (N:=37) rfl ?_)
      clear st9
      go_must (
       refine Kd.event_run rfl (load27 (((w7.alloc (Obj.cells #[.int .i64 x.f0,.int .i64 x.f1,.int .i64 x.f2,.string x.f3,.slice x4 x.f4.length xc4,.slice x5 x.f5.length xc5,.int .i64 x.f6.f0,.string x.f6.f1,.int .i64 x.f6.f2,.slice x9 x.f6.f3.length xc9,.int .i64 y.f0,.int .i64 y.f1,.int .i64 y.f2,.string y.f3,.slice y4 y.f4.length yc4,.slice y5 y.f5.length yc5,.int .i64 y.f6.f0,.string y.f6.f1,.int .i64 y.f6.f2,.slice y9 y.f6.f3.length yc9] 27))).setCell ⟨w.heap.size,4,none⟩ (.slice (some ⟨(w7).heap.size,0,none⟩) 2 2)) (w.heap.size) #[.int .i64 28,.int .i64 a0,.int .i64 0,.string ⟨#[]⟩,.slice (some ⟨(w7).heap.size,0,none⟩) 2 2,.slice none 0 0,.int .i64 0,.string ⟨#[]⟩,.int .i64 0,.slice none 0 0] HR.out rfl _ _ _ rfl rfl) ?_
       have st10:=tt))
     | (
      (with_reducible refine gate_store (t:=27) (p:=4) rfl ?_)
      clear st10
      go_must (
       refine store_event (t:=27) (p:=4) (v:=.tmp 37) (w1:=World.setRow (((w7.alloc (Obj.cells #[.int .i64 x.f0,.int .i64 x.f1,.int .i64 x.f2,.string x.f3,.slice x4 x.f4.length xc4,.slice x5 x.f5.length xc5,.int .i64 x.f6.f0,.string x.f6.f1,.int .i64 x.f6.f2,.slice x9 x.f6.f3.length xc9,.int .i64 y.f0,.int .i64 y.f1,.int .i64 y.f2,.string y.f3,.slice y4 y.f4.length yc4,.slice y5 y.f5.length yc5,.int .i64 y.f6.f0,.string y.f6.f1,.int .i64 y.f6.f2,.slice y9 y.f6.f3.length yc9] 27))).setCell ⟨w.heap.size,4,none⟩ (.slice (some ⟨(w7).heap.size,0,none⟩) 2 2)) (w.heap.size) #[.int .i64 28,.int .i64 a0,.int .i64 0,.string ⟨#[]⟩,.slice (some ⟨(w7).heap.size,0,none⟩) 2 2,.slice none 0 0,.int .i64 0,.string ⟨#[]⟩,.int .i64 0,.slice none 0 0]) ?hg ?ho ?hn ?hr ?_
       (case ho=>rfl)
       (case hg=>rfl)
       (case hn=>rfl)
       (case hr=>exact store27 (((w7.alloc (Obj.cells #[.int .i64 x.f0,.int .i64 x.f1,.int .i64 x.f2,.string x.f3,.slice x4 x.f4.length xc4,.slice x5 x.f5.length xc5,.int .i64 x.f6.f0,.string x.f6.f1,.int .i64 x.f6.f2,.slice x9 x.f6.f3.length xc9,.int .i64 y.f0,.int .i64 y.f1,.int .i64 y.f2,.string y.f3,.slice y4 y.f4.length yc4,.slice y5 y.f5.length yc5,.int .i64 y.f6.f0,.string y.f6.f1,.int .i64 y.f6.f2,.slice y9 y.f6.f3.length yc9] 27))).setCell ⟨w.heap.size,4,none⟩ (.slice (some ⟨(w7).heap.size,0,none⟩) 2 2)) (w.heap.size) _ _ HR.out rfl rfl (by first | kernel_rfl | (simp [Value.oneCell'])) _ _ _ _ rfl rfl rfl)
       intro w79 hw79
       subst hw79
       have st11:=tt)))
   clear st11
   replace HK:=am (kept_rowX HK.out (g:=w.heap.size) (.inr (by show w.heap.size <= w.heap.size;omega)) #[.int .i64 28,.int .i64 a0,.int .i64 0,.string ⟨#[]⟩,.slice (some ⟨(w7).heap.size,0,none⟩) 2 2,.slice none 0 0,.int .i64 0,.string ⟨#[]⟩,.int .i64 0,.slice none 0 0])
   replace HP:=am (PS.rowP HP.out HR.out #[.int .i64 28,.int .i64 a0,.int .i64 0,.string ⟨#[]⟩,.slice (some ⟨(w7).heap.size,0,none⟩) 2 2,.slice none 0 0,.int .i64 0,.string ⟨#[]⟩,.int .i64 0,.slice none 0 0])
   replace Vx:=am (VO.rowO Vx.out (g:=w.heap.size) (fun kk h1 h2=>by omega) #[.int .i64 28,.int .i64 a0,.int .i64 0,.string ⟨#[]⟩,.slice (some ⟨(w7).heap.size,0,none⟩) 2 2,.slice none 0 0,.int .i64 0,.string ⟨#[]⟩,.int .i64 0,.slice none 0 0])
   replace HX:=am (has_row_other HX.out (g:=w.heap.size) (cs':=#[.int .i64 28,.int .i64 a0,.int .i64 0,.string ⟨#[]⟩,.slice (some ⟨(w7).heap.size,0,none⟩) 2 2,.slice none 0 0,.int .i64 0,.string ⟨#[]⟩,.int .i64 0,.slice none 0 0]) (by omega))
   replace Vy:=am (VO.rowO Vy.out (g:=w.heap.size) (fun kk h1 h2=>by omega) #[.int .i64 28,.int .i64 a0,.int .i64 0,.string ⟨#[]⟩,.slice (some ⟨(w7).heap.size,0,none⟩) 2 2,.slice none 0 0,.int .i64 0,.string ⟨#[]⟩,.int .i64 0,.slice none 0 0])
   replace HKD:=am (R_far HKD.out (fun kk h1 _=>row_block _ (w.heap.size) kk #[.int .i64 28,.int .i64 a0,.int .i64 0,.string ⟨#[]⟩,.slice (some ⟨(w7).heap.size,0,none⟩) 2 2,.slice none 0 0,.int .i64 0,.string ⟨#[]⟩,.int .i64 0,.slice none 0 0] (by omega)))
   replace HR:=am (has_row HR.out #[.int .i64 28,.int .i64 a0,.int .i64 0,.string ⟨#[]⟩,.slice (some ⟨(w7).heap.size,0,none⟩) 2 2,.slice none 0 0,.int .i64 0,.string ⟨#[]⟩,.int .i64 0,.slice none 0 0])
   have HE:Aside0 (R = .ok (mkE 28 a0 0 ⟨#[]⟩ [x,y] [],false) l2):=⟨by rw [HEQ.out];simp [needP,PR.andThen,HA.out,HW.out,HB.out,HY.out]⟩
   refine bodyPost_ret (results_ct rfl _ _ w.heap.size 27 #[.int .i64 28,.int .i64 a0,.int .i64 0,.string ⟨#[]⟩,.slice (some ⟨(w7).heap.size,0,none⟩) 2 2,.slice none 0 0,.int .i64 0,.string ⟨#[]⟩,.int .i64 0,.slice none 0 0] (0,0) _ rfl HR.out Tryd.underlying27 rfl (by rfl)) rfl ?_
   rw [HE.out]
   exact ⟨HK.out,_,rfl,⟨_,rfl,((VO.node 28 a0 0 ⟨#[]⟩ HKD.out).lower (by omega))⟩,HP.out⟩
  ·have HY:=am hr
   refine .inr ⟨_,rfl, ?_⟩
   replace HK:=am (Kept.then_ HK.out hk)
   replace HR:=am (Kept.has hk HR.out (by omega))
   replace Vx:=am (VO.kps Vx.out HP.out hk)
   replace HX:=am (Kept.has hk HX.out (by omega))
   have hs7:=Kept.size hk
   try simp at hs7
   rw [<- hQQ]
   have HE:Aside0 (R = .bad bb er):=⟨by rw [HEQ.out];simp [needP,PR.andThen,HA.out,HW.out,HB.out,HY.out]⟩
   have he:=HE.out
   subst he
   exact ⟨rfl,HK.out,rfl⟩
 | false =>
 have HW:=am hHW
 clear hHW
 have st5:=tt
 go_wp2_with ((
       go_at_call 41
       clear st5
       go_must (
        (with_reducible refine Calls.mono (take_no sWhile HP.out HW.out) ?_)
        rintro en w4 ⟨he4,hk4,hp4⟩
        subst he4
        replace HK:=am (Kept.then_ HK.out hk4)
        replace HR:=am (Kept.has hk4 HR.out (by omega))
        replace HP:=am hp4
        have hs4:=Kept.size hk4
        try simp at hs4
        have st6:=tt)))
 clear st6
 cases hHO:isP sLoop l with
 | true =>
  have HO:=am hHO
  clear hHO
  have st7:=tt
  go_wp2_with ((
        go_at_call 41
        clear st7
        go_must (
         (with_reducible refine Calls.mono (take_yes sLoop HP.out HO.out) ?_)
         rintro en w5 ⟨he5,hk5,hp5⟩
         subst he5
         replace HK:=am (Kept.then_ HK.out hk5)
         replace HR:=am (Kept.has hk5 HR.out (by omega))
         replace HP:=am hp5
         have hs5:=Kept.size hk5
         try simp at hs5
         have st8:=tt)))
  clear st8
  cases hHB:blockP e n (d + 1) l.tail with
  | out=>exact absurd (by rw [HEQ.out];simp [needP,PR.andThen,HA.out,HW.out,HO.out,hHB]) HNE.out
  | bad bb er =>
   have HB:=am hHB
   have HBN:=am (show blockP e n (d + 1) l.tail ≠ .out by rw [hHB];exact PR.bad_ne _ _)
   clear hHB
   have st9:=tt
   go_wp2_with ((
         go_at_call 47
         clear st9
         go_must (
          (with_reducible refine Calls.mono (HBB.out g e (d + 1) l.tail _ (by omega) (by omega) HP.out HBN.out) ?_)
          rintro en w6 ⟨hk6,he6⟩
          rw [HB.out] at he6
          subst he6
          replace HK:=am (Kept.then_ HK.out hk6)
          replace HR:=am (Kept.has hk6 HR.out (by omega))
          have hs6:=Kept.size hk6
          try simp at hs6
          have st10:=tt)))
   clear st10
   have HE:Aside0 (R = .bad bb er):=⟨by rw [HEQ.out];simp [needP,PR.andThen,HA.out,HW.out,HO.out,HB.out]⟩
   rw [HE.out]
   exact ⟨rfl,HK.out,rfl⟩
  | ok x l1 =>
  have HB:=am hHB
  have HBN:=am (show blockP e n (d + 1) l.tail ≠ .out by rw [hHB];exact PR.ok_ne _ _)
  clear hHB
  have st9:=tt
  go_wp2_with (first
    | (
     go_at_call 47
     clear st9
     go_must (
      (with_reducible refine Calls.mono (HBB.out g e (d + 1) l.tail _ (by omega) (by omega) HP.out HBN.out) ?_)
      rintro en w6 ⟨hk6,he6⟩
      rw [HB.out] at he6
      obtain ⟨v6,rfl,hv6,hp6⟩:=he6
      obtain ⟨x4,xc4,x5,xc5,x9,xc9,rfl⟩:=(hv6).form
      have Vx:=am (VO.lower hv6 (show w.heap.size + 1 <= _ by (have:=HR.out.lt;omega)))
      clear hv6
      replace HK:=am (Kept.then_ HK.out hk6)
      replace HR:=am (Kept.has hk6 HR.out (by omega))
      replace HP:=am hp6
      have hs6:=Kept.size hk6
      try simp at hs6
      obtain ⟨Mx,Lx⟩:=VO.lit (cs:=[.int .i64 x.f0,.int .i64 x.f1,.int .i64 x.f2,.string x.f3,.slice x4 x.f4.length xc4,.slice x5 x.f5.length xc5,.int .i64 x.f6.f0,.string x.f6.f1,.int .i64 x.f6.f2,.slice x9 x.f6.f3.length xc9]) Vx.out
      have HKD:Aside0 (k27.R 27 ((w6).alloc (Obj.cells #[.int .i64 x.f0,.int .i64 x.f1,.int .i64 x.f2,.string x.f3,.slice x4 x.f4.length xc4,.slice x5 x.f5.length xc5,.int .i64 x.f6.f0,.string x.f6.f1,.int .i64 x.f6.f2,.slice x9 x.f6.f3.length xc9] 27)) (w.heap.size + 1) Any (.slice (some ⟨(w6).heap.size,0,none⟩) 1 1) [x]):=⟨by have h:=kids_lit (w6) (w.heap.size + 1) (by (have:=HR.out.lt;omega)) trivial (xs:=[x]) (reps_one Mx Lx) (by simp);exact h⟩
      clear Mx Lx
      have ba2:=below_alloc (Below.refl (w6).heap.size (w6)) (Obj.cells #[.int .i64 x.f0,.int .i64 x.f1,.int .i64 x.f2,.string x.f3,.slice x4 x.f4.length xc4,.slice x5 x.f5.length xc5,.int .i64 x.f6.f0,.string x.f6.f1,.int .i64 x.f6.f2,.slice x9 x.f6.f3.length xc9] 27)
      replace HK:=am (Kept.below HK.out ba2)
      replace HP:=am (HP.out.below ba2)
      replace HR:=am (HR.out.belowS ba2)
      replace Vx:=am (Vx.out.below ba2)
      clear ba2
      have c7:=hci HR.out 0 rfl
      have f7:=Has.frozen HR.out 0
      have c8:=hci HR.out 4 rfl
      have f8:=Has.frozen HR.out 4
      have q8:Has (World.setCell ((w6.alloc (Obj.cells #[.int .i64 x.f0,.int .i64 x.f1,.int .i64 x.f2,.string x.f3,.slice x4 x.f4.length xc4,.slice x5 x.f5.length xc5,.int .i64 x.f6.f0,.string x.f6.f1,.int .i64 x.f6.f2,.slice x9 x.f6.f3.length xc9] 27))) ⟨w.heap.size,0,none⟩ (.int .i64 29)) (w.heap.size) #[.int .i64 29,.int .i64 a0,.int .i64 0,.string ⟨#[]⟩,.slice none 0 0,.slice none 0 0,.int .i64 0,.string ⟨#[]⟩,.int .i64 0,.slice none 0 0] 27:=Has.set_ (HR.out) 0 (.int .i64 29)
      have cc8:=hci q8 4 rfl
      have ff8:=q8.frozen 4
      clear q8
      have st10:=tt))
    | (
     (with_reducible refine gate_dst (N:=48) rfl ?_)
     clear st10
     go_must (
      clear c7 f7 c8 f8 cc8 ff8
      replace HK:=am (Kept.setCellX HK.out (a:=⟨w.heap.size,0,none⟩) (.inr (by show w.heap.size <= w.heap.size;omega)) (.int .i64 29))
      replace HP:=am (PS.setT HP.out HR.out (by decide) (by decide) 0 (.int .i64 29))
      replace Vx:=am (VO.setO Vx.out (a:=⟨w.heap.size,0,none⟩) (fun kk h1 h2=>by show kk ≠ w.heap.size;omega) (.int .i64 29))
      replace HKD:=am (R_far HKD.out (fun kk h1 _=>Below.heap_setCell _ ⟨w.heap.size,0,none⟩ (.int .i64 29) kk (by show kk ≠ w.heap.size;omega)))
      replace HR:Aside0 (Has (((w6.alloc (Obj.cells #[.int .i64 x.f0,.int .i64 x.f1,.int .i64 x.f2,.string x.f3,.slice x4 x.f4.length xc4,.slice x5 x.f5.length xc5,.int .i64 x.f6.f0,.string x.f6.f1,.int .i64 x.f6.f2,.slice x9 x.f6.f3.length xc9] 27))).setCell ⟨w.heap.size,0,none⟩ (.int .i64 29)) (w.heap.size) #[.int .i64 29,.int .i64 a0,.int .i64 0,.string ⟨#[]⟩,.slice none 0 0,.slice none 0 0,.int .i64 0,.string ⟨#[]⟩,.int .i64 0,.slice none 0 0] 27):=⟨by have h:=Has.set_ HR.out 0 (.int .i64 29);exact h⟩
      replace HK:=am (Kept.setCellX HK.out (a:=⟨w.heap.size,4,none⟩) (.inr (by show w.heap.size <= w.heap.size;omega)) (.slice (some ⟨(w6).heap.size,0,none⟩) 1 1))
      replace HP:=am (PS.setT HP.out HR.out (by decide) (by decide) 4 (.slice (some ⟨(w6).heap.size,0,none⟩) 1 1))
      replace Vx:=am (VO.setO Vx.out (a:=⟨w.heap.size,4,none⟩) (fun kk h1 h2=>by show kk ≠ w.heap.size;omega) (.slice (some ⟨(w6).heap.size,0,none⟩) 1 1))
      replace HKD:=am (R_far HKD.out (fun kk h1 _=>Below.heap_setCell _ ⟨w.heap.size,4,none⟩ (.slice (some ⟨(w6).heap.size,0,none⟩) 1 1) kk (by show kk ≠ w.heap.size;omega)))
      replace HR:Aside0 (Has (((((w6.alloc (Obj.cells #[.int .i64 x.f0,.int .i64 x.f1,.int .i64 x.f2,.string x.f3,.slice x4 x.f4.length xc4,.slice x5 x.f5.length xc5,.int .i64 x.f6.f0,.string x.f6.f1,.int .i64 x.f6.f2,.slice x9 x.f6.f3.length xc9] 27))).setCell ⟨w.heap.size,0,none⟩ (.int .i64 29))).setCell ⟨w.heap.size,4,none⟩ (.slice (some ⟨(w6).heap.size,0,none⟩) 1 1)) (w.heap.size) #[.int .i64 29,.int .i64 a0,.int .i64 0,.string ⟨#[]⟩,.slice (some ⟨(w6).heap.size,0,none⟩) 1 1,.slice none 0 0,.int .i64 0,.string ⟨#[]⟩,.int .i64 0,.slice none 0 0] 27):=⟨by have h:=Has.set_ HR.out 4 (.slice (some ⟨(w6).heap.size,0,none⟩) 1 1);exact h⟩
      refine Kd.event_run rfl (load27 (((((w6.alloc (Obj.cells #[.int .i64 x.f0,.int .i64 x.f1,.int .i64 x.f2,.string x.f3,.slice x4 x.f4.length xc4,.slice x5 x.f5.length xc5,.int .i64 x.f6.f0,.string x.f6.f1,.int .i64 x.f6.f2,.slice x9 x.f6.f3.length xc9] 27))).setCell ⟨w.heap.size,0,none⟩ (.int .i64 29))).setCell ⟨w.heap.size,4,none⟩ (.slice (some ⟨(w6).heap.size,0,none⟩) 1 1)) (w.heap.size) #[.int .i64 29,.int .i64 a0,.int .i64 0,.string ⟨#[]⟩,.slice (some ⟨(w6).heap.size,0,none⟩) 1 1,.slice none 0 0,.int .i64 0,.string ⟨#[]⟩,.int .i64 0,.slice none 0 0] HR.out rfl _ _ _ rfl rfl) ?_
      have st11:=tt))
    | (
     (with_reducible refine gate_store (t:=27) (p:=4) rfl ?_)
     clear st11
     go_must (
      refine store_event (t:=27) (p:=4) (v:=.tmp 48) (w1:=World.setRow (((((w6.alloc (Obj.cells #[.int .i64 x.f0,.int .i64 x.f1,.int .i64 x.f2,.string x.f3,.slice x4 x.f4.length xc4,.slice x5 x.f5.length xc5,.int .i64 x.f6.f0,.string x.f6.f1,.int .i64 x.f6.f2,.slice x9 x.f6.f3.length xc9] 27))).setCell ⟨w.heap.size,0,none⟩ (.int .i64 29))).setCell ⟨w.heap.size,4,none⟩ (.slice (some ⟨(w6).heap.size,0,none⟩) 1 1)) (w.heap.size) #[.int .i64 29,.int .i64 a0,.int .i64 0,.string ⟨#[]⟩,.slice (some ⟨(w6).heap.size,0,none⟩) 1 1,.slice none 0 0,.int .i64 0,.string ⟨#[]⟩,.int .i64 0,.slice none 0 0]) ?hg ?ho ?hn ?hr ?_
      (case ho=>rfl)
      (case hg=>rfl)
      (case hn=>rfl)
      (case hr=>exact store27 (((((w6.alloc (Obj.cells #[.int .i64 x.f0,.int .i64 x.f1,.int .i64 x.f2,.string x.f3,.slice x4 x.f4.length xc4,.slice x5 x.f5.length xc5,.int .i64 x.f6.f0,.string x.f6.f1,.int .i64 x.f6.f2,.slice x9 x.f6.f3.length xc9] 27))).setCell ⟨w.heap.size,0,none⟩ (.int .i64 29))).setCell ⟨w.heap.size,4,none⟩ (.slice (some ⟨(w6).heap.size,0,none⟩) 1 1)) (w.heap.size) _ _ HR.out rfl rfl (by first | kernel_rfl | (simp [Value.oneCell'])) _ _ _ _ rfl rfl rfl)
      intro w79 hw79
      subst hw79
      have st12:=tt)))
  clear st12
  replace HK:=am (kept_rowX HK.out (g:=w.heap.size) (.inr (by show w.heap.size <= w.heap.size;omega)) #[.int .i64 29,.int .i64 a0,.int .i64 0,.string ⟨#[]⟩,.slice (some ⟨(w6).heap.size,0,none⟩) 1 1,.slice none 0 0,.int .i64 0,.string ⟨#[]⟩,.int .i64 0,.slice none 0 0])
  replace HP:=am (PS.rowP HP.out HR.out #[.int .i64 29,.int .i64 a0,.int .i64 0,.string ⟨#[]⟩,.slice (some ⟨(w6).heap.size,0,none⟩) 1 1,.slice none 0 0,.int .i64 0,.string ⟨#[]⟩,.int .i64 0,.slice none 0 0])
  replace Vx:=am (VO.rowO Vx.out (g:=w.heap.size) (fun kk h1 h2=>by omega) #[.int .i64 29,.int .i64 a0,.int .i64 0,.string ⟨#[]⟩,.slice (some ⟨(w6).heap.size,0,none⟩) 1 1,.slice none 0 0,.int .i64 0,.string ⟨#[]⟩,.int .i64 0,.slice none 0 0])
  replace HKD:=am (R_far HKD.out (fun kk h1 _=>row_block _ (w.heap.size) kk #[.int .i64 29,.int .i64 a0,.int .i64 0,.string ⟨#[]⟩,.slice (some ⟨(w6).heap.size,0,none⟩) 1 1,.slice none 0 0,.int .i64 0,.string ⟨#[]⟩,.int .i64 0,.slice none 0 0] (by omega)))
  replace HR:=am (has_row HR.out #[.int .i64 29,.int .i64 a0,.int .i64 0,.string ⟨#[]⟩,.slice (some ⟨(w6).heap.size,0,none⟩) 1 1,.slice none 0 0,.int .i64 0,.string ⟨#[]⟩,.int .i64 0,.slice none 0 0])
  have HE:Aside0 (R = .ok (mkE 29 a0 0 ⟨#[]⟩ [x] [],false) l1):=⟨by rw [HEQ.out];simp [needP,PR.andThen,HA.out,HW.out,HO.out,HB.out]⟩
  refine bodyPost_ret (results_ct rfl _ _ w.heap.size 27 #[.int .i64 29,.int .i64 a0,.int .i64 0,.string ⟨#[]⟩,.slice (some ⟨(w6).heap.size,0,none⟩) 1 1,.slice none 0 0,.int .i64 0,.string ⟨#[]⟩,.int .i64 0,.slice none 0 0] (0,0) _ rfl HR.out Tryd.underlying27 rfl (by rfl)) rfl ?_
  rw [HE.out]
  exact ⟨HK.out,_,rfl,⟨_,rfl,((VO.node 29 a0 0 ⟨#[]⟩ HKD.out).lower (by omega))⟩,HP.out⟩
 | false =>
 have HO:=am hHO
 clear hHO
 have st7:=tt
 go_wp2_with ((
       go_at_call 41
       clear st7
       go_must (
        (with_reducible refine Calls.mono (take_no sLoop HP.out HO.out) ?_)
        rintro en w5 ⟨he5,hk5,hp5⟩
        subst he5
        replace HK:=am (Kept.then_ HK.out hk5)
        replace HR:=am (Kept.has hk5 HR.out (by omega))
        replace HP:=am hp5
        have hs5:=Kept.size hk5
        try simp at hs5
        have st8:=tt)))
 clear st8
 cases hHBR:isP sBreak l with
 | true =>
  have HBR:=am hHBR
  clear hHBR
  have st9:=tt
  go_wp2_with ((
        go_at_call 41
        clear st9
        go_must (
         (with_reducible refine Calls.mono (take_yes sBreak HP.out HBR.out) ?_)
         rintro en w6 ⟨he6,hk6,hp6⟩
         subst he6
         replace HK:=am (Kept.then_ HK.out hk6)
         replace HR:=am (Kept.has hk6 HR.out (by omega))
         replace HP:=am hp6
         have hs6:=Kept.size hk6
         try simp at hs6
         have c7:=hci HR.out 0 rfl
         have f7:=Has.frozen HR.out 0
         have st10:=tt)))
  clear st10
  clear c7 f7
  replace HK:=am (Kept.setCellX HK.out (a:=⟨w.heap.size,0,none⟩) (.inr (by show w.heap.size <= w.heap.size;omega)) (.int .i64 30))
  replace HP:=am (PS.setT HP.out HR.out (by decide) (by decide) 0 (.int .i64 30))
  replace HR:Aside0 (Has (w6.setCell ⟨w.heap.size,0,none⟩ (.int .i64 30)) (w.heap.size) #[.int .i64 30,.int .i64 a0,.int .i64 0,.string ⟨#[]⟩,.slice none 0 0,.slice none 0 0,.int .i64 0,.string ⟨#[]⟩,.int .i64 0,.slice none 0 0] 27):=⟨by have h:=Has.set_ HR.out 0 (.int .i64 30);exact h⟩
  cases hHS:isP sSemi l.tail with
  | true =>
   have HS:=am hHS
   clear hHS
   have st11:=tt
   go_wp2_with (first
     | (
      go_at_call 42
      clear st11
      go_must (
       (with_reducible refine Calls.mono (need_yes sSemi HP.out HS.out) ?_)
       rintro en w8 ⟨he8,hk8,hp8⟩
       subst he8
       replace HK:=am (Kept.then_ HK.out hk8)
       replace HR:=am (Kept.has hk8 HR.out (by omega))
       replace HP:=am hp8
       have hs8:=Kept.size hk8
       try simp at hs8
       have st12:=tt))
     | (
      (with_reducible refine gate_dst (N:=90) rfl ?_)
      clear st12
      go_must (
       refine Kd.event_run rfl (load27 w8 (w.heap.size) #[.int .i64 30,.int .i64 a0,.int .i64 0,.string ⟨#[]⟩,.slice none 0 0,.slice none 0 0,.int .i64 0,.string ⟨#[]⟩,.int .i64 0,.slice none 0 0] HR.out rfl _ _ _ rfl rfl) ?_
       have st13:=tt))
     | (
      (with_reducible refine gate_store (t:=27) (p:=4) rfl ?_)
      clear st13
      go_must (
       refine store_event (t:=27) (p:=4) (v:=.tmp 90) (w1:=World.setRow w8 (w.heap.size) #[.int .i64 30,.int .i64 a0,.int .i64 0,.string ⟨#[]⟩,.slice none 0 0,.slice none 0 0,.int .i64 0,.string ⟨#[]⟩,.int .i64 0,.slice none 0 0]) ?hg ?ho ?hn ?hr ?_
       (case ho=>rfl)
       (case hg=>rfl)
       (case hn=>rfl)
       (case hr=>exact store27 w8 (w.heap.size) _ _ HR.out rfl rfl (by first | kernel_rfl | (simp [Value.oneCell'])) _ _ _ _ rfl rfl rfl)
       intro w79 hw79
       subst hw79
       have st14:=tt)))
   clear st14
   replace HK:=am (kept_rowX HK.out (g:=w.heap.size) (.inr (by show w.heap.size <= w.heap.size;omega)) #[.int .i64 30,.int .i64 a0,.int .i64 0,.string ⟨#[]⟩,.slice none 0 0,.slice none 0 0,.int .i64 0,.string ⟨#[]⟩,.int .i64 0,.slice none 0 0])
   replace HP:=am (PS.rowP HP.out HR.out #[.int .i64 30,.int .i64 a0,.int .i64 0,.string ⟨#[]⟩,.slice none 0 0,.slice none 0 0,.int .i64 0,.string ⟨#[]⟩,.int .i64 0,.slice none 0 0])
   replace HR:=am (has_row HR.out #[.int .i64 30,.int .i64 a0,.int .i64 0,.string ⟨#[]⟩,.slice none 0 0,.slice none 0 0,.int .i64 0,.string ⟨#[]⟩,.int .i64 0,.slice none 0 0])
   have HE:Aside0 (R = .ok (mkE 30 a0 0 ⟨#[]⟩ [] [],false) l.tail.tail):=⟨by rw [HEQ.out];simp [needP,PR.andThen,HA.out,HW.out,HO.out,HBR.out,HS.out]⟩
   refine bodyPost_ret (results_ct rfl _ _ w.heap.size 27 #[.int .i64 30,.int .i64 a0,.int .i64 0,.string ⟨#[]⟩,.slice none 0 0,.slice none 0 0,.int .i64 0,.string ⟨#[]⟩,.int .i64 0,.slice none 0 0] (0,0) _ rfl HR.out Tryd.underlying27 rfl (by rfl)) rfl ?_
   rw [HE.out]
   exact ⟨HK.out,_,rfl,⟨_,rfl,(VO.leaf _ _ _ 30 a0 0 ⟨#[]⟩)⟩,HP.out⟩
  | false =>
  have HS:=am hHS
  clear hHS
  have st11:=tt
  go_wp2_with ((
        go_at_call 42
        clear st11
        go_must (
         (with_reducible refine Calls.mono (need_no sSemi HP.out HS.out) ?_)
         rintro en w8 ⟨he8,hk8⟩
         subst he8
         replace HK:=am (Kept.then_ HK.out hk8)
         replace HR:=am (Kept.has hk8 HR.out (by omega))
         have hs8:=Kept.size hk8
         try simp at hs8
         have st12:=tt)))
  clear st12
  have HE:Aside0 (R = .bad (atP e l.tail) 30):=⟨by rw [HEQ.out];simp [needP,PR.andThen,HA.out,HW.out,HO.out,HBR.out,HS.out]⟩
  rw [HE.out]
  exact ⟨rfl,HK.out,rfl⟩
 | false =>
 have HBR:=am hHBR
 clear hHBR
 have st9:=tt
 go_wp2_with ((
       go_at_call 41
       clear st9
       go_must (
        (with_reducible refine Calls.mono (take_no sBreak HP.out HBR.out) ?_)
        rintro en w6 ⟨he6,hk6,hp6⟩
        subst he6
        replace HK:=am (Kept.then_ HK.out hk6)
        replace HR:=am (Kept.has hk6 HR.out (by omega))
        replace HP:=am hp6
        have hs6:=Kept.size hk6
        try simp at hs6
        have st10:=tt)))
 clear st10
 cases hHCO:isP sContinue l with
 | true =>
  have HCO:=am hHCO
  clear hHCO
  have st11:=tt
  go_wp2_with ((
        go_at_call 41
        clear st11
        go_must (
         (with_reducible refine Calls.mono (take_yes sContinue HP.out HCO.out) ?_)
         rintro en w7 ⟨he7,hk7,hp7⟩
         subst he7
         replace HK:=am (Kept.then_ HK.out hk7)
         replace HR:=am (Kept.has hk7 HR.out (by omega))
         replace HP:=am hp7
         have hs7:=Kept.size hk7
         try simp at hs7
         have c8:=hci HR.out 0 rfl
         have f8:=Has.frozen HR.out 0
         have st12:=tt)))
  clear st12
  clear c8 f8
  replace HK:=am (Kept.setCellX HK.out (a:=⟨w.heap.size,0,none⟩) (.inr (by show w.heap.size <= w.heap.size;omega)) (.int .i64 31))
  replace HP:=am (PS.setT HP.out HR.out (by decide) (by decide) 0 (.int .i64 31))
  replace HR:Aside0 (Has (w7.setCell ⟨w.heap.size,0,none⟩ (.int .i64 31)) (w.heap.size) #[.int .i64 31,.int .i64 a0,.int .i64 0,.string ⟨#[]⟩,.slice none 0 0,.slice none 0 0,.int .i64 0,.string ⟨#[]⟩,.int .i64 0,.slice none 0 0] 27):=⟨by have h:=Has.set_ HR.out 0 (.int .i64 31);exact h⟩
  cases hHS:isP sSemi l.tail with
  | true =>
   have HS:=am hHS
   clear hHS
   have st13:=tt
   go_wp2_with (first
     | (
      go_at_call 42
      clear st13
      go_must (
       (with_reducible refine Calls.mono (need_yes sSemi HP.out HS.out) ?_)
       rintro en w9 ⟨he9,hk9,hp9⟩
       subst he9
       replace HK:=am (Kept.then_ HK.out hk9)
       replace HR:=am (Kept.has hk9 HR.out (by omega))
       replace HP:=am hp9
       have hs9:=Kept.size hk9
       try simp at hs9
       have st14:=tt))
     | (
      (with_reducible refine gate_dst (N:=90) rfl ?_)
      clear st14
      go_must (
       refine Kd.event_run rfl (load27 w9 (w.heap.size) #[.int .i64 31,.int .i64 a0,.int .i64 0,.string ⟨#[]⟩,.slice none 0 0,.slice none 0 0,.int .i64 0,.string ⟨#[]⟩,.int .i64 0,.slice none 0 0] HR.out rfl _ _ _ rfl rfl) ?_
       have st15:=tt))
     | (
      (with_reducible refine gate_store (t:=27) (p:=4) rfl ?_)
      clear st15
      go_must (
       refine store_event (t:=27) (p:=4) (v:=.tmp 90) (w1:=World.setRow w9 (w.heap.size) #[.int .i64 31,.int .i64 a0,.int .i64 0,.string ⟨#[]⟩,.slice none 0 0,.slice none 0 0,.int .i64 0,.string ⟨#[]⟩,.int .i64 0,.slice none 0 0]) ?hg ?ho ?hn ?hr ?_
       (case ho=>rfl)
       (case hg=>rfl)
       (case hn=>rfl)
       (case hr=>exact store27 w9 (w.heap.size) _ _ HR.out rfl rfl (by first | kernel_rfl | (simp [Value.oneCell'])) _ _ _ _ rfl rfl rfl)
       intro w710 hw710
       subst hw710
       have st16:=tt)))
   clear st16
   replace HK:=am (kept_rowX HK.out (g:=w.heap.size) (.inr (by show w.heap.size <= w.heap.size;omega)) #[.int .i64 31,.int .i64 a0,.int .i64 0,.string ⟨#[]⟩,.slice none 0 0,.slice none 0 0,.int .i64 0,.string ⟨#[]⟩,.int .i64 0,.slice none 0 0])
   replace HP:=am (PS.rowP HP.out HR.out #[.int .i64 31,.int .i64 a0,.int .i64 0,.string ⟨#[]⟩,.slice none 0 0,.slice none 0 0,.int .i64 0,.string ⟨#[]⟩,.int .i64 0,.slice none 0 0])
   replace HR:=am (has_row HR.out #[.int .i64 31,.int .i64 a0,.int .i64 0,.string ⟨#[]⟩,.slice none 0 0,.slice none 0 0,.int .i64 0,.string ⟨#[]⟩,.int .i64 0,.slice none 0 0])
   have HE:Aside0 (R = .ok (mkE 31 a0 0 ⟨#[]⟩ [] [],false) l.tail.tail):=⟨by rw [HEQ.out];simp [needP,PR.andThen,HA.out,HW.out,HO.out,HBR.out,HCO.out,HS.out]⟩
   refine bodyPost_ret (results_ct rfl _ _ w.heap.size 27 #[.int .i64 31,.int .i64 a0,.int .i64 0,.string ⟨#[]⟩,.slice none 0 0,.slice none 0 0,.int .i64 0,.string ⟨#[]⟩,.int .i64 0,.slice none 0 0] (0,0) _ rfl HR.out Tryd.underlying27 rfl (by rfl)) rfl ?_
   rw [HE.out]
   exact ⟨HK.out,_,rfl,⟨_,rfl,(VO.leaf _ _ _ 31 a0 0 ⟨#[]⟩)⟩,HP.out⟩
  | false =>
  have HS:=am hHS
  clear hHS
  have st13:=tt
  go_wp2_with ((
        go_at_call 42
        clear st13
        go_must (
         (with_reducible refine Calls.mono (need_no sSemi HP.out HS.out) ?_)
         rintro en w9 ⟨he9,hk9⟩
         subst he9
         replace HK:=am (Kept.then_ HK.out hk9)
         replace HR:=am (Kept.has hk9 HR.out (by omega))
         have hs9:=Kept.size hk9
         try simp at hs9
         have st14:=tt)))
  clear st14
  have HE:Aside0 (R = .bad (atP e l.tail) 30):=⟨by rw [HEQ.out];simp [needP,PR.andThen,HA.out,HW.out,HO.out,HBR.out,HCO.out,HS.out]⟩
  rw [HE.out]
  exact ⟨rfl,HK.out,rfl⟩
 | false =>
 have HCO:=am hHCO
 clear hHCO
 have st11:=tt
 go_wp2_with ((
       go_at_call 41
       clear st11
       go_must (
        (with_reducible refine Calls.mono (take_no sContinue HP.out HCO.out) ?_)
        rintro en w7 ⟨he7,hk7,hp7⟩
        subst he7
        replace HK:=am (Kept.then_ HK.out hk7)
        replace HR:=am (Kept.has hk7 HR.out (by omega))
        replace HP:=am hp7
        have hs7:=Kept.size hk7
        try simp at hs7
        have st12:=tt)))
 clear st12
 cases hHRE:isP sReturn l with
 | true =>
  have HRE:=am hHRE
  clear hHRE
  have st13:=tt
  go_wp2_with ((
        go_at_call 41
        clear st13
        go_must (
         (with_reducible refine Calls.mono (take_yes sReturn HP.out HRE.out) ?_)
         rintro en w8 ⟨he8,hk8,hp8⟩
         subst he8
         replace HK:=am (Kept.then_ HK.out hk8)
         replace HR:=am (Kept.has hk8 HR.out (by omega))
         replace HP:=am hp8
         have hs8:=Kept.size hk8
         try simp at hs8
         have c9:=hci HR.out 0 rfl
         have f9:=Has.frozen HR.out 0
         have st14:=tt)))
  clear st14
  clear c9 f9
  replace HK:=am (Kept.setCellX HK.out (a:=⟨w.heap.size,0,none⟩) (.inr (by show w.heap.size <= w.heap.size;omega)) (.int .i64 32))
  replace HP:=am (PS.setT HP.out HR.out (by decide) (by decide) 0 (.int .i64 32))
  replace HR:Aside0 (Has (w8.setCell ⟨w.heap.size,0,none⟩ (.int .i64 32)) (w.heap.size) #[.int .i64 32,.int .i64 a0,.int .i64 0,.string ⟨#[]⟩,.slice none 0 0,.slice none 0 0,.int .i64 0,.string ⟨#[]⟩,.int .i64 0,.slice none 0 0] 27):=⟨by have h:=Has.set_ HR.out 0 (.int .i64 32);exact h⟩
  cases hHS:isP sSemi l.tail with
  | true =>
   have HS:=am hHS
   clear hHS
   have st15:=tt
   go_wp2_with (first
     | (
      go_at_call 60
      clear st15
      go_must (
       (with_reducible refine Calls.mono (is_ps sSemi HP.out) ?_)
       rintro en w10 ⟨he10,hb10⟩
       rw [HS.out] at he10
       subst he10
       replace HK:=am (Kept.below HK.out hb10)
       replace HP:=am (HP.out.below hb10)
       replace HR:=am (HR.out.belowS hb10)
       have hs10:=Below.size hb10
       try simp at hs10
       have st16:=tt))
     | (
      go_at_call 42
      clear st16
      go_must (
       (with_reducible refine Calls.mono (need_yes sSemi HP.out HS.out) ?_)
       rintro en w11 ⟨he11,hk11,hp11⟩
       subst he11
       replace HK:=am (Kept.then_ HK.out hk11)
       replace HR:=am (Kept.has hk11 HR.out (by omega))
       replace HP:=am hp11
       have hs11:=Kept.size hk11
       try simp at hs11
       have st17:=tt))
     | (
      (with_reducible refine gate_dst (N:=90) rfl ?_)
      clear st17
      go_must (
       refine Kd.event_run rfl (load27 w11 (w.heap.size) #[.int .i64 32,.int .i64 a0,.int .i64 0,.string ⟨#[]⟩,.slice none 0 0,.slice none 0 0,.int .i64 0,.string ⟨#[]⟩,.int .i64 0,.slice none 0 0] HR.out rfl _ _ _ rfl rfl) ?_
       have st18:=tt))
     | (
      (with_reducible refine gate_store (t:=27) (p:=4) rfl ?_)
      clear st18
      go_must (
       refine store_event (t:=27) (p:=4) (v:=.tmp 90) (w1:=World.setRow w11 (w.heap.size) #[.int .i64 32,.int .i64 a0,.int .i64 0,.string ⟨#[]⟩,.slice none 0 0,.slice none 0 0,.int .i64 0,.string ⟨#[]⟩,.int .i64 0,.slice none 0 0]) ?hg ?ho ?hn ?hr ?_
       (case ho=>rfl)
       (case hg=>rfl)
       (case hn=>rfl)
       (case hr=>exact store27 w11 (w.heap.size) _ _ HR.out rfl rfl (by first | kernel_rfl | (simp [Value.oneCell'])) _ _ _ _ rfl rfl rfl)
       intro w712 hw712
       subst hw712
       have st19:=tt)))
   clear st19
   replace HK:=am (kept_rowX HK.out (g:=w.heap.size) (.inr (by show w.heap.size <= w.heap.size;omega)) #[.int .i64 32,.int .i64 a0,.int .i64 0,.string ⟨#[]⟩,.slice none 0 0,.slice none 0 0,.int .i64 0,.string ⟨#[]⟩,.int .i64 0,.slice none 0 0])
   replace HP:=am (PS.rowP HP.out HR.out #[.int .i64 32,.int .i64 a0,.int .i64 0,.string ⟨#[]⟩,.slice none 0 0,.slice none 0 0,.int .i64 0,.string ⟨#[]⟩,.int .i64 0,.slice none 0 0])
   replace HR:=am (has_row HR.out #[.int .i64 32,.int .i64 a0,.int .i64 0,.string ⟨#[]⟩,.slice none 0 0,.slice none 0 0,.int .i64 0,.string ⟨#[]⟩,.int .i64 0,.slice none 0 0])
   have HE:Aside0 (R = .ok (mkE 32 a0 0 ⟨#[]⟩ [] [],false) l.tail.tail):=⟨by rw [HEQ.out];simp [needP,PR.andThen,HA.out,HW.out,HO.out,HBR.out,HCO.out,HRE.out,HS.out]⟩
   refine bodyPost_ret (results_ct rfl _ _ w.heap.size 27 #[.int .i64 32,.int .i64 a0,.int .i64 0,.string ⟨#[]⟩,.slice none 0 0,.slice none 0 0,.int .i64 0,.string ⟨#[]⟩,.int .i64 0,.slice none 0 0] (0,0) _ rfl HR.out Tryd.underlying27 rfl (by rfl)) rfl ?_
   rw [HE.out]
   exact ⟨HK.out,_,rfl,⟨_,rfl,(VO.leaf _ _ _ 32 a0 0 ⟨#[]⟩)⟩,HP.out⟩
  | false =>
  have HS:=am hHS
  clear hHS
  have st15:=tt
  go_wp2_with ((
        go_at_call 60
        clear st15
        go_must (
         (with_reducible refine Calls.mono (is_ps sSemi HP.out) ?_)
         rintro en w10 ⟨he10,hb10⟩
         rw [HS.out] at he10
         subst he10
         replace HK:=am (Kept.below HK.out hb10)
         replace HP:=am (HP.out.below hb10)
         replace HR:=am (HR.out.belowS hb10)
         have hs10:=Below.size hb10
         try simp at hs10
         have st16:=tt)))
  clear st16
  cases hHB:climbP e n (d + 1) true 1 l.tail with
  | out=>exact absurd (by rw [HEQ.out];simp [needP,PR.andThen,HA.out,HW.out,HO.out,HBR.out,HCO.out,HRE.out,HS.out,hHB]) HNE.out
  | bad bb er =>
   have HB:=am hHB
   have HBN:=am (show climbP e n (d + 1) true 1 l.tail ≠ .out by rw [hHB];exact PR.bad_ne _ _)
   clear hHB
   have st17:=tt
   go_wp2_with ((
         go_at_call 18
         clear st17
         go_must (
          (with_reducible refine Calls.mono (HTT.out g e (d + 1) true l.tail _ (by omega) (by omega) HP.out HBN.out) ?_)
          rintro en w11 ⟨hk11,he11⟩
          rw [HB.out] at he11
          subst he11
          replace HK:=am (Kept.then_ HK.out hk11)
          replace HR:=am (Kept.has hk11 HR.out (by omega))
          have hs11:=Kept.size hk11
          try simp at hs11
          have st18:=tt)))
   clear st18
   have HE:Aside0 (R = .bad bb er):=⟨by rw [HEQ.out];simp [needP,PR.andThen,HA.out,HW.out,HO.out,HBR.out,HCO.out,HRE.out,HS.out,HB.out]⟩
   rw [HE.out]
   exact ⟨rfl,HK.out,rfl⟩
  | ok x l1 =>
  have HB:=am hHB
  have HBN:=am (show climbP e n (d + 1) true 1 l.tail ≠ .out by rw [hHB];exact PR.ok_ne _ _)
  clear hHB
  have st17:=tt
  go_wp2_with ((
        go_at_call 18
        clear st17
        go_must (
         (with_reducible refine Calls.mono (HTT.out g e (d + 1) true l.tail _ (by omega) (by omega) HP.out HBN.out) ?_)
         rintro en w11 ⟨hk11,he11⟩
         rw [HB.out] at he11
         obtain ⟨v11,rfl,hv11,hp11⟩:=he11
         obtain ⟨x4,xc4,x5,xc5,x9,xc9,rfl⟩:=(hv11).form
         have Vx:=am (VO.lower hv11 (show w.heap.size + 1 <= _ by (have:=HR.out.lt;omega)))
         clear hv11
         replace HK:=am (Kept.then_ HK.out hk11)
         replace HR:=am (Kept.has hk11 HR.out (by omega))
         replace HP:=am hp11
         have hs11:=Kept.size hk11
         try simp at hs11
         obtain ⟨Mx,Lx⟩:=VO.lit (cs:=[.int .i64 x.f0,.int .i64 x.f1,.int .i64 x.f2,.string x.f3,.slice x4 x.f4.length xc4,.slice x5 x.f5.length xc5,.int .i64 x.f6.f0,.string x.f6.f1,.int .i64 x.f6.f2,.slice x9 x.f6.f3.length xc9]) Vx.out
         have HKD:Aside0 (k27.R 27 ((w11).alloc (Obj.cells #[.int .i64 x.f0,.int .i64 x.f1,.int .i64 x.f2,.string x.f3,.slice x4 x.f4.length xc4,.slice x5 x.f5.length xc5,.int .i64 x.f6.f0,.string x.f6.f1,.int .i64 x.f6.f2,.slice x9 x.f6.f3.length xc9] 27)) (w.heap.size + 1) Any (.slice (some ⟨(w11).heap.size,0,none⟩) 1 1) [x]):=⟨by have h:=kids_lit (w11) (w.heap.size + 1) (by (have:=HR.out.lt;omega)) trivial (xs:=[x]) (reps_one Mx Lx) (by simp);exact h⟩
         clear Mx Lx
         have ba2:=below_alloc (Below.refl (w11).heap.size (w11)) (Obj.cells #[.int .i64 x.f0,.int .i64 x.f1,.int .i64 x.f2,.string x.f3,.slice x4 x.f4.length xc4,.slice x5 x.f5.length xc5,.int .i64 x.f6.f0,.string x.f6.f1,.int .i64 x.f6.f2,.slice x9 x.f6.f3.length xc9] 27)
         replace HK:=am (Kept.below HK.out ba2)
         replace HP:=am (HP.out.below ba2)
         replace HR:=am (HR.out.belowS ba2)
         replace Vx:=am (Vx.out.below ba2)
         clear ba2
         have c12:=hci HR.out 4 rfl
         have f12:=Has.frozen HR.out 4
         have st18:=tt)))
  clear st18
  clear c12 f12
  replace HK:=am (Kept.setCellX HK.out (a:=⟨w.heap.size,4,none⟩) (.inr (by show w.heap.size <= w.heap.size;omega)) (.slice (some ⟨(w11).heap.size,0,none⟩) 1 1))
  replace HP:=am (PS.setT HP.out HR.out (by decide) (by decide) 4 (.slice (some ⟨(w11).heap.size,0,none⟩) 1 1))
  replace Vx:=am (VO.setO Vx.out (a:=⟨w.heap.size,4,none⟩) (fun kk h1 h2=>by show kk ≠ w.heap.size;omega) (.slice (some ⟨(w11).heap.size,0,none⟩) 1 1))
  replace HKD:=am (R_far HKD.out (fun kk h1 _=>Below.heap_setCell _ ⟨w.heap.size,4,none⟩ (.slice (some ⟨(w11).heap.size,0,none⟩) 1 1) kk (by show kk ≠ w.heap.size;omega)))
  replace HR:Aside0 (Has (((w11.alloc (Obj.cells #[.int .i64 x.f0,.int .i64 x.f1,.int .i64 x.f2,.string x.f3,.slice x4 x.f4.length xc4,.slice x5 x.f5.length xc5,.int .i64 x.f6.f0,.string x.f6.f1,.int .i64 x.f6.f2,.slice x9 x.f6.f3.length xc9] 27))).setCell ⟨w.heap.size,4,none⟩ (.slice (some ⟨(w11).heap.size,0,none⟩) 1 1)) (w.heap.size) #[.int .i64 32,.int .i64 a0,.int .i64 0,.string ⟨#[]⟩,.slice (some ⟨(w11).heap.size,0,none⟩) 1 1,.slice none 0 0,.int .i64 0,.string ⟨#[]⟩,.int .i64 0,.slice none 0 0] 27):=⟨by have h:=Has.set_ HR.out 4 (.slice (some ⟨(w11).heap.size,0,none⟩) 1 1);exact h⟩
  cases hHT2:isP sSemi l1 with
  | true =>
   have HT2:=am hHT2
   clear hHT2
   have st19:=tt
   go_wp2_with (first
     | (
      go_at_call 42
      clear st19
      go_must (
       (with_reducible refine Calls.mono (need_yes sSemi HP.out HT2.out) ?_)
       rintro en w13 ⟨he13,hk13,hp13⟩
       subst he13
       replace HK:=am (Kept.then_ HK.out hk13)
       replace HR:=am (Kept.has hk13 HR.out (by omega))
       replace Vx:=am (VO.kps Vx.out HP.out hk13)
       replace HKD:=am (R_kps HKD.out HP.out hk13)
       replace HP:=am hp13
       have hs13:=Kept.size hk13
       try simp at hs13
       have st20:=tt))
     | (
      (with_reducible refine gate_dst (N:=90) rfl ?_)
      clear st20
      go_must (
       refine Kd.event_run rfl (load27 w13 (w.heap.size) #[.int .i64 32,.int .i64 a0,.int .i64 0,.string ⟨#[]⟩,.slice (some ⟨(w11).heap.size,0,none⟩) 1 1,.slice none 0 0,.int .i64 0,.string ⟨#[]⟩,.int .i64 0,.slice none 0 0] HR.out rfl _ _ _ rfl rfl) ?_
       have st21:=tt))
     | (
      (with_reducible refine gate_store (t:=27) (p:=4) rfl ?_)
      clear st21
      go_must (
       refine store_event (t:=27) (p:=4) (v:=.tmp 90) (w1:=World.setRow w13 (w.heap.size) #[.int .i64 32,.int .i64 a0,.int .i64 0,.string ⟨#[]⟩,.slice (some ⟨(w11).heap.size,0,none⟩) 1 1,.slice none 0 0,.int .i64 0,.string ⟨#[]⟩,.int .i64 0,.slice none 0 0]) ?hg ?ho ?hn ?hr ?_
       (case ho=>rfl)
       (case hg=>rfl)
       (case hn=>rfl)
       (case hr=>exact store27 w13 (w.heap.size) _ _ HR.out rfl rfl (by first | kernel_rfl | (simp [Value.oneCell'])) _ _ _ _ rfl rfl rfl)
       intro w714 hw714
       subst hw714
       have st22:=tt)))
   clear st22
   replace HK:=am (kept_rowX HK.out (g:=w.heap.size) (.inr (by show w.heap.size <= w.heap.size;omega)) #[.int .i64 32,.int .i64 a0,.int .i64 0,.string ⟨#[]⟩,.slice (some ⟨(w11).heap.size,0,none⟩) 1 1,.slice none 0 0,.int .i64 0,.string ⟨#[]⟩,.int .i64 0,.slice none 0 0])
   replace HP:=am (PS.rowP HP.out HR.out #[.int .i64 32,.int .i64 a0,.int .i64 0,.string ⟨#[]⟩,.slice (some ⟨(w11).heap.size,0,none⟩) 1 1,.slice none 0 0,.int .i64 0,.string ⟨#[]⟩,.int .i64 0,.slice none 0 0])
   replace Vx:=am (VO.rowO Vx.out (g:=w.heap.size) (fun kk h1 h2=>by omega) #[.int .i64 32,.int .i64 a0,.int .i64 0,.string ⟨#[]⟩,.slice (some ⟨(w11).heap.size,0,none⟩) 1 1,.slice none 0 0,.int .i64 0,.string ⟨#[]⟩,.int .i64 0,.slice none 0 0])
   replace HKD:=am (R_far HKD.out (fun kk h1 _=>row_block _ (w.heap.size) kk #[.int .i64 32,.int .i64 a0,.int .i64 0,.string ⟨#[]⟩,.slice (some ⟨(w11).heap.size,0,none⟩) 1 1,.slice none 0 0,.int .i64 0,.string ⟨#[]⟩,.int .i64 0,.slice none 0 0] (by omega)))
   replace HR:=am (has_row HR.out #[.int .i64 32,.int .i64 a0,.int .i64 0,.string ⟨#[]⟩,.slice (some ⟨(w11).heap.size,0,none⟩) 1 1,.slice none 0 0,.int .i64 0,.string ⟨#[]⟩,.int .i64 0,.slice none 0 0])
   have HE:Aside0 (R = .ok (mkE 32 a0 0 ⟨#[]⟩ [x] [],false) l1.tail):=⟨by rw [HEQ.out];simp [needP,PR.andThen,HA.out,HW.out,HO.out,HBR.out,HCO.out,HRE.out,HS.out,HB.out,HT2.out]⟩
   refine bodyPost_ret (results_ct rfl _ _ w.heap.size 27 #[.int .i64 32,.int .i64 a0,.int .i64 0,.string ⟨#[]⟩,.slice (some ⟨(w11).heap.size,0,none⟩) 1 1,.slice none 0 0,.int .i64 0,.string ⟨#[]⟩,.int .i64 0,.slice none 0 0] (0,0) _ rfl HR.out Tryd.underlying27 rfl (by rfl)) rfl ?_
   rw [HE.out]
   exact ⟨HK.out,_,rfl,⟨_,rfl,((VO.node 32 a0 0 ⟨#[]⟩ HKD.out).lower (by omega))⟩,HP.out⟩
  | false =>
  have HT2:=am hHT2
  clear hHT2
  have st19:=tt
  go_wp2_with ((
        go_at_call 42
        clear st19
        go_must (
         (with_reducible refine Calls.mono (need_no sSemi HP.out HT2.out) ?_)
         rintro en w13 ⟨he13,hk13⟩
         subst he13
         replace HK:=am (Kept.then_ HK.out hk13)
         replace HR:=am (Kept.has hk13 HR.out (by omega))
         replace Vx:=am (VO.kps Vx.out HP.out hk13)
         replace HKD:=am (R_kps HKD.out HP.out hk13)
         have hs13:=Kept.size hk13
         try simp at hs13
         have st20:=tt)))
  clear st20
  have HE:Aside0 (R = .bad (atP e l1) 30):=⟨by rw [HEQ.out];simp [needP,PR.andThen,HA.out,HW.out,HO.out,HBR.out,HCO.out,HRE.out,HS.out,HB.out,HT2.out]⟩
  rw [HE.out]
  exact ⟨rfl,HK.out,rfl⟩
 | false =>
 have HRE:=am hHRE
 clear hHRE
 have st13:=tt
 go_wp2_with ((
       go_at_call 41
       clear st13
       go_must (
        (with_reducible refine Calls.mono (take_no sReturn HP.out HRE.out) ?_)
        rintro en w8 ⟨he8,hk8,hp8⟩
        subst he8
        replace HK:=am (Kept.then_ HK.out hk8)
        replace HR:=am (Kept.has hk8 HR.out (by omega))
        replace HP:=am hp8
        have hs8:=Kept.size hk8
        try simp at hs8
        have st14:=tt)))
 clear st14
 cases hHONE:oneP [sIf,sMatch,sLbrace] l with
 | true =>
  have HONE:=am hHONE
  clear hHONE
  have bS:=below_alloc (Below.refl (w8).heap.size (w8)) (Obj.cells ([sIf,sMatch,sLbrace].map Value.string).toArray 9)
  have HLS:=lit_S (w8) [sIf,sMatch,sLbrace] (by decide)
  replace HK:=am (Kept.below HK.out bS)
  replace HP:=am (HP.out.below bS)
  replace HR:=am (HR.out.belowS bS)
  clear bS
  have st15:=tt
  go_wp2_with ((
        go_at_call 61
        clear st15
        go_must (
         refine Calls.mono (one_ps [sIf,sMatch,sLbrace] (some ⟨(w8).heap.size,0,none⟩) 3 HP.out HLS (by decide)) ?_
         rintro en w10 ⟨he10,hb10⟩
         rw [HONE.out] at he10
         subst he10
         clear HLS
         replace HK:=am (Kept.below HK.out hb10)
         replace HP:=am (HP.out.below hb10)
         replace HR:=am (HR.out.belowS hb10)
         have hs10:=Below.size hb10
         try simp at hs10
         have st16:=tt)))
  clear st16
  cases hHB:closedP e n (d + 1) l with
  | out=>exact absurd (by rw [HEQ.out];simp [needP,PR.andThen,HA.out,HW.out,HO.out,HBR.out,HCO.out,HRE.out,HONE.out,hHB]) HNE.out
  | bad bb er =>
   have HB:=am hHB
   have HBN:=am (show closedP e n (d + 1) l ≠ .out by rw [hHB];exact PR.bad_ne _ _)
   clear hHB
   have st17:=tt
   go_wp2_with ((
         go_at_call 76
         clear st17
         go_must (
          (with_reducible refine Calls.mono (HCC.out g e (d + 1) l _ (by omega) (by omega) HP.out HBN.out) ?_)
          rintro en w11 ⟨hk11,he11⟩
          rw [HB.out] at he11
          subst he11
          replace HK:=am (Kept.then_ HK.out hk11)
          replace HR:=am (Kept.has hk11 HR.out (by omega))
          have hs11:=Kept.size hk11
          try simp at hs11
          have st18:=tt)))
   clear st18
   have HE:Aside0 (R = .bad bb er):=⟨by rw [HEQ.out];simp [needP,PR.andThen,HA.out,HW.out,HO.out,HBR.out,HCO.out,HRE.out,HONE.out,HB.out]⟩
   rw [HE.out]
   exact ⟨rfl,HK.out,rfl⟩
  | ok x l1 =>
  have HB:=am hHB
  have HBN:=am (show closedP e n (d + 1) l ≠ .out by rw [hHB];exact PR.ok_ne _ _)
  clear hHB
  have st17:=tt
  go_wp2_with ((
        go_at_call 76
        clear st17
        go_must (
         (with_reducible refine Calls.mono (HCC.out g e (d + 1) l _ (by omega) (by omega) HP.out HBN.out) ?_)
         rintro en w11 ⟨hk11,he11⟩
         rw [HB.out] at he11
         obtain ⟨v11,rfl,hv11,hp11⟩:=he11
         obtain ⟨x4,xc4,x5,xc5,x9,xc9,rfl⟩:=(hv11).form
         have Vx:=am (VO.lower hv11 (show w.heap.size + 1 <= _ by (have:=HR.out.lt;omega)))
         clear hv11
         replace HK:=am (Kept.then_ HK.out hk11)
         replace HR:=am (Kept.has hk11 HR.out (by omega))
         replace HP:=am hp11
         have hs11:=Kept.size hk11
         try simp at hs11
         have ba2:=below_alloc (Below.refl (w11).heap.size (w11)) (Obj.cells #[.int .i64 x.f0,.int .i64 x.f1,.int .i64 x.f2,.string x.f3,.slice x4 x.f4.length xc4,.slice x5 x.f5.length xc5,.int .i64 x.f6.f0,.string x.f6.f1,.int .i64 x.f6.f2,.slice x9 x.f6.f3.length xc9] 27)
         replace HK:=am (Kept.below HK.out ba2)
         replace HP:=am (HP.out.below ba2)
         replace HR:=am (HR.out.belowS ba2)
         replace Vx:=am (Vx.out.below ba2)
         clear ba2
         have HX:=am (Has.new (w11) #[.int .i64 x.f0,.int .i64 x.f1,.int .i64 x.f2,.string x.f3,.slice x4 x.f4.length xc4,.slice x5 x.f5.length xc5,.int .i64 x.f6.f0,.string x.f6.f1,.int .i64 x.f6.f2,.slice x9 x.f6.f3.length xc9] 27)
         have st18:=tt)))
  clear st18
  cases hHRB:isP sRbrace l1 with
  | true =>
   have HRB:=am hHRB
   clear hHRB
   have st19:=tt
   go_wp2_with (first
     | (
      go_at_call 60
      clear st19
      go_must (
       (with_reducible refine Calls.mono (is_ps sRbrace HP.out) ?_)
       rintro en w12 ⟨he12,hb12⟩
       rw [HRB.out] at he12
       subst he12
       replace HK:=am (Kept.below HK.out hb12)
       replace HP:=am (HP.out.below hb12)
       replace HR:=am (HR.out.belowS hb12)
       replace Vx:=am (Vx.out.below hb12)
       replace HX:=am (HX.out.belowS hb12)
       have hs12:=Below.size hb12
       try simp at hs12
       have st20:=tt))
     | (
      (with_reducible refine gate_dst (N:=80) rfl ?_)
      clear st20
      go_must (
       refine Kd.event_run rfl (load27 w12 (w11.heap.size) #[.int .i64 x.f0,.int .i64 x.f1,.int .i64 x.f2,.string x.f3,.slice x4 x.f4.length xc4,.slice x5 x.f5.length xc5,.int .i64 x.f6.f0,.string x.f6.f1,.int .i64 x.f6.f2,.slice x9 x.f6.f3.length xc9] HX.out rfl _ _ _ rfl rfl) ?_
       have st21:=tt))
     | (
      (with_reducible refine gate_store (t:=27) (p:=4) rfl ?_)
      clear st21
      go_must (
       refine store_event (t:=27) (p:=4) (v:=.tmp 80) (w1:=World.setRow w12 (w.heap.size) #[.int .i64 x.f0,.int .i64 x.f1,.int .i64 x.f2,.string x.f3,.slice x4 x.f4.length xc4,.slice x5 x.f5.length xc5,.int .i64 x.f6.f0,.string x.f6.f1,.int .i64 x.f6.f2,.slice x9 x.f6.f3.length xc9]) ?hg ?ho ?hn ?hr ?_
       (case ho=>rfl)
       (case hg=>rfl)
       (case hn=>rfl)
       (case hr=>exact store27 w12 (w.heap.size) _ _ HR.out rfl rfl (by first | kernel_rfl | (simp [Value.oneCell'])) _ _ _ _ rfl rfl rfl)
       intro w713 hw713
       subst hw713
       have st22:=tt)))
   clear st22
   replace HK:=am (kept_rowX HK.out (g:=w.heap.size) (.inr (by show w.heap.size <= w.heap.size;omega)) #[.int .i64 x.f0,.int .i64 x.f1,.int .i64 x.f2,.string x.f3,.slice x4 x.f4.length xc4,.slice x5 x.f5.length xc5,.int .i64 x.f6.f0,.string x.f6.f1,.int .i64 x.f6.f2,.slice x9 x.f6.f3.length xc9])
   replace HP:=am (PS.rowP HP.out HR.out #[.int .i64 x.f0,.int .i64 x.f1,.int .i64 x.f2,.string x.f3,.slice x4 x.f4.length xc4,.slice x5 x.f5.length xc5,.int .i64 x.f6.f0,.string x.f6.f1,.int .i64 x.f6.f2,.slice x9 x.f6.f3.length xc9])
   replace Vx:=am (VO.rowO Vx.out (g:=w.heap.size) (fun kk h1 h2=>by omega) #[.int .i64 x.f0,.int .i64 x.f1,.int .i64 x.f2,.string x.f3,.slice x4 x.f4.length xc4,.slice x5 x.f5.length xc5,.int .i64 x.f6.f0,.string x.f6.f1,.int .i64 x.f6.f2,.slice x9 x.f6.f3.length xc9])
   replace HX:=am (has_row_other HX.out (g:=w.heap.size) (cs':=#[.int .i64 x.f0,.int .i64 x.f1,.int .i64 x.f2,.string x.f3,.slice x4 x.f4.length xc4,.slice x5 x.f5.length xc5,.int .i64 x.f6.f0,.string x.f6.f1,.int .i64 x.f6.f2,.slice x9 x.f6.f3.length xc9]) (by omega))
   replace HR:=am (has_row HR.out #[.int .i64 x.f0,.int .i64 x.f1,.int .i64 x.f2,.string x.f3,.slice x4 x.f4.length xc4,.slice x5 x.f5.length xc5,.int .i64 x.f6.f0,.string x.f6.f1,.int .i64 x.f6.f2,.slice x9 x.f6.f3.length xc9])
   have HE:Aside0 (R = .ok (x,true) l1):=⟨by rw [HEQ.out];simp [needP,PR.andThen,HA.out,HW.out,HO.out,HBR.out,HCO.out,HRE.out,HONE.out,HB.out,HRB.out]⟩
   refine bodyPost_ret (results_ct rfl _ _ w.heap.size 27 #[.int .i64 x.f0,.int .i64 x.f1,.int .i64 x.f2,.string x.f3,.slice x4 x.f4.length xc4,.slice x5 x.f5.length xc5,.int .i64 x.f6.f0,.string x.f6.f1,.int .i64 x.f6.f2,.slice x9 x.f6.f3.length xc9] (0,0) _ rfl HR.out Tryd.underlying27 rfl (by rfl)) rfl ?_
   rw [HE.out]
   exact ⟨HK.out,_,rfl,⟨_,rfl,(Vx.out.lower (by omega))⟩,HP.out⟩
  | false =>
  have HRB:=am hHRB
  clear hHRB
  have st19:=tt
  go_wp2_with ((
        go_at_call 60
        clear st19
        go_must (
         (with_reducible refine Calls.mono (is_ps sRbrace HP.out) ?_)
         rintro en w12 ⟨he12,hb12⟩
         rw [HRB.out] at he12
         subst he12
         replace HK:=am (Kept.below HK.out hb12)
         replace HP:=am (HP.out.below hb12)
         replace HR:=am (HR.out.belowS hb12)
         replace Vx:=am (Vx.out.below hb12)
         replace HX:=am (HX.out.belowS hb12)
         have hs12:=Below.size hb12
         try simp at hs12
         have st20:=tt)))
  clear st20
  obtain ⟨ll,hll⟩:∃ ll,(if isP sSemi l1 = true then l1.tail else l1) = ll:=⟨_,rfl⟩
  have HLL2:=am hll
  clear hll
  have st21:=tt
  go_wp2_with ((
        go_at_call 41
        clear st21
        go_must (
         (with_reducible refine Calls.mono (take_said g l1 e sSemi _ HP.out) ?_)
         rintro en w13 ⟨he13,hk13,hp13⟩
         subst he13
         rw [HLL2.out] at hp13
         replace HK:=am (Kept.then_ HK.out hk13)
         replace HR:=am (Kept.has hk13 HR.out (by omega))
         replace Vx:=am (VO.kps Vx.out HP.out hk13)
         replace HX:=am (Kept.has hk13 HX.out (by omega))
         replace HP:=am hp13
         have hs13:=Kept.size hk13
         try simp at hs13
         have st22:=tt)))
  clear st22
  have hD:=below_drew (Below.refl (w13).heap.size (w13))
  replace HK:=am (Kept.below HK.out hD)
  replace HP:=am (HP.out.below hD)
  replace HR:=am (HR.out.belowS hD)
  replace Vx:=am (Vx.out.below hD)
  replace HX:=am (HX.out.belowS hD)
  clear hD
  obtain ⟨W1,hW1⟩:∃ W,(w13).drew = W:=⟨_,rfl⟩
  rw [hW1] at HK HP HR Vx HX
  have hzW1:(w13).heap.size <= W1.heap.size:=by rw [<- hW1];exact Nat.le_refl _
  try simp at hzW1
  refine region_treeR 4 (by kernel_rfl) (by kernel_rfl) (fun w' => Has w' (w11.heap.size) #[.int .i64 x.f0,.int .i64 x.f1,.int .i64 x.f2,.string x.f3,.slice x4 x.f4.length xc4,.slice x5 x.f5.length xc5,.int .i64 x.f6.f0,.string x.f6.f1,.int .i64 x.f6.f2,.slice x9 x.f6.f3.length xc9] 27) (hW1 ▸ HX.out) fun hS => ?_
  rw [hW1] at hS ⊢
  clear hW1
  simp only [List.take_succ_cons,List.take_zero]
  generalize hQQ:tailK _ _ = QQ
  have hsure:Sure QQ:=by
   rw [<- hQQ]
   intro c a a' w1 hd h
   simp +zetaDelta only [tailK,Exit.then,Exit.inBlock,bodyPost] at h ⊢
   simpa [hd] using h
  refine tqh hsure hS 0 ?_
  apply Exists.intro
  apply And.intro
  ·rintro w' k1
   apply VR.mk
   exact load27 w' (w11.heap.size) #[.int .i64 x.f0,.int .i64 x.f1,.int .i64 x.f2,.string x.f3,.slice x4 x.f4.length xc4,.slice x5 x.f5.length xc5,.int .i64 x.f6.f0,.string x.f6.f1,.int .i64 x.f6.f2,.slice x9 x.f6.f3.length xc9] k1 rfl _ _ _ rfl rfl
  try simp only [sA,sB,sC]
  refine tqh hsure hS 2 ?_
  apply Exists.intro
  apply And.intro
  ·rintro w' k1
   apply VR.mk
   go_simp
   with_reducible rfl
  try simp only [sA,sB,sC]
  refine tree_2Q (i:=1) (k:=3) (by kernel_rfl) ?_ ?_
  ·refine step_list (by rfl) ?_
   go_wp2
   obtain ⟨Mx,Lx⟩:=VO.lit (cs:=[.int .i64 x.f0,.int .i64 x.f1,.int .i64 x.f2,.string x.f3,.slice x4 x.f4.length xc4,.slice x5 x.f5.length xc5,.int .i64 x.f6.f0,.string x.f6.f1,.int .i64 x.f6.f2,.slice x9 x.f6.f3.length xc9]) Vx.out
   have HKD:Aside0 (k27.R 27 ((W1).alloc (Obj.cells #[.int .i64 x.f0,.int .i64 x.f1,.int .i64 x.f2,.string x.f3,.slice x4 x.f4.length xc4,.slice x5 x.f5.length xc5,.int .i64 x.f6.f0,.string x.f6.f1,.int .i64 x.f6.f2,.slice x9 x.f6.f3.length xc9] 27)) (w.heap.size + 1) Any (.slice (some ⟨(W1).heap.size,0,none⟩) 1 1) [x]):=⟨by have h:=kids_lit (W1) (w.heap.size + 1) (by (have:=HR.out.lt;omega)) trivial (xs:=[x]) (reps_one Mx Lx) (by simp);exact h⟩
   clear Mx Lx
   have ba3:=below_alloc (Below.refl (W1).heap.size (W1)) (Obj.cells #[.int .i64 x.f0,.int .i64 x.f1,.int .i64 x.f2,.string x.f3,.slice x4 x.f4.length xc4,.slice x5 x.f5.length xc5,.int .i64 x.f6.f0,.string x.f6.f1,.int .i64 x.f6.f2,.slice x9 x.f6.f3.length xc9] 27)
   replace HK:=am (Kept.below HK.out ba3)
   replace HP:=am (HP.out.below ba3)
   replace HR:=am (HR.out.belowS ba3)
   replace Vx:=am (Vx.out.below ba3)
   replace HX:=am (HX.out.belowS ba3)
   clear ba3
   refine ⟨HX.out, ?_⟩
   refine tree_1Q (i:=3) (by kernel_rfl) ?_
   refine step_list (by rfl) ?_
   have c14:=hci HR.out 0 rfl
   have f14:=Has.frozen HR.out 0
   go_wp2
   clear c14 f14
   replace HK:=am (Kept.setCellX HK.out (a:=⟨w.heap.size,0,none⟩) (.inr (by show w.heap.size <= w.heap.size;omega)) (.int .i64 35))
   replace HP:=am (PS.setT HP.out HR.out (by decide) (by decide) 0 (.int .i64 35))
   replace Vx:=am (VO.setO Vx.out (a:=⟨w.heap.size,0,none⟩) (fun kk h1 h2=>by show kk ≠ w.heap.size;omega) (.int .i64 35))
   replace HX:=am (Has.other HX.out (a:=⟨w.heap.size,0,none⟩) (by show w11.heap.size ≠ w.heap.size;omega) (.int .i64 35))
   replace HKD:=am (R_far HKD.out (fun kk h1 _=>Below.heap_setCell _ ⟨w.heap.size,0,none⟩ (.int .i64 35) kk (by show kk ≠ w.heap.size;omega)))
   replace HR:Aside0 (Has (((W1.alloc (Obj.cells #[.int .i64 x.f0,.int .i64 x.f1,.int .i64 x.f2,.string x.f3,.slice x4 x.f4.length xc4,.slice x5 x.f5.length xc5,.int .i64 x.f6.f0,.string x.f6.f1,.int .i64 x.f6.f2,.slice x9 x.f6.f3.length xc9] 27))).setCell ⟨w.heap.size,0,none⟩ (.int .i64 35)) (w.heap.size) #[.int .i64 35,.int .i64 a0,.int .i64 0,.string ⟨#[]⟩,.slice none 0 0,.slice none 0 0,.int .i64 0,.string ⟨#[]⟩,.int .i64 0,.slice none 0 0] 27):=⟨by have h:=Has.set_ HR.out 0 (.int .i64 35);exact h⟩
   refine ⟨HX.out, ?_⟩
   rw [<- hQQ]
   refine tree_doneR (by kernel_rfl) ?_
   refine restQ_tree (fun _=>True) ?_
   clear hsure hS hQQ
   refine tqh (by intro c a a' w1 hd h;simp +zetaDelta only [Exit.then,Exit.inBlock,bodyPost] at h ⊢; simpa [hd] using h) trivial 4 ?_
   apply Exists.intro
   apply And.intro
   ·rintro w' -
    apply VR.mk
    go_simp
    with_reducible rfl
   simp only [sA,sB,sC]
   have c15:=hci HR.out 4 rfl
   have f15:=Has.frozen HR.out 4
   refine tree_1Q (i:=5) (by kernel_rfl) ?_
   refine step_list (by rfl) ?_
   go_wp2
   refine ⟨trivial,tree_endQ (by kernel_rfl) ?_⟩
   clear c15 f15
   replace HK:=am (Kept.setCellX HK.out (a:=⟨w.heap.size,4,none⟩) (.inr (by show w.heap.size <= w.heap.size;omega)) (.slice (some ⟨(W1).heap.size,0,none⟩) 1 1))
   replace HP:=am (PS.setT HP.out HR.out (by decide) (by decide) 4 (.slice (some ⟨(W1).heap.size,0,none⟩) 1 1))
   replace Vx:=am (VO.setO Vx.out (a:=⟨w.heap.size,4,none⟩) (fun kk h1 h2=>by show kk ≠ w.heap.size;omega) (.slice (some ⟨(W1).heap.size,0,none⟩) 1 1))
   replace HX:=am (Has.other HX.out (a:=⟨w.heap.size,4,none⟩) (by show w11.heap.size ≠ w.heap.size;omega) (.slice (some ⟨(W1).heap.size,0,none⟩) 1 1))
   replace HKD:=am (R_far HKD.out (fun kk h1 _=>Below.heap_setCell _ ⟨w.heap.size,4,none⟩ (.slice (some ⟨(W1).heap.size,0,none⟩) 1 1) kk (by show kk ≠ w.heap.size;omega)))
   replace HR:Aside0 (Has (((((W1.alloc (Obj.cells #[.int .i64 x.f0,.int .i64 x.f1,.int .i64 x.f2,.string x.f3,.slice x4 x.f4.length xc4,.slice x5 x.f5.length xc5,.int .i64 x.f6.f0,.string x.f6.f1,.int .i64 x.f6.f2,.slice x9 x.f6.f3.length xc9] 27))).setCell ⟨w.heap.size,0,none⟩ (.int .i64 35))).setCell ⟨w.heap.size,4,none⟩ (.slice (some ⟨(W1).heap.size,0,none⟩) 1 1)) (w.heap.size) #[.int .i64 35,.int .i64 a0,.int .i64 0,.string ⟨#[]⟩,.slice (some ⟨(W1).heap.size,0,none⟩) 1 1,.slice none 0 0,.int .i64 0,.string ⟨#[]⟩,.int .i64 0,.slice none 0 0] 27):=⟨by have h:=Has.set_ HR.out 4 (.slice (some ⟨(W1).heap.size,0,none⟩) 1 1);exact h⟩
   have st23:=tt
   go_wp2_with (first
     | (
      (with_reducible refine gate_dst (N:=87) rfl ?_)
      clear st23
      go_must (
       refine Kd.event_run rfl (load27 (((((W1.alloc (Obj.cells #[.int .i64 x.f0,.int .i64 x.f1,.int .i64 x.f2,.string x.f3,.slice x4 x.f4.length xc4,.slice x5 x.f5.length xc5,.int .i64 x.f6.f0,.string x.f6.f1,.int .i64 x.f6.f2,.slice x9 x.f6.f3.length xc9] 27))).setCell ⟨w.heap.size,0,none⟩ (.int .i64 35))).setCell ⟨w.heap.size,4,none⟩ (.slice (some ⟨(W1).heap.size,0,none⟩) 1 1)) (w.heap.size) #[.int .i64 35,.int .i64 a0,.int .i64 0,.string ⟨#[]⟩,.slice (some ⟨(W1).heap.size,0,none⟩) 1 1,.slice none 0 0,.int .i64 0,.string ⟨#[]⟩,.int .i64 0,.slice none 0 0] HR.out rfl _ _ _ rfl rfl) ?_
       have st24:=tt))
     | (
      (with_reducible refine gate_store (t:=27) (p:=4) rfl ?_)
      clear st24
      go_must (
       refine store_event (t:=27) (p:=4) (v:=.tmp 87) (w1:=World.setRow (((((W1.alloc (Obj.cells #[.int .i64 x.f0,.int .i64 x.f1,.int .i64 x.f2,.string x.f3,.slice x4 x.f4.length xc4,.slice x5 x.f5.length xc5,.int .i64 x.f6.f0,.string x.f6.f1,.int .i64 x.f6.f2,.slice x9 x.f6.f3.length xc9] 27))).setCell ⟨w.heap.size,0,none⟩ (.int .i64 35))).setCell ⟨w.heap.size,4,none⟩ (.slice (some ⟨(W1).heap.size,0,none⟩) 1 1)) (w.heap.size) #[.int .i64 35,.int .i64 a0,.int .i64 0,.string ⟨#[]⟩,.slice (some ⟨(W1).heap.size,0,none⟩) 1 1,.slice none 0 0,.int .i64 0,.string ⟨#[]⟩,.int .i64 0,.slice none 0 0]) ?hg ?ho ?hn ?hr ?_
       (case ho=>rfl)
       (case hg=>rfl)
       (case hn=>rfl)
       (case hr=>exact store27 (((((W1.alloc (Obj.cells #[.int .i64 x.f0,.int .i64 x.f1,.int .i64 x.f2,.string x.f3,.slice x4 x.f4.length xc4,.slice x5 x.f5.length xc5,.int .i64 x.f6.f0,.string x.f6.f1,.int .i64 x.f6.f2,.slice x9 x.f6.f3.length xc9] 27))).setCell ⟨w.heap.size,0,none⟩ (.int .i64 35))).setCell ⟨w.heap.size,4,none⟩ (.slice (some ⟨(W1).heap.size,0,none⟩) 1 1)) (w.heap.size) _ _ HR.out rfl rfl (by first | kernel_rfl | (simp [Value.oneCell'])) _ _ _ _ rfl rfl rfl)
       intro w716 hw716
       subst hw716
       have st25:=tt)))
   clear st25
   replace HK:=am (kept_rowX HK.out (g:=w.heap.size) (.inr (by show w.heap.size <= w.heap.size;omega)) #[.int .i64 35,.int .i64 a0,.int .i64 0,.string ⟨#[]⟩,.slice (some ⟨(W1).heap.size,0,none⟩) 1 1,.slice none 0 0,.int .i64 0,.string ⟨#[]⟩,.int .i64 0,.slice none 0 0])
   replace HP:=am (PS.rowP HP.out HR.out #[.int .i64 35,.int .i64 a0,.int .i64 0,.string ⟨#[]⟩,.slice (some ⟨(W1).heap.size,0,none⟩) 1 1,.slice none 0 0,.int .i64 0,.string ⟨#[]⟩,.int .i64 0,.slice none 0 0])
   replace Vx:=am (VO.rowO Vx.out (g:=w.heap.size) (fun kk h1 h2=>by omega) #[.int .i64 35,.int .i64 a0,.int .i64 0,.string ⟨#[]⟩,.slice (some ⟨(W1).heap.size,0,none⟩) 1 1,.slice none 0 0,.int .i64 0,.string ⟨#[]⟩,.int .i64 0,.slice none 0 0])
   replace HX:=am (has_row_other HX.out (g:=w.heap.size) (cs':=#[.int .i64 35,.int .i64 a0,.int .i64 0,.string ⟨#[]⟩,.slice (some ⟨(W1).heap.size,0,none⟩) 1 1,.slice none 0 0,.int .i64 0,.string ⟨#[]⟩,.int .i64 0,.slice none 0 0]) (by omega))
   replace HKD:=am (R_far HKD.out (fun kk h1 _=>row_block _ (w.heap.size) kk #[.int .i64 35,.int .i64 a0,.int .i64 0,.string ⟨#[]⟩,.slice (some ⟨(W1).heap.size,0,none⟩) 1 1,.slice none 0 0,.int .i64 0,.string ⟨#[]⟩,.int .i64 0,.slice none 0 0] (by omega)))
   replace HR:=am (has_row HR.out #[.int .i64 35,.int .i64 a0,.int .i64 0,.string ⟨#[]⟩,.slice (some ⟨(W1).heap.size,0,none⟩) 1 1,.slice none 0 0,.int .i64 0,.string ⟨#[]⟩,.int .i64 0,.slice none 0 0])
   have HE:Aside0 (R = .ok (mkE 35 a0 0 ⟨#[]⟩ [x] [],false) ll):=⟨by rw [HEQ.out];simp [needP,PR.andThen,HA.out,HW.out,HO.out,HBR.out,HCO.out,HRE.out,HONE.out,HB.out,HRB.out,HLL2.out]⟩
   refine bodyPost_ret (results_ct rfl _ _ w.heap.size 27 #[.int .i64 35,.int .i64 a0,.int .i64 0,.string ⟨#[]⟩,.slice (some ⟨(W1).heap.size,0,none⟩) 1 1,.slice none 0 0,.int .i64 0,.string ⟨#[]⟩,.int .i64 0,.slice none 0 0] (0,0) _ rfl HR.out Tryd.underlying27 rfl (by rfl)) rfl ?_
   rw [HE.out]
   exact ⟨HK.out,_,rfl,⟨_,rfl,((VO.node 35 a0 0 ⟨#[]⟩ HKD.out).lower (by omega))⟩,HP.out⟩
  ·refine step_list (by rfl) ?_
   have c14:=hci HR.out 0 rfl
   have f14:=Has.frozen HR.out 0
   go_wp2
   clear c14 f14
   replace HK:=am (Kept.setCellX HK.out (a:=⟨w.heap.size,0,none⟩) (.inr (by show w.heap.size <= w.heap.size;omega)) (.int .i64 35))
   replace HP:=am (PS.setT HP.out HR.out (by decide) (by decide) 0 (.int .i64 35))
   replace Vx:=am (VO.setO Vx.out (a:=⟨w.heap.size,0,none⟩) (fun kk h1 h2=>by show kk ≠ w.heap.size;omega) (.int .i64 35))
   replace HX:=am (Has.other HX.out (a:=⟨w.heap.size,0,none⟩) (by show w11.heap.size ≠ w.heap.size;omega) (.int .i64 35))
   replace HR:Aside0 (Has (W1.setCell ⟨w.heap.size,0,none⟩ (.int .i64 35)) (w.heap.size) #[.int .i64 35,.int .i64 a0,.int .i64 0,.string ⟨#[]⟩,.slice none 0 0,.slice none 0 0,.int .i64 0,.string ⟨#[]⟩,.int .i64 0,.slice none 0 0] 27):=⟨by have h:=Has.set_ HR.out 0 (.int .i64 35);exact h⟩
   refine ⟨HX.out, ?_⟩
   refine tree_1Q (i:=1) (by kernel_rfl) ?_
   refine step_list (by rfl) ?_
   go_wp2
   obtain ⟨Mx,Lx⟩:=VO.lit (cs:=[.int .i64 x.f0,.int .i64 x.f1,.int .i64 x.f2,.string x.f3,.slice x4 x.f4.length xc4,.slice x5 x.f5.length xc5,.int .i64 x.f6.f0,.string x.f6.f1,.int .i64 x.f6.f2,.slice x9 x.f6.f3.length xc9]) Vx.out
   have HKD:Aside0 (k27.R 27 (((W1.setCell ⟨w.heap.size,0,none⟩ (.int .i64 35))).alloc (Obj.cells #[.int .i64 x.f0,.int .i64 x.f1,.int .i64 x.f2,.string x.f3,.slice x4 x.f4.length xc4,.slice x5 x.f5.length xc5,.int .i64 x.f6.f0,.string x.f6.f1,.int .i64 x.f6.f2,.slice x9 x.f6.f3.length xc9] 27)) (w.heap.size + 1) Any (.slice (some ⟨W1.heap.size,0,none⟩) 1 1) [x]):=⟨by have h:=kids_lit ((W1.setCell ⟨w.heap.size,0,none⟩ (.int .i64 35))) (w.heap.size + 1) (by (have:=HR.out.lt;omega)) trivial (xs:=[x]) (reps_one Mx Lx) (by simp);rwa [show ((W1.setCell ⟨w.heap.size,0,none⟩ (.int .i64 35))).heap.size = W1.heap.size by simp] at h⟩
   clear Mx Lx
   have ba3:=below_alloc (Below.refl ((W1.setCell ⟨w.heap.size,0,none⟩ (.int .i64 35))).heap.size ((W1.setCell ⟨w.heap.size,0,none⟩ (.int .i64 35)))) (Obj.cells #[.int .i64 x.f0,.int .i64 x.f1,.int .i64 x.f2,.string x.f3,.slice x4 x.f4.length xc4,.slice x5 x.f5.length xc5,.int .i64 x.f6.f0,.string x.f6.f1,.int .i64 x.f6.f2,.slice x9 x.f6.f3.length xc9] 27)
   replace HK:=am (Kept.below HK.out ba3)
   replace HP:=am (HP.out.below ba3)
   replace HR:=am (HR.out.belowS ba3)
   replace Vx:=am (Vx.out.below ba3)
   replace HX:=am (HX.out.belowS ba3)
   clear ba3
   refine ⟨HX.out, ?_⟩
   rw [<- hQQ]
   refine tree_doneR (by kernel_rfl) ?_
   refine restQ_tree (fun _=>True) ?_
   clear hsure hS hQQ
   refine tqh (by intro c a a' w1 hd h;simp +zetaDelta only [Exit.then,Exit.inBlock,bodyPost] at h ⊢; simpa [hd] using h) trivial 4 ?_
   apply Exists.intro
   apply And.intro
   ·rintro w' -
    apply VR.mk
    go_simp
    with_reducible rfl
   simp only [sA,sB,sC]
   have c15:=hci HR.out 4 rfl
   have f15:=Has.frozen HR.out 4
   refine tree_1Q (i:=5) (by kernel_rfl) ?_
   refine step_list (by rfl) ?_
   go_wp2
   refine ⟨trivial,tree_endQ (by kernel_rfl) ?_⟩
   clear c15 f15
   replace HK:=am (Kept.setCellX HK.out (a:=⟨w.heap.size,4,none⟩) (.inr (by show w.heap.size <= w.heap.size;omega)) (.slice (some ⟨W1.heap.size,0,none⟩) 1 1))
   replace HP:=am (PS.setT HP.out HR.out (by decide) (by decide) 4 (.slice (some ⟨W1.heap.size,0,none⟩) 1 1))
   replace Vx:=am (VO.setO Vx.out (a:=⟨w.heap.size,4,none⟩) (fun kk h1 h2=>by show kk ≠ w.heap.size;omega) (.slice (some ⟨W1.heap.size,0,none⟩) 1 1))
   replace HX:=am (Has.other HX.out (a:=⟨w.heap.size,4,none⟩) (by show w11.heap.size ≠ w.heap.size;omega) (.slice (some ⟨W1.heap.size,0,none⟩) 1 1))
   replace HKD:=am (R_far HKD.out (fun kk h1 _=>Below.heap_setCell _ ⟨w.heap.size,4,none⟩ (.slice (some ⟨W1.heap.size,0,none⟩) 1 1) kk (by show kk ≠ w.heap.size;omega)))
   replace HR:Aside0 (Has (((((W1.setCell ⟨w.heap.size,0,none⟩ (.int .i64 35))).alloc (Obj.cells #[.int .i64 x.f0,.int .i64 x.f1,.int .i64 x.f2,.string x.f3,.slice x4 x.f4.length xc4,.slice x5 x.f5.length xc5,.int .i64 x.f6.f0,.string x.f6.f1,.int .i64 x.f6.f2,.slice x9 x.f6.f3.length xc9] 27))).setCell ⟨w.heap.size,4,none⟩ (.slice (some ⟨W1.heap.size,0,none⟩) 1 1)) (w.heap.size) #[.int .i64 35,.int .i64 a0,.int .i64 0,.string ⟨#[]⟩,.slice (some ⟨W1.heap.size,0,none⟩) 1 1,.slice none 0 0,.int .i64 0,.string ⟨#[]⟩,.int .i64 0,.slice none 0 0] 27):=⟨by have h:=Has.set_ HR.out 4 (.slice (some ⟨W1.heap.size,0,none⟩) 1 1);exact h⟩
   have st23:=tt
   go_wp2_with (first
     | (
      (with_reducible refine gate_dst (N:=87) rfl ?_)
      clear st23
      go_must (
       refine Kd.event_run rfl (load27 (((((W1.setCell ⟨w.heap.size,0,none⟩ (.int .i64 35))).alloc (Obj.cells #[.int .i64 x.f0,.int .i64 x.f1,.int .i64 x.f2,.string x.f3,.slice x4 x.f4.length xc4,.slice x5 x.f5.length xc5,.int .i64 x.f6.f0,.string x.f6.f1,.int .i64 x.f6.f2,.slice x9 x.f6.f3.length xc9] 27))).setCell ⟨w.heap.size,4,none⟩ (.slice (some ⟨W1.heap.size,0,none⟩) 1 1)) (w.heap.size) #[.int .i64 35,.int .i64 a0,.int .i64 0,.string ⟨#[]⟩,.slice (some ⟨W1.heap.size,0,none⟩) 1 1,.slice none 0 0,.int .i64 0,.string ⟨#[]⟩,.int .i64 0,.slice none 0 0] HR.out rfl _ _ _ rfl rfl) ?_
       have st24:=tt))
     | (
      (with_reducible refine gate_store (t:=27) (p:=4) rfl ?_)
      clear st24
      go_must (
       refine store_event (t:=27) (p:=4) (v:=.tmp 87) (w1:=World.setRow (((((W1.setCell ⟨w.heap.size,0,none⟩ (.int .i64 35))).alloc (Obj.cells #[.int .i64 x.f0,.int .i64 x.f1,.int .i64 x.f2,.string x.f3,.slice x4 x.f4.length xc4,.slice x5 x.f5.length xc5,.int .i64 x.f6.f0,.string x.f6.f1,.int .i64 x.f6.f2,.slice x9 x.f6.f3.length xc9] 27))).setCell ⟨w.heap.size,4,none⟩ (.slice (some ⟨W1.heap.size,0,none⟩) 1 1)) (w.heap.size) #[.int .i64 35,.int .i64 a0,.int .i64 0,.string ⟨#[]⟩,.slice (some ⟨W1.heap.size,0,none⟩) 1 1,.slice none 0 0,.int .i64 0,.string ⟨#[]⟩,.int .i64 0,.slice none 0 0]) ?hg ?ho ?hn ?hr ?_
       (case ho=>rfl)
       (case hg=>rfl)
       (case hn=>rfl)
       (case hr=>exact store27 (((((W1.setCell ⟨w.heap.size,0,none⟩ (.int .i64 35))).alloc (Obj.cells #[.int .i64 x.f0,.int .i64 x.f1,.int .i64 x.f2,.string x.f3,.slice x4 x.f4.length xc4,.slice x5 x.f5.length xc5,.int .i64 x.f6.f0,.string x.f6.f1,.int .i64 x.f6.f2,.slice x9 x.f6.f3.length xc9] 27))).setCell ⟨w.heap.size,4,none⟩ (.slice (some ⟨W1.heap.size,0,none⟩) 1 1)) (w.heap.size) _ _ HR.out rfl rfl (by first | kernel_rfl | (simp [Value.oneCell'])) _ _ _ _ rfl rfl rfl)
       intro w716 hw716
       subst hw716
       have st25:=tt)))
   clear st25
   replace HK:=am (kept_rowX HK.out (g:=w.heap.size) (.inr (by show w.heap.size <= w.heap.size;omega)) #[.int .i64 35,.int .i64 a0,.int .i64 0,.string ⟨#[]⟩,.slice (some ⟨W1.heap.size,0,none⟩) 1 1,.slice none 0 0,.int .i64 0,.string ⟨#[]⟩,.int .i64 0,.slice none 0 0])
   replace HP:=am (PS.rowP HP.out HR.out #[.int .i64 35,.int .i64 a0,.int .i64 0,.string ⟨#[]⟩,.slice (some ⟨W1.heap.size,0,none⟩) 1 1,.slice none 0 0,.int .i64 0,.string ⟨#[]⟩,.int .i64 0,.slice none 0 0])
   replace Vx:=am (VO.rowO Vx.out (g:=w.heap.size) (fun kk h1 h2=>by omega) #[.int .i64 35,.int .i64 a0,.int .i64 0,.string ⟨#[]⟩,.slice (some ⟨W1.heap.size,0,none⟩) 1 1,.slice none 0 0,.int .i64 0,.string ⟨#[]⟩,.int .i64 0,.slice none 0 0])
   replace HX:=am (has_row_other HX.out (g:=w.heap.size) (cs':=#[.int .i64 35,.int .i64 a0,.int .i64 0,.string ⟨#[]⟩,.slice (some ⟨W1.heap.size,0,none⟩) 1 1,.slice none 0 0,.int .i64 0,.string ⟨#[]⟩,.int .i64 0,.slice none 0 0]) (by omega))
   replace HKD:=am (R_far HKD.out (fun kk h1 _=>row_block _ (w.heap.size) kk #[.int .i64 35,.int .i64 a0,.int .i64 0,.string ⟨#[]⟩,.slice (some ⟨W1.heap.size,0,none⟩) 1 1,.slice none 0 0,.int .i64 0,.string ⟨#[]⟩,.int .i64 0,.slice none 0 0] (by omega)))
   replace HR:=am (has_row HR.out #[.int .i64 35,.int .i64 a0,.int .i64 0,.string ⟨#[]⟩,.slice (some ⟨W1.heap.size,0,none⟩) 1 1,.slice none 0 0,.int .i64 0,.string ⟨#[]⟩,.int .i64 0,.slice none 0 0])
   have HE:Aside0 (R = .ok (mkE 35 a0 0 ⟨#[]⟩ [x] [],false) ll):=⟨by rw [HEQ.out];simp [needP,PR.andThen,HA.out,HW.out,HO.out,HBR.out,HCO.out,HRE.out,HONE.out,HB.out,HRB.out,HLL2.out]⟩
   refine bodyPost_ret (results_ct rfl _ _ w.heap.size 27 #[.int .i64 35,.int .i64 a0,.int .i64 0,.string ⟨#[]⟩,.slice (some ⟨W1.heap.size,0,none⟩) 1 1,.slice none 0 0,.int .i64 0,.string ⟨#[]⟩,.int .i64 0,.slice none 0 0] (0,0) _ rfl HR.out Tryd.underlying27 rfl (by rfl)) rfl ?_
   rw [HE.out]
   exact ⟨HK.out,_,rfl,⟨_,rfl,((VO.node 35 a0 0 ⟨#[]⟩ HKD.out).lower (by omega))⟩,HP.out⟩
 | false =>
 have HONE:=am hHONE
 clear hHONE
 have bS:=below_alloc (Below.refl (w8).heap.size (w8)) (Obj.cells ([sIf,sMatch,sLbrace].map Value.string).toArray 9)
 have HLS:=lit_S (w8) [sIf,sMatch,sLbrace] (by decide)
 replace HK:=am (Kept.below HK.out bS)
 replace HP:=am (HP.out.below bS)
 replace HR:=am (HR.out.belowS bS)
 clear bS
 have st15:=tt
 go_wp2_with ((
       go_at_call 61
       clear st15
       go_must (
        refine Calls.mono (one_ps [sIf,sMatch,sLbrace] (some ⟨(w8).heap.size,0,none⟩) 3 HP.out HLS (by decide)) ?_
        rintro en w10 ⟨he10,hb10⟩
        rw [HONE.out] at he10
        subst he10
        clear HLS
        replace HK:=am (Kept.below HK.out hb10)
        replace HP:=am (HP.out.below hb10)
        replace HR:=am (HR.out.belowS hb10)
        have hs10:=Below.size hb10
        try simp at hs10
        have st16:=tt)))
 clear st16
 cases hHB:plainlyP e n d l with
 | out=>exact absurd (by rw [HEQ.out];simp [needP,PR.andThen,HA.out,HW.out,HO.out,HBR.out,HCO.out,HRE.out,HONE.out,hHB]) HNE.out
 | bad bb er =>
  have HB:=am hHB
  have HBN:=am (show plainlyP e n d l ≠ .out by rw [hHB];exact PR.bad_ne _ _)
  clear hHB
  have st17:=tt
  go_wp2_with ((
        go_at_call 77
        clear st17
        go_must (
         (with_reducible refine Calls.mono (HLL.out g e d l _ h0 h1 HP.out HBN.out) ?_)
         rintro en w11 ⟨hk11,he11⟩
         rw [HB.out] at he11
         subst he11
         replace HK:=am (Kept.then_ HK.out hk11)
         replace HR:=am (Kept.has hk11 HR.out (by omega))
         have hs11:=Kept.size hk11
         try simp at hs11
         have st18:=tt)))
  clear st18
  have HE:Aside0 (R = .bad bb er):=⟨by rw [HEQ.out];simp [needP,PR.andThen,HA.out,HW.out,HO.out,HBR.out,HCO.out,HRE.out,HONE.out,HB.out]⟩
  rw [HE.out]
  exact ⟨rfl,HK.out,rfl⟩
 | ok xb l1 =>
 have HB:=am hHB
 have HBN:=am (show plainlyP e n d l ≠ .out by rw [hHB];exact PR.ok_ne _ _)
 clear hHB
 obtain ⟨x,vb⟩:=xb
 have st17:=tt
 go_wp2_with (first
   | (
    go_at_call 77
    clear st17
    go_must (
     (with_reducible refine Calls.mono (HLL.out g e d l _ h0 h1 HP.out HBN.out) ?_)
     rintro en w11 ⟨hk11,he11⟩
     rw [HB.out] at he11
     obtain ⟨v11,rfl,hv11,hp11⟩:=he11
     obtain ⟨u11,rfl,hu11⟩:=hv11
     obtain ⟨x4,xc4,x5,xc5,x9,xc9,rfl⟩:=hu11.form
     have Vx:=am (VO.lower hu11 (show w.heap.size + 1 <= _ by (have:=HR.out.lt;omega)))
     clear hu11
     replace HK:=am (Kept.then_ HK.out hk11)
     replace HR:=am (Kept.has hk11 HR.out (by omega))
     replace HP:=am hp11
     have hs11:=Kept.size hk11
     try simp at hs11
     have st18:=tt))
   | (
    (with_reducible refine gate_store (t:=27) (p:=4) rfl ?_)
    clear st18
    go_must (
     refine store_event (t:=27) (p:=4) (v:=.tmp 14) (w1:=World.setRow w11 (w.heap.size) #[.int .i64 x.f0,.int .i64 x.f1,.int .i64 x.f2,.string x.f3,.slice x4 x.f4.length xc4,.slice x5 x.f5.length xc5,.int .i64 x.f6.f0,.string x.f6.f1,.int .i64 x.f6.f2,.slice x9 x.f6.f3.length xc9]) ?hg ?ho ?hn ?hr ?_
     (case ho=>rfl)
     (case hg=>rfl)
     (case hn=>rfl)
     (case hr=>exact store27 w11 (w.heap.size) _ _ HR.out rfl rfl (by first | kernel_rfl | (simp [Value.oneCell'])) _ _ _ _ rfl rfl rfl)
     intro w712 hw712
     subst hw712
     have st19:=tt)))
 clear st19
 replace HK:=am (kept_rowX HK.out (g:=w.heap.size) (.inr (by show w.heap.size <= w.heap.size;omega)) #[.int .i64 x.f0,.int .i64 x.f1,.int .i64 x.f2,.string x.f3,.slice x4 x.f4.length xc4,.slice x5 x.f5.length xc5,.int .i64 x.f6.f0,.string x.f6.f1,.int .i64 x.f6.f2,.slice x9 x.f6.f3.length xc9])
 replace HP:=am (PS.rowP HP.out HR.out #[.int .i64 x.f0,.int .i64 x.f1,.int .i64 x.f2,.string x.f3,.slice x4 x.f4.length xc4,.slice x5 x.f5.length xc5,.int .i64 x.f6.f0,.string x.f6.f1,.int .i64 x.f6.f2,.slice x9 x.f6.f3.length xc9])
 replace Vx:=am (VO.rowO Vx.out (g:=w.heap.size) (fun kk h1 h2=>by omega) #[.int .i64 x.f0,.int .i64 x.f1,.int .i64 x.f2,.string x.f3,.slice x4 x.f4.length xc4,.slice x5 x.f5.length xc5,.int .i64 x.f6.f0,.string x.f6.f1,.int .i64 x.f6.f2,.slice x9 x.f6.f3.length xc9])
 replace HR:=am (has_row HR.out #[.int .i64 x.f0,.int .i64 x.f1,.int .i64 x.f2,.string x.f3,.slice x4 x.f4.length xc4,.slice x5 x.f5.length xc5,.int .i64 x.f6.f0,.string x.f6.f1,.int .i64 x.f6.f2,.slice x9 x.f6.f3.length xc9])
 have HE:Aside0 (R = .ok (x,vb) l1):=⟨by rw [HEQ.out];simp [needP,PR.andThen,HA.out,HW.out,HO.out,HBR.out,HCO.out,HRE.out,HONE.out,HB.out]⟩
 refine bodyPost_ret (results_ct rfl _ _ w.heap.size 27 #[.int .i64 x.f0,.int .i64 x.f1,.int .i64 x.f2,.string x.f3,.slice x4 x.f4.length xc4,.slice x5 x.f5.length xc5,.int .i64 x.f6.f0,.string x.f6.f1,.int .i64 x.f6.f2,.slice x9 x.f6.f3.length xc9] (0,0) _ rfl HR.out Tryd.underlying27 rfl (by rfl)) rfl ?_
 rw [HE.out]
 exact ⟨HK.out,_,rfl,⟨_,rfl,(Vx.out.lower (by omega))⟩,HP.out⟩
end Go.Proofs.YtngpgdmafmkddaaDoor.Par
end
section
namespace Go.Proofs.YtngpgdmafmkddaaDoor.Par
open Go.Proofs.YtngpgdmafmkddaaDoor.Calm Go.RowKit Go.Proofs.YtngpgdmafmkddaaDoorW.PrintWords Go.Proofs.YtngpgdmafmkddaaDoorW.PrintLast Go.Proofs.YtngpgdmafmkddaaDoorW.PrintMore
open Go.Proofs.YtngpgdmafmkddaaDoor.PParseBlanks (S35 S25 S27 k35 k25 k27 rd_T35 rd_T25 rd_T27 at_T35 at_T25 at_T27)
set_option linter.unusedVariables false
set_option linter.unusedSimpArgs false
theorem R_ownb {w:World} {B:Nat} {v:Value} {xs:List S27} (h:k27.R 27 w B Any v xs):∀ k,v.ownBlock = some k -> B <= k /\ k < w.heap.size:=fun k hk=>⟨((Kd.R_bound h).1 k hk).2.1,((Kd.R_bound h).1 k hk).2.2.1⟩
set_option maxRecDepth 100000 in
set_option maxHeartbeats 8000000 in
theorem plainly_ok {n:Nat} (HT:TreeOK n):PlainlyOK (n + 1):=by
 intro g e d l w h0 h1 HP hne
 unfold TreeOK at HT
 have HTT:=am HT
 have hu27:=Tryd.underlying27
 have kw:IntKind.i64.wrap (d + 1) = d + 1:=IntWalk.i64_in _ (by omega)
 obtain ⟨R,hR⟩:∃ R,plainlyP e (n + 1) d l = R:=⟨_,rfl⟩
 have hE:=hR
 simp only [plainlyP] at hE
 rw [hR] at hne ⊢
 obtain ⟨a0,ha0⟩:∃ a,atP e l = a:=⟨_,rfl⟩
 rw [ha0] at hE
 have HAT:=am ha0
 have HEQ:=am hE.symm
 have HNE:=am hne
 have hgw:=HP.glt
 have HK:Aside0 (KeptG g w w):=⟨Kept.refl _ w⟩
 have HP:=am HP
 clear hR hne hE ha0 HT
 have ba1:=below_alloc (Below.refl (w).heap.size (w)) (Obj.cells #[.int .i64 0,.int .i64 0,.int .i64 0,.string ⟨#[]⟩,.slice none 0 0,.slice none 0 0,.int .i64 0,.string ⟨#[]⟩,.int .i64 0,.slice none 0 0] 27)
 replace HK:=am (Kept.below HK.out ba1)
 replace HP:=am (HP.out.below ba1)
 clear ba1
 have HR:=am (Has.new (w) #[.int .i64 0,.int .i64 0,.int .i64 0,.string ⟨#[]⟩,.slice none 0 0,.slice none 0 0,.int .i64 0,.string ⟨#[]⟩,.int .i64 0,.slice none 0 0] 27)
 have hrg:w.heap.size ≠ g:=by omega
 go_enter Tryd.func77,Tryd.ntmps77
 have st1:=tt
 go_wp2_with ((
       go_at_call 29
       clear st1
       go_must (
        (with_reducible refine Calls.mono (at_ps HP.out) ?_)
        rintro en w1 ⟨he1,hb1⟩
        rw [HAT.out] at he1
        subst he1
        replace HK:=am (Kept.below HK.out hb1)
        replace HP:=am (HP.out.below hb1)
        replace HR:=am (HR.out.belowS hb1)
        have hs1:=Below.size hb1
        try simp at hs1
        have ba2:=below_alloc (Below.refl (w1).heap.size (w1)) (Obj.cells #[.int .i64 35,.int .i64 a0,.int .i64 0,.string ⟨#[]⟩,.slice none 0 0,.slice none 0 0,.int .i64 0,.string ⟨#[]⟩,.int .i64 0,.slice none 0 0] 27)
        replace HK:=am (Kept.below HK.out ba2)
        replace HP:=am (HP.out.below ba2)
        replace HR:=am (HR.out.belowS ba2)
        clear ba2
        have HX:=am (Has.new (w1) #[.int .i64 35,.int .i64 a0,.int .i64 0,.string ⟨#[]⟩,.slice none 0 0,.slice none 0 0,.int .i64 0,.string ⟨#[]⟩,.int .i64 0,.slice none 0 0] 27)
        have st2:=tt)))
 clear st2
 cases hHA:climbP e n (d + 1) true 1 l with
 | out=>exact absurd (by rw [HEQ.out];simp [needP,PR.andThen,hHA]) HNE.out
 | bad bb er =>
  have HA:=am hHA
  have HAN:=am (show climbP e n (d + 1) true 1 l ≠ .out by rw [hHA];exact PR.bad_ne _ _)
  clear hHA
  have st3:=tt
  go_wp2_with ((
        go_at_call 18
        clear st3
        go_must (
         (with_reducible refine Calls.mono (HTT.out g e (d + 1) true l _ (by omega) (by omega) HP.out HAN.out) ?_)
         rintro en w2 ⟨hk2,he2⟩
         rw [HA.out] at he2
         subst he2
         replace HK:=am (Kept.then_ HK.out hk2)
         replace HR:=am (Kept.has hk2 HR.out (by omega))
         replace HX:=am (Kept.has hk2 HX.out (by omega))
         have hs2:=Kept.size hk2
         try simp at hs2
         have st4:=tt)))
  clear st4
  have HE:Aside0 (R = .bad bb er):=⟨by rw [HEQ.out];simp [needP,PR.andThen,HA.out]⟩
  rw [HE.out]
  exact ⟨rfl,HK.out,rfl⟩
 | ok x l1 =>
 have HA:=am hHA
 have HAN:=am (show climbP e n (d + 1) true 1 l ≠ .out by rw [hHA];exact PR.ok_ne _ _)
 clear hHA
 have hbx:w.heap.size < w1.heap.size:=by omega
 have hxg:w1.heap.size ≠ g:=by omega
 have st3:=tt
 obtain ⟨a1,ha1⟩:∃ a,atP e l1 = a:=⟨_,rfl⟩
 have HA1:=am ha1
 clear ha1
 go_wp2_with (first
   | (
    go_at_call 18
    clear st3
    go_must (
     (with_reducible refine Calls.mono (HTT.out g e (d + 1) true l _ (by omega) (by omega) HP.out HAN.out) ?_)
     rintro en w2 ⟨hk2,he2⟩
     rw [HA.out] at he2
     obtain ⟨v2,rfl,hv2,hp2⟩:=he2
     obtain ⟨x4,xc4,x5,xc5,x9,xc9,rfl⟩:=(hv2).form
     have Vx:=am (VO.lower hv2 (show w1.heap.size + 1 <= _ by (have:=HX.out.lt;omega)))
     clear hv2
     replace HK:=am (Kept.then_ HK.out hk2)
     replace HR:=am (Kept.has hk2 HR.out (by omega))
     replace HX:=am (Kept.has hk2 HX.out (by omega))
     replace HP:=am hp2
     have hs2:=Kept.size hk2
     try simp at hs2
     obtain ⟨Mx,Lx⟩:=VO.lit (cs:=[.int .i64 x.f0,.int .i64 x.f1,.int .i64 x.f2,.string x.f3,.slice x4 x.f4.length xc4,.slice x5 x.f5.length xc5,.int .i64 x.f6.f0,.string x.f6.f1,.int .i64 x.f6.f2,.slice x9 x.f6.f3.length xc9]) Vx.out
     have HKD:Aside0 (k27.R 27 ((w2).alloc (Obj.cells #[.int .i64 x.f0,.int .i64 x.f1,.int .i64 x.f2,.string x.f3,.slice x4 x.f4.length xc4,.slice x5 x.f5.length xc5,.int .i64 x.f6.f0,.string x.f6.f1,.int .i64 x.f6.f2,.slice x9 x.f6.f3.length xc9] 27)) (w1.heap.size + 1) Any (.slice (some ⟨(w2).heap.size,0,none⟩) 1 1) [x]):=⟨by have h:=kids_lit (w2) (w1.heap.size + 1) (by (have:=HX.out.lt;omega)) trivial (xs:=[x]) (reps_one Mx Lx) (by simp);exact h⟩
     clear Mx Lx
     have ba3:=below_alloc (Below.refl (w2).heap.size (w2)) (Obj.cells #[.int .i64 x.f0,.int .i64 x.f1,.int .i64 x.f2,.string x.f3,.slice x4 x.f4.length xc4,.slice x5 x.f5.length xc5,.int .i64 x.f6.f0,.string x.f6.f1,.int .i64 x.f6.f2,.slice x9 x.f6.f3.length xc9] 27)
     replace HK:=am (Kept.below HK.out ba3)
     replace HP:=am (HP.out.below ba3)
     replace HR:=am (HR.out.belowS ba3)
     replace HX:=am (HX.out.belowS ba3)
     replace Vx:=am (Vx.out.below ba3)
     clear ba3
     have HROW:=am (Has.new (w2) #[.int .i64 x.f0,.int .i64 x.f1,.int .i64 x.f2,.string x.f3,.slice x4 x.f4.length xc4,.slice x5 x.f5.length xc5,.int .i64 x.f6.f0,.string x.f6.f1,.int .i64 x.f6.f2,.slice x9 x.f6.f3.length xc9] 27)
     have c3:=hci HX.out 4 rfl
     have f3:=Has.frozen HX.out 4
     have st4:=tt))
   | (
    go_at_call 29
    clear st4
    go_must (
     clear c3 f3
     replace HK:=am (Kept.setCellX HK.out (a:=⟨w1.heap.size,4,none⟩) (.inr (by show w.heap.size <= w1.heap.size;omega)) (.slice (some ⟨(w2).heap.size,0,none⟩) 1 1))
     replace HP:=am (PS.setT HP.out HX.out (by decide) (by decide) 4 (.slice (some ⟨(w2).heap.size,0,none⟩) 1 1))
     replace HR:=am (Has.other HR.out (a:=⟨w1.heap.size,4,none⟩) (by show w.heap.size ≠ w1.heap.size;omega) (.slice (some ⟨(w2).heap.size,0,none⟩) 1 1))
     replace Vx:=am (VO.setO Vx.out (a:=⟨w1.heap.size,4,none⟩) (fun kk h1 h2=>by show kk ≠ w1.heap.size;omega) (.slice (some ⟨(w2).heap.size,0,none⟩) 1 1))
     replace HROW:=am (Has.other HROW.out (a:=⟨w1.heap.size,4,none⟩) (by show (w2).heap.size ≠ w1.heap.size;omega) (.slice (some ⟨(w2).heap.size,0,none⟩) 1 1))
     replace HKD:=am (R_far HKD.out (fun kk h1 _=>Below.heap_setCell _ ⟨w1.heap.size,4,none⟩ (.slice (some ⟨(w2).heap.size,0,none⟩) 1 1) kk (by show kk ≠ w1.heap.size;omega)))
     replace HX:Aside0 (Has (((w2.alloc (Obj.cells #[.int .i64 x.f0,.int .i64 x.f1,.int .i64 x.f2,.string x.f3,.slice x4 x.f4.length xc4,.slice x5 x.f5.length xc5,.int .i64 x.f6.f0,.string x.f6.f1,.int .i64 x.f6.f2,.slice x9 x.f6.f3.length xc9] 27))).setCell ⟨w1.heap.size,4,none⟩ (.slice (some ⟨(w2).heap.size,0,none⟩) 1 1)) (w1.heap.size) #[.int .i64 35,.int .i64 a0,.int .i64 0,.string ⟨#[]⟩,.slice (some ⟨(w2).heap.size,0,none⟩) 1 1,.slice none 0 0,.int .i64 0,.string ⟨#[]⟩,.int .i64 0,.slice none 0 0] 27):=⟨by have h:=Has.set_ HX.out 4 (.slice (some ⟨(w2).heap.size,0,none⟩) 1 1);exact h⟩
     (with_reducible refine Calls.mono (at_ps HP.out) ?_)
     rintro en w4 ⟨he4,hb4⟩
     rw [HA1.out] at he4
     subst he4
     replace HK:=am (Kept.below HK.out hb4)
     replace HP:=am (HP.out.below hb4)
     replace HR:=am (HR.out.belowS hb4)
     replace HX:=am (HX.out.belowS hb4)
     replace Vx:=am (Vx.out.below hb4)
     replace HROW:=am (HROW.out.belowS hb4)
     replace HKD:=am (Kd.R_below HKD.out hb4)
     have hs4:=Below.size hb4
     try simp at hs4
     have st5:=tt)))
 clear st5
 cases hHQ:isP sEq l1 with
 | true =>
  have HQ:=am hHQ
  clear hHQ
  have st6:=tt
  go_wp2_with ((
        go_at_call 41
        clear st6
        go_must (
         (with_reducible refine Calls.mono (take_yes sEq HP.out HQ.out) ?_)
         rintro en w5 ⟨he5,hk5,hp5⟩
         subst he5
         replace HK:=am (Kept.then_ HK.out hk5)
         replace HR:=am (Kept.has hk5 HR.out (by omega))
         replace HX:=am (Kept.has hk5 HX.out (by omega))
         replace Vx:=am (VO.kps Vx.out HP.out hk5)
         replace HROW:=am (Kept.has hk5 HROW.out (by omega))
         replace HKD:=am (R_kps HKD.out HP.out hk5)
         replace HP:=am hp5
         have hs5:=Kept.size hk5
         try simp at hs5
         have st7:=tt)))
  clear st7
  have hD:=below_drew (Below.refl (w5).heap.size (w5))
  replace HK:=am (Kept.below HK.out hD)
  replace HP:=am (HP.out.below hD)
  replace HR:=am (HR.out.belowS hD)
  replace HX:=am (HX.out.belowS hD)
  replace HKD:=am (Kd.R_below HKD.out hD)
  clear hD
  obtain ⟨W1,hW1⟩:∃ W,(w5).drew = W:=⟨_,rfl⟩
  rw [hW1] at HK HP HR HX HKD
  have hzW1:(w5).heap.size <= W1.heap.size:=by rw [<- hW1];exact Nat.le_refl _
  try simp at hzW1
  refine region_treeR 10 (by kernel_rfl) (by kernel_rfl) (fun w' => Has w' (w1.heap.size) #[.int .i64 35,.int .i64 a0,.int .i64 0,.string ⟨#[]⟩,.slice (some ⟨(w2).heap.size,0,none⟩) 1 1,.slice none 0 0,.int .i64 0,.string ⟨#[]⟩,.int .i64 0,.slice none 0 0] 27) (hW1 ▸ HX.out) fun hS => ?_
  rw [hW1] at hS ⊢
  clear hW1
  simp only [List.take_succ_cons,List.take_zero]
  generalize hQQ:tailK _ _ = QQ
  have hsure:Sure QQ:=by
   rw [<- hQQ]
   intro c a a' w1 hd h
   simp +zetaDelta only [tailK,Exit.then,Exit.inBlock,bodyPost] at h ⊢
   simpa [hd] using h
  refine tqh hsure hS 0 ?_
  apply Exists.intro
  apply And.intro
  ·rintro w' k1
   apply VR.mk
   go_simp
   with_reducible rfl
  try simp only [sA,sB,sC]
  refine tqh hsure hS 1 ?_
  apply Exists.intro
  apply And.intro
  ·rintro w' k1
   apply VR.mk
   go_simp
   with_reducible rfl
  try simp only [sA,sB,sC]
  refine tqh hsure hS 2 ?_
  apply Exists.intro
  apply And.intro
  ·rintro w' k1
   have cc0:=hci k1 4 rfl
   apply VR.mk
   go_simp
   with_reducible rfl
  try simp only [sA,sB,sC]
  refine tqh hsure hS 3 ?_
  apply Exists.intro
  apply And.intro
  ·rintro w' k1
   apply VR.mk
   go_simp
   with_reducible rfl
  try simp only [sA,sB,sC]
  refine tqh hsure hS 4 ?_
  apply Exists.intro
  apply And.intro
  ·rintro w' k1
   apply VR.mk
   go_simp
   with_reducible rfl
  try simp only [sA,sB,sC]
  refine tqh hsure hS 5 ?_
  apply Exists.intro
  apply And.intro
  ·rintro w' k1
   apply VR.mk
   go_simp
   with_reducible rfl
  try simp only [sA,sB,sC]
  have hne2:climbP e n (d + 1) true 1 l1.tail ≠ .out:=fun h=>HNE.out (by rw [HEQ.out];simp [needP,PR.andThen,HA.out,HA1.out,HQ.out,h])
  refine tree_1Q (i:=6) (by kernel_rfl) ?_
  refine step_callQ (by rfl) (by rfl) (by rfl) (ER.go (by go_simp;with_reducible exact ⟨rfl,rfl⟩)) ?_
  refine (HTT.out g e (d + 1) true l1.tail W1 (by omega) (by omega) HP.out hne2).mono ?_
  intro en w6 hq
  rcases hq.ways with ⟨v,y,l2,hr,rfl,hk,hv,hp⟩ | ⟨bb,er,hr,rfl,hk⟩
  ·have HY:=am hr
   obtain ⟨y4,yc4,y5,yc5,y9,yc9,rfl⟩:=hv.form
   have Vy:=am hv
   have hW1:=Kept.size hk
   have hsl:∀ k,(Value.ownBlock (.slice (some ⟨(w2).heap.size,0,none⟩) 1 1)) = some k -> k < W1.heap.size:=fun k hk=>(R_ownb HKD.out k hk).2
   replace HK:=am (Kept.then_ HK.out hk)
   replace HR:=am (Kept.has hk HR.out (by omega))
   replace HX:=am (Kept.has hk HX.out (by omega))
   replace HKD:=am (R_kps HKD.out HP.out hk)
   replace HP:=am hp
   have hs6:=Kept.size hk
   try simp at hs6
   clear hv hr hk
   refine .inl ⟨_,rfl,HX.out, ?_⟩
   simp only [sA,sB,sC]
   refine tree_1Q (i:=7) (by kernel_rfl) ?_
   refine step_list (by rfl) ?_
   go_wp2
   obtain ⟨My,Ly⟩:=VO.lit (cs:=[.int .i64 y.f0,.int .i64 y.f1,.int .i64 y.f2,.string y.f3,.slice y4 y.f4.length yc4,.slice y5 y.f5.length yc5,.int .i64 y.f6.f0,.string y.f6.f1,.int .i64 y.f6.f2,.slice y9 y.f6.f3.length yc9]) Vy.out
   have HKY:Aside0 (k27.R 27 ((w6).alloc (Obj.cells #[.int .i64 y.f0,.int .i64 y.f1,.int .i64 y.f2,.string y.f3,.slice y4 y.f4.length yc4,.slice y5 y.f5.length yc5,.int .i64 y.f6.f0,.string y.f6.f1,.int .i64 y.f6.f2,.slice y9 y.f6.f3.length yc9] 27)) (W1.heap.size) Any (.slice (some ⟨(w6).heap.size,0,none⟩) 1 1) [y]):=⟨by have h:=kids_lit (w6) (W1.heap.size) (by (omega)) trivial (xs:=[y]) (reps_one My Ly) (by simp);exact h⟩
   clear My Ly
   have ba4:=below_alloc (Below.refl (w6).heap.size (w6)) (Obj.cells #[.int .i64 y.f0,.int .i64 y.f1,.int .i64 y.f2,.string y.f3,.slice y4 y.f4.length yc4,.slice y5 y.f5.length yc5,.int .i64 y.f6.f0,.string y.f6.f1,.int .i64 y.f6.f2,.slice y9 y.f6.f3.length yc9] 27)
   replace HK:=am (Kept.below HK.out ba4)
   replace HP:=am (HP.out.below ba4)
   replace HR:=am (HR.out.belowS ba4)
   replace HX:=am (HX.out.belowS ba4)
   replace HKD:=am (Kd.R_below HKD.out ba4)
   replace Vy:=am (Vy.out.below ba4)
   clear ba4
   refine ⟨HX.out, ?_⟩
   refine tree_1Q (i:=8) (by kernel_rfl) ?_
   refine step_list (by rfl) ?_
   have st8:=tt
   go_wp2_with ((
         refine append27 Tryd.underlying22 info27 (w1.heap.size + 1) W1.heap.size rfl (.tmp 24) (.tmp 29) rfl (.slice (some ⟨(w2).heap.size,0,none⟩) 1 1) [x] [y] (some ⟨w6.heap.size,0,none⟩) 1 1 (by rfl) (by rfl) HKD.out HKY.out (by omega) hsl (by simp) (by have:=HX.out.lt;omega) ?_
         clear st8
         go_must (
          intro v1 w10 hR10 hG10
          replace hR10:k27.R 27 w10 (w1.heap.size + 1) Any v1 [x,y]:=hR10
          obtain ⟨A10,c10,rfl⟩:∃ A c,v1 = .slice A 2 c:=Kd.R_slice hR10
          have hown:=R_ownb HKD.out
          replace HK:=am (Kept.grown HK.out hG10 (fun k hk=>.inr ⟨by have:=(hown k hk).1;omega,by have:=(hown k hk).2;omega⟩))
          replace HP:=am (HP.out.grown hG10 (fun k hk=>R_own27 HKD.out k hk))
          replace HR:=am (HR.out.of_block (hG10.block _ HR.out.lt (fun h=>by have:=hown _ h.symm;omega)))
          replace HX:=am (HX.out.of_block (hG10.block _ HX.out.lt (fun h=>by have:=hown _ h.symm;omega)))
          have HKN:=am hR10
          clear hR10 hG10 hown
          have st9:=tt)))
   clear st9
   refine ⟨HX.out, ?_⟩
   refine tqh hsure HX.out 9 ?_
   apply Exists.intro
   apply And.intro
   ·rintro w' k1
    apply VR.mk
    go_simp
    with_reducible rfl
   try simp only [sA,sB,sC]
   rw [<- hQQ]
   refine tree_doneR (by kernel_rfl) ?_
   refine restQ_tree (fun _=>True) ?_
   clear hsure hS hQQ
   refine tree_1Q (i:=10) (by kernel_rfl) ?_
   refine step_list (by rfl) ?_
   have st10:=tt
   go_wp2_with ((
         (with_reducible refine gate_store (t:=27) (p:=6) rfl ?_)
         clear st10
         go_must (
          refine store_event (t:=27) (p:=6) (v:=.tmp 31) (w1:=World.setRow w10 (w1.heap.size) #[.int .i64 34,.int .i64 a1,.int .i64 0,.string ⟨#[]⟩,.slice A10 2 c10,.slice none 0 0,.int .i64 0,.string ⟨#[]⟩,.int .i64 0,.slice none 0 0]) ?hg ?ho ?hn ?hr ?_
          (case ho=>rfl)
          (case hg=>rfl)
          (case hn=>rfl)
          (case hr=>exact store27 w10 (w1.heap.size) _ _ HX.out rfl rfl (by first | kernel_rfl | (simp [Value.oneCell'])) _ _ _ _ rfl rfl rfl)
          intro w77 hw77
          subst hw77
          have st11:=tt)))
   clear st11
   replace HK:=am (kept_rowX HK.out (g:=w1.heap.size) (.inr (by show w.heap.size <= w1.heap.size;omega)) #[.int .i64 34,.int .i64 a1,.int .i64 0,.string ⟨#[]⟩,.slice A10 2 c10,.slice none 0 0,.int .i64 0,.string ⟨#[]⟩,.int .i64 0,.slice none 0 0])
   replace HP:=am (PS.rowP HP.out HX.out #[.int .i64 34,.int .i64 a1,.int .i64 0,.string ⟨#[]⟩,.slice A10 2 c10,.slice none 0 0,.int .i64 0,.string ⟨#[]⟩,.int .i64 0,.slice none 0 0])
   replace HR:=am (has_row_other HR.out (g:=w1.heap.size) (cs':=#[.int .i64 34,.int .i64 a1,.int .i64 0,.string ⟨#[]⟩,.slice A10 2 c10,.slice none 0 0,.int .i64 0,.string ⟨#[]⟩,.int .i64 0,.slice none 0 0]) (by omega))
   replace HKN:=am (R_far HKN.out (fun kk h1 _=>row_block _ (w1.heap.size) kk #[.int .i64 34,.int .i64 a1,.int .i64 0,.string ⟨#[]⟩,.slice A10 2 c10,.slice none 0 0,.int .i64 0,.string ⟨#[]⟩,.int .i64 0,.slice none 0 0] (by omega)))
   replace HX:=am (has_row HX.out #[.int .i64 34,.int .i64 a1,.int .i64 0,.string ⟨#[]⟩,.slice A10 2 c10,.slice none 0 0,.int .i64 0,.string ⟨#[]⟩,.int .i64 0,.slice none 0 0])
   first | refine ⟨trivial,tree_endQ (by kernel_rfl) ?_⟩ | refine tree_endQ (by kernel_rfl) ?_
   cases hHS:isP sSemi l2 with
   | true =>
    have HS:=am hHS
    clear hHS
    have st12:=tt
    go_wp2_with (first
      | (
       go_at_call 42
       clear st12
       go_must (
        (with_reducible refine Calls.mono (need_yes sSemi HP.out HS.out) ?_)
        rintro en w8 ⟨he8,hk8,hp8⟩
        subst he8
        replace HK:=am (Kept.then_ HK.out hk8)
        replace HR:=am (Kept.has hk8 HR.out (by omega))
        replace HX:=am (Kept.has hk8 HX.out (by omega))
        replace HKN:=am (R_kps HKN.out HP.out hk8)
        replace HP:=am hp8
        have hs8:=Kept.size hk8
        try simp at hs8
        have st13:=tt))
      | (
       (with_reducible refine gate_dst (N:=41) rfl ?_)
       clear st13
       go_must (
        refine Kd.event_run rfl (load27 w8 (w1.heap.size) #[.int .i64 34,.int .i64 a1,.int .i64 0,.string ⟨#[]⟩,.slice A10 2 c10,.slice none 0 0,.int .i64 0,.string ⟨#[]⟩,.int .i64 0,.slice none 0 0] HX.out rfl _ _ _ rfl rfl) ?_
        have st14:=tt))
      | (
       (with_reducible refine gate_store (t:=27) (p:=4) rfl ?_)
       clear st14
       go_must (
        refine store_event (t:=27) (p:=4) (v:=.tmp 41) (w1:=World.setRow w8 (w.heap.size) #[.int .i64 34,.int .i64 a1,.int .i64 0,.string ⟨#[]⟩,.slice A10 2 c10,.slice none 0 0,.int .i64 0,.string ⟨#[]⟩,.int .i64 0,.slice none 0 0]) ?hg ?ho ?hn ?hr ?_
        (case ho=>rfl)
        (case hg=>rfl)
        (case hn=>rfl)
        (case hr=>exact store27 w8 (w.heap.size) _ _ HR.out rfl rfl (by first | kernel_rfl | (simp [Value.oneCell'])) _ _ _ _ rfl rfl rfl)
        intro w79 hw79
        subst hw79
        have st15:=tt)))
    clear st15
    replace HK:=am (kept_rowX HK.out (g:=w.heap.size) (.inr (by show w.heap.size <= w.heap.size;omega)) #[.int .i64 34,.int .i64 a1,.int .i64 0,.string ⟨#[]⟩,.slice A10 2 c10,.slice none 0 0,.int .i64 0,.string ⟨#[]⟩,.int .i64 0,.slice none 0 0])
    replace HP:=am (PS.rowP HP.out HR.out #[.int .i64 34,.int .i64 a1,.int .i64 0,.string ⟨#[]⟩,.slice A10 2 c10,.slice none 0 0,.int .i64 0,.string ⟨#[]⟩,.int .i64 0,.slice none 0 0])
    replace HX:=am (has_row_other HX.out (g:=w.heap.size) (cs':=#[.int .i64 34,.int .i64 a1,.int .i64 0,.string ⟨#[]⟩,.slice A10 2 c10,.slice none 0 0,.int .i64 0,.string ⟨#[]⟩,.int .i64 0,.slice none 0 0]) (by omega))
    replace HKN:=am (R_far HKN.out (fun kk h1 _=>row_block _ (w.heap.size) kk #[.int .i64 34,.int .i64 a1,.int .i64 0,.string ⟨#[]⟩,.slice A10 2 c10,.slice none 0 0,.int .i64 0,.string ⟨#[]⟩,.int .i64 0,.slice none 0 0] (by omega)))
    replace HR:=am (has_row HR.out #[.int .i64 34,.int .i64 a1,.int .i64 0,.string ⟨#[]⟩,.slice A10 2 c10,.slice none 0 0,.int .i64 0,.string ⟨#[]⟩,.int .i64 0,.slice none 0 0])
    have HE:Aside0 (R = .ok (mkE 34 a1 0 ⟨#[]⟩ [x,y] [],false) l2.tail):=⟨by rw [HEQ.out];simp [needP,PR.andThen,HA.out,HA1.out,HQ.out,HY.out,HS.out]⟩
    refine bodyPost_ret (results_ct rfl _ _ w.heap.size 27 #[.int .i64 34,.int .i64 a1,.int .i64 0,.string ⟨#[]⟩,.slice A10 2 c10,.slice none 0 0,.int .i64 0,.string ⟨#[]⟩,.int .i64 0,.slice none 0 0] (0,0) _ rfl HR.out Tryd.underlying27 rfl (by rfl)) rfl ?_
    rw [HE.out]
    exact ⟨HK.out,_,rfl,⟨_,rfl,((VO.node 34 a1 0 ⟨#[]⟩ HKN.out).lower (by omega))⟩,HP.out⟩
   | false =>
   have HS:=am hHS
   clear hHS
   have st12:=tt
   go_wp2_with ((
         go_at_call 42
         clear st12
         go_must (
          (with_reducible refine Calls.mono (need_no sSemi HP.out HS.out) ?_)
          rintro en w8 ⟨he8,hk8⟩
          subst he8
          replace HK:=am (Kept.then_ HK.out hk8)
          replace HR:=am (Kept.has hk8 HR.out (by omega))
          replace HX:=am (Kept.has hk8 HX.out (by omega))
          replace HKN:=am (R_kps HKN.out HP.out hk8)
          have hs8:=Kept.size hk8
          try simp at hs8
          have st13:=tt)))
   clear st13
   have HE:Aside0 (R = .bad (atP e l2) 30):=⟨by rw [HEQ.out];simp [needP,PR.andThen,HA.out,HA1.out,HQ.out,HY.out,HS.out]⟩
   rw [HE.out]
   exact ⟨rfl,HK.out,rfl⟩
  ·have HY:=am hr
   refine .inr ⟨_,rfl, ?_⟩
   replace HK:=am (Kept.then_ HK.out hk)
   replace HR:=am (Kept.has hk HR.out (by omega))
   replace HX:=am (Kept.has hk HX.out (by omega))
   replace HKD:=am (R_kps HKD.out HP.out hk)
   have hs6:=Kept.size hk
   try simp at hs6
   rw [<- hQQ]
   have HE:Aside0 (R = .bad bb er):=⟨by rw [HEQ.out];simp [needP,PR.andThen,HA.out,HA1.out,HQ.out,HY.out]⟩
   have he:=HE.out
   subst he
   exact ⟨rfl,HK.out,rfl⟩
 | false =>
 have HQ:=am hHQ
 clear hHQ
 have st6:=tt
 go_wp2_with ((
       go_at_call 41
       clear st6
       go_must (
        (with_reducible refine Calls.mono (take_no sEq HP.out HQ.out) ?_)
        rintro en w5 ⟨he5,hk5,hp5⟩
        subst he5
        replace HK:=am (Kept.then_ HK.out hk5)
        replace HR:=am (Kept.has hk5 HR.out (by omega))
        replace HX:=am (Kept.has hk5 HX.out (by omega))
        replace Vx:=am (VO.kps Vx.out HP.out hk5)
        replace HROW:=am (Kept.has hk5 HROW.out (by omega))
        replace HKD:=am (R_kps HKD.out HP.out hk5)
        replace HP:=am hp5
        have hs5:=Kept.size hk5
        try simp at hs5
        have st7:=tt)))
 clear st7
 cases hHB:isP sRbrace l1 with
 | true =>
  have HB:=am hHB
  clear hHB
  have st8:=tt
  go_wp2_with (first
    | (
     go_at_call 60
     clear st8
     go_must (
      (with_reducible refine Calls.mono (is_ps sRbrace HP.out) ?_)
      rintro en w6 ⟨he6,hb6⟩
      rw [HB.out] at he6
      subst he6
      replace HK:=am (Kept.below HK.out hb6)
      replace HP:=am (HP.out.below hb6)
      replace HR:=am (HR.out.belowS hb6)
      replace HX:=am (HX.out.belowS hb6)
      replace Vx:=am (Vx.out.below hb6)
      replace HROW:=am (HROW.out.belowS hb6)
      replace HKD:=am (Kd.R_below HKD.out hb6)
      have hs6:=Below.size hb6
      try simp at hs6
      have cw_HX_4:=hci HX.out 4 rfl
      have st9:=tt))
    | (
     (with_reducible refine gate_dst (N:=38) rfl ?_)
     clear st9
     go_must (
      refine Kd.event_run rfl (load27 w6 ((w2).heap.size) #[.int .i64 x.f0,.int .i64 x.f1,.int .i64 x.f2,.string x.f3,.slice x4 x.f4.length xc4,.slice x5 x.f5.length xc5,.int .i64 x.f6.f0,.string x.f6.f1,.int .i64 x.f6.f2,.slice x9 x.f6.f3.length xc9] HROW.out rfl _ _ _ rfl rfl) ?_
      have st10:=tt))
    | (
     (with_reducible refine gate_store (t:=27) (p:=4) rfl ?_)
     clear st10
     go_must (
      refine store_event (t:=27) (p:=4) (v:=.tmp 38) (w1:=World.setRow w6 (w.heap.size) #[.int .i64 x.f0,.int .i64 x.f1,.int .i64 x.f2,.string x.f3,.slice x4 x.f4.length xc4,.slice x5 x.f5.length xc5,.int .i64 x.f6.f0,.string x.f6.f1,.int .i64 x.f6.f2,.slice x9 x.f6.f3.length xc9]) ?hg ?ho ?hn ?hr ?_
      (case ho=>rfl)
      (case hg=>rfl)
      (case hn=>rfl)
      (case hr=>exact store27 w6 (w.heap.size) _ _ HR.out rfl rfl (by first | kernel_rfl | (simp [Value.oneCell'])) _ _ _ _ rfl rfl rfl)
      intro w77 hw77
      subst hw77
      have st11:=tt)))
  clear st11
  replace HK:=am (kept_rowX HK.out (g:=w.heap.size) (.inr (by show w.heap.size <= w.heap.size;omega)) #[.int .i64 x.f0,.int .i64 x.f1,.int .i64 x.f2,.string x.f3,.slice x4 x.f4.length xc4,.slice x5 x.f5.length xc5,.int .i64 x.f6.f0,.string x.f6.f1,.int .i64 x.f6.f2,.slice x9 x.f6.f3.length xc9])
  replace HP:=am (PS.rowP HP.out HR.out #[.int .i64 x.f0,.int .i64 x.f1,.int .i64 x.f2,.string x.f3,.slice x4 x.f4.length xc4,.slice x5 x.f5.length xc5,.int .i64 x.f6.f0,.string x.f6.f1,.int .i64 x.f6.f2,.slice x9 x.f6.f3.length xc9])
  replace HX:=am (has_row_other HX.out (g:=w.heap.size) (cs':=#[.int .i64 x.f0,.int .i64 x.f1,.int .i64 x.f2,.string x.f3,.slice x4 x.f4.length xc4,.slice x5 x.f5.length xc5,.int .i64 x.f6.f0,.string x.f6.f1,.int .i64 x.f6.f2,.slice x9 x.f6.f3.length xc9]) (by omega))
  replace Vx:=am (VO.rowO Vx.out (g:=w.heap.size) (fun kk h1 h2=>by omega) #[.int .i64 x.f0,.int .i64 x.f1,.int .i64 x.f2,.string x.f3,.slice x4 x.f4.length xc4,.slice x5 x.f5.length xc5,.int .i64 x.f6.f0,.string x.f6.f1,.int .i64 x.f6.f2,.slice x9 x.f6.f3.length xc9])
  replace HROW:=am (has_row_other HROW.out (g:=w.heap.size) (cs':=#[.int .i64 x.f0,.int .i64 x.f1,.int .i64 x.f2,.string x.f3,.slice x4 x.f4.length xc4,.slice x5 x.f5.length xc5,.int .i64 x.f6.f0,.string x.f6.f1,.int .i64 x.f6.f2,.slice x9 x.f6.f3.length xc9]) (by omega))
  replace HKD:=am (R_far HKD.out (fun kk h1 _=>row_block _ (w.heap.size) kk #[.int .i64 x.f0,.int .i64 x.f1,.int .i64 x.f2,.string x.f3,.slice x4 x.f4.length xc4,.slice x5 x.f5.length xc5,.int .i64 x.f6.f0,.string x.f6.f1,.int .i64 x.f6.f2,.slice x9 x.f6.f3.length xc9] (by omega)))
  replace HR:=am (has_row HR.out #[.int .i64 x.f0,.int .i64 x.f1,.int .i64 x.f2,.string x.f3,.slice x4 x.f4.length xc4,.slice x5 x.f5.length xc5,.int .i64 x.f6.f0,.string x.f6.f1,.int .i64 x.f6.f2,.slice x9 x.f6.f3.length xc9])
  clear cw_HX_4
  have cw_HX_4:=hci HX.out 4 rfl
  have HE:Aside0 (R = .ok (x,true) l1):=⟨by rw [HEQ.out];simp [needP,PR.andThen,HA.out,HA1.out,HQ.out,HB.out]⟩
  refine bodyPost_ret (results_ct rfl _ _ w.heap.size 27 #[.int .i64 x.f0,.int .i64 x.f1,.int .i64 x.f2,.string x.f3,.slice x4 x.f4.length xc4,.slice x5 x.f5.length xc5,.int .i64 x.f6.f0,.string x.f6.f1,.int .i64 x.f6.f2,.slice x9 x.f6.f3.length xc9] (0,0) _ rfl HR.out Tryd.underlying27 rfl (by rfl)) rfl ?_
  rw [HE.out]
  exact ⟨HK.out,_,rfl,⟨_,rfl,(Vx.out.lower (by omega))⟩,HP.out⟩
 | false =>
 have HB:=am hHB
 clear hHB
 have st8:=tt
 go_wp2_with ((
       go_at_call 60
       clear st8
       go_must (
        (with_reducible refine Calls.mono (is_ps sRbrace HP.out) ?_)
        rintro en w6 ⟨he6,hb6⟩
        rw [HB.out] at he6
        subst he6
        replace HK:=am (Kept.below HK.out hb6)
        replace HP:=am (HP.out.below hb6)
        replace HR:=am (HR.out.belowS hb6)
        replace HX:=am (HX.out.belowS hb6)
        replace Vx:=am (Vx.out.below hb6)
        replace HROW:=am (HROW.out.belowS hb6)
        replace HKD:=am (Kd.R_below HKD.out hb6)
        have hs6:=Below.size hb6
        try simp at hs6
        have st9:=tt)))
 clear st9
 cases hHS:isP sSemi l1 with
 | true =>
  have HS:=am hHS
  clear hHS
  have st10:=tt
  go_wp2_with (first
    | (
     go_at_call 42
     clear st10
     go_must (
      (with_reducible refine Calls.mono (need_yes sSemi HP.out HS.out) ?_)
      rintro en w7 ⟨he7,hk7,hp7⟩
      subst he7
      replace HK:=am (Kept.then_ HK.out hk7)
      replace HR:=am (Kept.has hk7 HR.out (by omega))
      replace HX:=am (Kept.has hk7 HX.out (by omega))
      replace Vx:=am (VO.kps Vx.out HP.out hk7)
      replace HROW:=am (Kept.has hk7 HROW.out (by omega))
      replace HKD:=am (R_kps HKD.out HP.out hk7)
      replace HP:=am hp7
      have hs7:=Kept.size hk7
      try simp at hs7
      have st11:=tt))
    | (
     (with_reducible refine gate_dst (N:=41) rfl ?_)
     clear st11
     go_must (
      refine Kd.event_run rfl (load27 w7 (w1.heap.size) #[.int .i64 35,.int .i64 a0,.int .i64 0,.string ⟨#[]⟩,.slice (some ⟨(w2).heap.size,0,none⟩) 1 1,.slice none 0 0,.int .i64 0,.string ⟨#[]⟩,.int .i64 0,.slice none 0 0] HX.out rfl _ _ _ rfl rfl) ?_
      have st12:=tt))
    | (
     (with_reducible refine gate_store (t:=27) (p:=4) rfl ?_)
     clear st12
     go_must (
      refine store_event (t:=27) (p:=4) (v:=.tmp 41) (w1:=World.setRow w7 (w.heap.size) #[.int .i64 35,.int .i64 a0,.int .i64 0,.string ⟨#[]⟩,.slice (some ⟨(w2).heap.size,0,none⟩) 1 1,.slice none 0 0,.int .i64 0,.string ⟨#[]⟩,.int .i64 0,.slice none 0 0]) ?hg ?ho ?hn ?hr ?_
      (case ho=>rfl)
      (case hg=>rfl)
      (case hn=>rfl)
      (case hr=>exact store27 w7 (w.heap.size) _ _ HR.out rfl rfl (by first | kernel_rfl | (simp [Value.oneCell'])) _ _ _ _ rfl rfl rfl)
      intro w78 hw78
      subst hw78
      have st13:=tt)))
  clear st13
  replace HK:=am (kept_rowX HK.out (g:=w.heap.size) (.inr (by show w.heap.size <= w.heap.size;omega)) #[.int .i64 35,.int .i64 a0,.int .i64 0,.string ⟨#[]⟩,.slice (some ⟨(w2).heap.size,0,none⟩) 1 1,.slice none 0 0,.int .i64 0,.string ⟨#[]⟩,.int .i64 0,.slice none 0 0])
  replace HP:=am (PS.rowP HP.out HR.out #[.int .i64 35,.int .i64 a0,.int .i64 0,.string ⟨#[]⟩,.slice (some ⟨(w2).heap.size,0,none⟩) 1 1,.slice none 0 0,.int .i64 0,.string ⟨#[]⟩,.int .i64 0,.slice none 0 0])
  replace HX:=am (has_row_other HX.out (g:=w.heap.size) (cs':=#[.int .i64 35,.int .i64 a0,.int .i64 0,.string ⟨#[]⟩,.slice (some ⟨(w2).heap.size,0,none⟩) 1 1,.slice none 0 0,.int .i64 0,.string ⟨#[]⟩,.int .i64 0,.slice none 0 0]) (by omega))
  replace Vx:=am (VO.rowO Vx.out (g:=w.heap.size) (fun kk h1 h2=>by omega) #[.int .i64 35,.int .i64 a0,.int .i64 0,.string ⟨#[]⟩,.slice (some ⟨(w2).heap.size,0,none⟩) 1 1,.slice none 0 0,.int .i64 0,.string ⟨#[]⟩,.int .i64 0,.slice none 0 0])
  replace HROW:=am (has_row_other HROW.out (g:=w.heap.size) (cs':=#[.int .i64 35,.int .i64 a0,.int .i64 0,.string ⟨#[]⟩,.slice (some ⟨(w2).heap.size,0,none⟩) 1 1,.slice none 0 0,.int .i64 0,.string ⟨#[]⟩,.int .i64 0,.slice none 0 0]) (by omega))
  replace HKD:=am (R_far HKD.out (fun kk h1 _=>row_block _ (w.heap.size) kk #[.int .i64 35,.int .i64 a0,.int .i64 0,.string ⟨#[]⟩,.slice (some ⟨(w2).heap.size,0,none⟩) 1 1,.slice none 0 0,.int .i64 0,.string ⟨#[]⟩,.int .i64 0,.slice none 0 0] (by omega)))
  replace HR:=am (has_row HR.out #[.int .i64 35,.int .i64 a0,.int .i64 0,.string ⟨#[]⟩,.slice (some ⟨(w2).heap.size,0,none⟩) 1 1,.slice none 0 0,.int .i64 0,.string ⟨#[]⟩,.int .i64 0,.slice none 0 0])
  have HE:Aside0 (R = .ok (mkE 35 a0 0 ⟨#[]⟩ [x] [],false) l1.tail):=⟨by rw [HEQ.out];simp [needP,PR.andThen,HA.out,HA1.out,HQ.out,HB.out,HS.out]⟩
  refine bodyPost_ret (results_ct rfl _ _ w.heap.size 27 #[.int .i64 35,.int .i64 a0,.int .i64 0,.string ⟨#[]⟩,.slice (some ⟨(w2).heap.size,0,none⟩) 1 1,.slice none 0 0,.int .i64 0,.string ⟨#[]⟩,.int .i64 0,.slice none 0 0] (0,0) _ rfl HR.out Tryd.underlying27 rfl (by rfl)) rfl ?_
  rw [HE.out]
  exact ⟨HK.out,_,rfl,⟨_,rfl,((VO.node 35 a0 0 ⟨#[]⟩ HKD.out).lower (by omega))⟩,HP.out⟩
 | false =>
 have HS:=am hHS
 clear hHS
 have st10:=tt
 go_wp2_with ((
       go_at_call 42
       clear st10
       go_must (
        (with_reducible refine Calls.mono (need_no sSemi HP.out HS.out) ?_)
        rintro en w7 ⟨he7,hk7⟩
        subst he7
        replace HK:=am (Kept.then_ HK.out hk7)
        replace HR:=am (Kept.has hk7 HR.out (by omega))
        replace HX:=am (Kept.has hk7 HX.out (by omega))
        replace Vx:=am (VO.kps Vx.out HP.out hk7)
        replace HROW:=am (Kept.has hk7 HROW.out (by omega))
        replace HKD:=am (R_kps HKD.out HP.out hk7)
        have hs7:=Kept.size hk7
        try simp at hs7
        have st11:=tt)))
 clear st11
 have HE:Aside0 (R = .bad (atP e l1) 30):=⟨by rw [HEQ.out];simp [needP,PR.andThen,HA.out,HA1.out,HQ.out,HB.out,HS.out]⟩
 rw [HE.out]
 exact ⟨rfl,HK.out,rfl⟩
end Go.Proofs.YtngpgdmafmkddaaDoor.Par
end
section
namespace Go.Proofs.YtngpgdmafmkddaaDoor.Par
open Go.Proofs.YtngpgdmafmkddaaDoor.Calm Go.RowKit Go.Proofs.YtngpgdmafmkddaaDoorW.PrintWords Go.Proofs.YtngpgdmafmkddaaDoorW.PrintLast Go.Proofs.YtngpgdmafmkddaaDoorW.PrintMore
open Go.Proofs.YtngpgdmafmkddaaDoor.PParseBlanks (S35 S25 S27 k35 k25 k27 rd_T35 rd_T25 rd_T27 at_T35 at_T25 at_T27)
set_option linter.unusedVariables false
set_option linter.unusedSimpArgs false
set_option maxRecDepth 100000 in
set_option maxHeartbeats 8000000 in
theorem let_ok {n:Nat} (HT:TreeOK n) (HY:TypOK n):LetOK (n + 1):=by
 intro g e d r a l w h0 h1 HP HX hne
 unfold TreeOK at HT
 unfold TypOK at HY
 have HTT:=am HT
 have HYY:=am HY
 have hu27:=Tryd.underlying27
 have kw:IntKind.i64.wrap (d + 1) = d + 1:=IntWalk.i64_in _ (by omega)
 obtain ⟨R,hR⟩:∃ R,letP e (n + 1) d a l = R:=⟨_,rfl⟩
 have hE:=hR
 simp only [letP] at hE
 rw [hR] at hne ⊢
 have HEQ:=am hE.symm
 have HNE:=am hne
 have hgw:=HP.glt
 have hrw:=HX.lt
 have hrg:r ≠ g:=by
  obtain ⟨_,_,q⟩:=HP
  exact HX.ne q.has (by decide)
 have HK:Aside0 (Kept (fun b=>b = g \/ b = r) w w):=⟨Kept.refl _ w⟩
 have HP:=am HP
 have HX:=am HX
 clear hR hne hE HT HY
 go_enter Tryd.func75,Tryd.ntmps75
 have c1:=hci HX.out 0 rfl
 have f1:=Has.frozen HX.out 0
 go_wp2_with fail
 clear c1 f1
 replace HK:=am (Kept.setCellX HK.out (a:=⟨r,0,none⟩) (.inl (.inr rfl)) (.int .i64 33))
 replace HP:=am (PS.setT HP.out HX.out (by decide) (by decide) 0 (.int .i64 33))
 replace HX:Aside0 (Has (w.setCell ⟨r,0,none⟩ (.int .i64 33)) (r) #[.int .i64 33,.int .i64 a,.int .i64 0,.string ⟨#[]⟩,.slice none 0 0,.slice none 0 0,.int .i64 0,.string ⟨#[]⟩,.int .i64 0,.slice none 0 0] 27):=⟨by have h:=Has.set_ HX.out 0 (.int .i64 33);exact h⟩
 cases hHM:isP sMut l with
 | true =>
  have HM:=am hHM
  clear hHM
  have st1:=tt
  go_wp2_with ((
        go_at_call 41
        clear st1
        go_must (
         (with_reducible refine Calls.mono (take_yes sMut HP.out HM.out) ?_)
         rintro en w2 ⟨he2,hk2,hp2⟩
         subst he2
         replace HK:=am (Kept.then_ HK.out (Kept.mono hk2 fun kk h=>.inl h))
         replace HX:=am (Kept.has hk2 HX.out (by omega))
         replace HP:=am hp2
         have hs2:=Kept.size hk2
         try simp at hs2
         have c3:=hci HX.out 2 rfl
         have f3:=Has.frozen HX.out 2
         have st2:=tt)))
  clear st2
  clear c3 f3
  replace HK:=am (Kept.setCellX HK.out (a:=⟨r,2,none⟩) (.inl (.inr rfl)) (.int .i64 1))
  replace HP:=am (PS.setT HP.out HX.out (by decide) (by decide) 2 (.int .i64 1))
  replace HX:Aside0 (Has (w2.setCell ⟨r,2,none⟩ (.int .i64 1)) (r) #[.int .i64 33,.int .i64 a,.int .i64 1,.string ⟨#[]⟩,.slice none 0 0,.slice none 0 0,.int .i64 0,.string ⟨#[]⟩,.int .i64 0,.slice none 0 0] 27):=⟨by have h:=Has.set_ HX.out 2 (.int .i64 1);exact h⟩
  cases hHA:nameP e l.tail with
  | out=>exact absurd (by rw [HEQ.out];simp [needP,PR.andThen,HM.out,hHA]) HNE.out
  | bad bb er =>
   have HA:=am hHA
   have HAN:=am (show nameP e l.tail ≠ .out by rw [hHA];exact PR.bad_ne _ _)
   clear hHA
   have st3:=tt
   go_wp2_with ((
         go_at_call 40
         clear st3
         go_must (
          (with_reducible refine Calls.mono (name_said g l.tail e _ HP.out) ?_)
          rintro en w4 ⟨hk4,he4⟩
          rw [HA.out] at he4
          subst he4
          replace HK:=am (Kept.then_ HK.out (Kept.mono hk4 fun kk h=>.inl h))
          replace HX:=am (Kept.has hk4 HX.out (by omega))
          have hs4:=Kept.size hk4
          try simp at hs4
          have st4:=tt)))
   clear st4
   have HE:Aside0 (R = .bad bb er):=⟨by rw [HEQ.out];simp [needP,PR.andThen,HM.out,HA.out]⟩
   rw [HE.out]
   exact ⟨rfl,HK.out,rfl⟩
  | ok s l1 =>
  have HA:=am hHA
  have HAN:=am (show nameP e l.tail ≠ .out by rw [hHA];exact PR.ok_ne _ _)
  clear hHA
  have st3:=tt
  go_wp2_with ((
        go_at_call 40
        clear st3
        go_must (
         (with_reducible refine Calls.mono (name_said g l.tail e _ HP.out) ?_)
         rintro en w4 ⟨hk4,he4⟩
         rw [HA.out] at he4
         obtain ⟨v4,rfl,hv4,hp4⟩:=he4
         obtain rfl:=hv4
         replace HK:=am (Kept.then_ HK.out (Kept.mono hk4 fun kk h=>.inl h))
         replace HX:=am (Kept.has hk4 HX.out (by omega))
         replace HP:=am hp4
         have hs4:=Kept.size hk4
         try simp at hs4
         have c5:=hci HX.out 3 rfl
         have f5:=Has.frozen HX.out 3
         have st4:=tt)))
  clear st4
  clear c5 f5
  replace HK:=am (Kept.setCellX HK.out (a:=⟨r,3,none⟩) (.inl (.inr rfl)) (.string s))
  replace HP:=am (PS.setT HP.out HX.out (by decide) (by decide) 3 (.string s))
  replace HX:Aside0 (Has (w4.setCell ⟨r,3,none⟩ (.string s)) (r) #[.int .i64 33,.int .i64 a,.int .i64 1,.string s,.slice none 0 0,.slice none 0 0,.int .i64 0,.string ⟨#[]⟩,.int .i64 0,.slice none 0 0] 27):=⟨by have h:=Has.set_ HX.out 3 (.string s);exact h⟩
  cases hHO:isP sColon l1 with
  | true =>
   have HO:=am hHO
   clear hHO
   have st5:=tt
   go_wp2_with ((
         go_at_call 41
         clear st5
         go_must (
          (with_reducible refine Calls.mono (take_yes sColon HP.out HO.out) ?_)
          rintro en w6 ⟨he6,hk6,hp6⟩
          subst he6
          replace HK:=am (Kept.then_ HK.out (Kept.mono hk6 fun kk h=>.inl h))
          replace HX:=am (Kept.has hk6 HX.out (by omega))
          replace HP:=am hp6
          have hs6:=Kept.size hk6
          try simp at hs6
          have st6:=tt)))
   clear st6
   cases hHB:typP e n (d + 1) l1.tail with
   | out=>exact absurd (by rw [HEQ.out];simp [needP,PR.andThen,HM.out,HA.out,HO.out,hHB]) HNE.out
   | bad bb er =>
    have HB:=am hHB
    have HBN:=am (show typP e n (d + 1) l1.tail ≠ .out by rw [hHB];exact PR.bad_ne _ _)
    clear hHB
    have st7:=tt
    go_wp2_with ((
          go_at_call 46
          clear st7
          go_must (
           (with_reducible refine Calls.mono (HYY.out g e (d + 1) l1.tail _ (by omega) (by omega) HP.out HBN.out) ?_)
           rintro en w7 ⟨hk7,he7⟩
           rw [HB.out] at he7
           subst he7
           replace HK:=am (Kept.then_ HK.out (Kept.mono hk7 fun kk h=>.inl h))
           replace HX:=am (Kept.has hk7 HX.out (by omega))
           have hs7:=Kept.size hk7
           try simp at hs7
           have st8:=tt)))
    clear st8
    have HE:Aside0 (R = .bad bb er):=⟨by rw [HEQ.out];simp [needP,PR.andThen,HM.out,HA.out,HO.out,HB.out]⟩
    rw [HE.out]
    exact ⟨rfl,HK.out,rfl⟩
   | ok t l2 =>
   have HB:=am hHB
   have HBN:=am (show typP e n (d + 1) l1.tail ≠ .out by rw [hHB];exact PR.ok_ne _ _)
   clear hHB
   have st7:=tt
   go_wp2_with ((
         go_at_call 46
         clear st7
         go_must (
          (with_reducible refine Calls.mono (HYY.out g e (d + 1) l1.tail _ (by omega) (by omega) HP.out HBN.out) ?_)
          rintro en w7 ⟨hk7,he7⟩
          rw [HB.out] at he7
          obtain ⟨v7,rfl,hv7,hp7⟩:=he7
          obtain ⟨y3,yc3,rfl⟩:=(hv7).form
          have VT0:=am (VT.lower hv7 (show w.heap.size <= _ by (have:=Kept.size HK.out;omega)))
          clear hv7
          replace HK:=am (Kept.then_ HK.out (Kept.mono hk7 fun kk h=>.inl h))
          replace HX:=am (Kept.has hk7 HX.out (by omega))
          replace HP:=am hp7
          have hs7:=Kept.size hk7
          try simp at hs7
          have HQT:Aside0 (k25.R 25 (w7.alloc (Obj.cells #[.int .i64 t.f0,.string t.f1,.int .i64 t.f2,.slice y3 t.f3.length yc3] 25)) w.heap.size Any (.slice (some ⟨w7.heap.size,0,none⟩) 1 1) [t]):=⟨tyA VT0.out (by have:=Kept.size HK.out;omega)⟩
          clear VT0
          have ba1:=below_alloc (Below.refl (w7).heap.size (w7)) (Obj.cells #[.int .i64 t.f0,.string t.f1,.int .i64 t.f2,.slice y3 t.f3.length yc3] 25)
          replace HK:=am (Kept.below HK.out ba1)
          replace HP:=am (HP.out.below ba1)
          replace HX:=am (HX.out.belowS ba1)
          clear ba1
          have c8:=hci HX.out 5 rfl
          have f8:=Has.frozen HX.out 5
          have st8:=tt)))
   clear st8
   clear c8 f8
   replace HQT:=am (R25_far HQT.out (fun kk h1 _=>Below.heap_setCell _ ⟨r,5,none⟩ (.slice (some ⟨w7.heap.size,0,none⟩) 1 1) kk (by show kk ≠ r;omega)))
   replace HK:=am (Kept.setCellX HK.out (a:=⟨r,5,none⟩) (.inl (.inr rfl)) (.slice (some ⟨w7.heap.size,0,none⟩) 1 1))
   replace HP:=am (PS.setT HP.out HX.out (by decide) (by decide) 5 (.slice (some ⟨w7.heap.size,0,none⟩) 1 1))
   replace HX:Aside0 (Has (((w7.alloc (Obj.cells #[.int .i64 t.f0,.string t.f1,.int .i64 t.f2,.slice y3 t.f3.length yc3] 25))).setCell ⟨r,5,none⟩ (.slice (some ⟨w7.heap.size,0,none⟩) 1 1)) (r) #[.int .i64 33,.int .i64 a,.int .i64 1,.string s,.slice none 0 0,.slice (some ⟨w7.heap.size,0,none⟩) 1 1,.int .i64 0,.string ⟨#[]⟩,.int .i64 0,.slice none 0 0] 27):=⟨by have h:=Has.set_ HX.out 5 (.slice (some ⟨w7.heap.size,0,none⟩) 1 1);exact h⟩
   cases hHQ:isP sEq l2 with
   | true =>
    have HQ:=am hHQ
    clear hHQ
    have st9:=tt
    go_wp2_with ((
          go_at_call 42
          clear st9
          go_must (
           (with_reducible refine Calls.mono (need_yes sEq HP.out HQ.out) ?_)
           rintro en w9 ⟨he9,hk9,hp9⟩
           subst he9
           replace HQT:=am (R25_kps HQT.out HP.out hk9)
           replace HK:=am (Kept.then_ HK.out (Kept.mono hk9 fun kk h=>.inl h))
           replace HX:=am (Kept.has hk9 HX.out (by omega))
           replace HP:=am hp9
           have hs9:=Kept.size hk9
           try simp at hs9
           have st10:=tt)))
    clear st10
    cases hHC:climbP e n (d + 1) true 1 l2.tail with
    | out=>exact absurd (by rw [HEQ.out];simp [needP,PR.andThen,HM.out,HA.out,HO.out,HB.out,HQ.out,hHC]) HNE.out
    | bad bb er =>
     have HC:=am hHC
     have HCN:=am (show climbP e n (d + 1) true 1 l2.tail ≠ .out by rw [hHC];exact PR.bad_ne _ _)
     clear hHC
     have st11:=tt
     go_wp2_with ((
           go_at_call 18
           clear st11
           go_must (
            (with_reducible refine Calls.mono (HTT.out g e (d + 1) true l2.tail _ (by omega) (by omega) HP.out HCN.out) ?_)
            rintro en w10 ⟨hk10,he10⟩
            rw [HC.out] at he10
            subst he10
            replace HQT:=am (R25_kps HQT.out HP.out hk10)
            replace HK:=am (Kept.then_ HK.out (Kept.mono hk10 fun kk h=>.inl h))
            replace HX:=am (Kept.has hk10 HX.out (by omega))
            have hs10:=Kept.size hk10
            try simp at hs10
            have st12:=tt)))
     clear st12
     have HE:Aside0 (R = .bad bb er):=⟨by rw [HEQ.out];simp [needP,PR.andThen,HM.out,HA.out,HO.out,HB.out,HQ.out,HC.out]⟩
     rw [HE.out]
     exact ⟨rfl,HK.out,rfl⟩
    | ok x l9 =>
    have HC:=am hHC
    have HCN:=am (show climbP e n (d + 1) true 1 l2.tail ≠ .out by rw [hHC];exact PR.ok_ne _ _)
    clear hHC
    have st11:=tt
    go_wp2_with ((
          go_at_call 18
          clear st11
          go_must (
           (with_reducible refine Calls.mono (HTT.out g e (d + 1) true l2.tail _ (by omega) (by omega) HP.out HCN.out) ?_)
           rintro en w10 ⟨hk10,he10⟩
           rw [HC.out] at he10
           obtain ⟨v10,rfl,hv10,hp10⟩:=he10
           obtain ⟨x4,xc4,x5,xc5,x9,xc9,rfl⟩:=(hv10).form
           have Vx:=am (VO.lower hv10 (show w.heap.size <= _ by (have:=Kept.size HK.out;omega)))
           clear hv10
           replace HQT:=am (R25_kps HQT.out HP.out hk10)
           replace HK:=am (Kept.then_ HK.out (Kept.mono hk10 fun kk h=>.inl h))
           replace HX:=am (Kept.has hk10 HX.out (by omega))
           replace HP:=am hp10
           have hs10:=Kept.size hk10
           try simp at hs10
           obtain ⟨Mx,Lx⟩:=VO.lit (cs:=[.int .i64 x.f0,.int .i64 x.f1,.int .i64 x.f2,.string x.f3,.slice x4 x.f4.length xc4,.slice x5 x.f5.length xc5,.int .i64 x.f6.f0,.string x.f6.f1,.int .i64 x.f6.f2,.slice x9 x.f6.f3.length xc9]) Vx.out
           have HKD:Aside0 (k27.R 27 ((w10).alloc (Obj.cells #[.int .i64 x.f0,.int .i64 x.f1,.int .i64 x.f2,.string x.f3,.slice x4 x.f4.length xc4,.slice x5 x.f5.length xc5,.int .i64 x.f6.f0,.string x.f6.f1,.int .i64 x.f6.f2,.slice x9 x.f6.f3.length xc9] 27)) (w.heap.size) Any (.slice (some ⟨(w10).heap.size,0,none⟩) 1 1) [x]):=⟨by have h:=kids_lit (w10) (w.heap.size) (by (have:=Kept.size HK.out;omega)) trivial (xs:=[x]) (reps_one Mx Lx) (by simp);exact h⟩
           clear Mx Lx
           have ba2:=below_alloc (Below.refl (w10).heap.size (w10)) (Obj.cells #[.int .i64 x.f0,.int .i64 x.f1,.int .i64 x.f2,.string x.f3,.slice x4 x.f4.length xc4,.slice x5 x.f5.length xc5,.int .i64 x.f6.f0,.string x.f6.f1,.int .i64 x.f6.f2,.slice x9 x.f6.f3.length xc9] 27)
           replace HQT:=am (Kd.R_below HQT.out ba2)
           replace HK:=am (Kept.below HK.out ba2)
           replace HP:=am (HP.out.below ba2)
           replace HX:=am (HX.out.belowS ba2)
           replace Vx:=am (Vx.out.below ba2)
           clear ba2
           have c11:=hci HX.out 4 rfl
           have f11:=Has.frozen HX.out 4
           have st12:=tt)))
    clear st12
    clear c11 f11
    replace HQT:=am (R25_far HQT.out (fun kk h1 _=>Below.heap_setCell _ ⟨r,4,none⟩ (.slice (some ⟨(w10).heap.size,0,none⟩) 1 1) kk (by show kk ≠ r;omega)))
    replace HK:=am (Kept.setCellX HK.out (a:=⟨r,4,none⟩) (.inl (.inr rfl)) (.slice (some ⟨(w10).heap.size,0,none⟩) 1 1))
    replace HP:=am (PS.setT HP.out HX.out (by decide) (by decide) 4 (.slice (some ⟨(w10).heap.size,0,none⟩) 1 1))
    replace Vx:=am (VO.setO Vx.out (a:=⟨r,4,none⟩) (fun kk h1 h2=>by show kk ≠ r;omega) (.slice (some ⟨(w10).heap.size,0,none⟩) 1 1))
    replace HKD:=am (R_far HKD.out (fun kk h1 _=>Below.heap_setCell _ ⟨r,4,none⟩ (.slice (some ⟨(w10).heap.size,0,none⟩) 1 1) kk (by show kk ≠ r;omega)))
    replace HX:Aside0 (Has (((w10.alloc (Obj.cells #[.int .i64 x.f0,.int .i64 x.f1,.int .i64 x.f2,.string x.f3,.slice x4 x.f4.length xc4,.slice x5 x.f5.length xc5,.int .i64 x.f6.f0,.string x.f6.f1,.int .i64 x.f6.f2,.slice x9 x.f6.f3.length xc9] 27))).setCell ⟨r,4,none⟩ (.slice (some ⟨(w10).heap.size,0,none⟩) 1 1)) (r) #[.int .i64 33,.int .i64 a,.int .i64 1,.string s,.slice (some ⟨(w10).heap.size,0,none⟩) 1 1,.slice (some ⟨w7.heap.size,0,none⟩) 1 1,.int .i64 0,.string ⟨#[]⟩,.int .i64 0,.slice none 0 0] 27):=⟨by have h:=Has.set_ HX.out 4 (.slice (some ⟨(w10).heap.size,0,none⟩) 1 1);exact h⟩
    have HE:Aside0 (R = .ok (mkE 33 a 1 s [x] [t]) l9):=⟨by rw [HEQ.out];simp [needP,PR.andThen,HM.out,HA.out,HO.out,HB.out,HQ.out,HC.out]⟩
    refine bodyPost_end (results_none rfl _ _ _) rfl ?_
    rw [HE.out]
    exact ⟨HK.out,rfl,⟨_,HX.out,⟨_,_,_,rfl,HKD.out,HQT.out,Kd.R_nil _ _ _ _ _⟩⟩,HP.out⟩
   | false =>
   have HQ:=am hHQ
   clear hHQ
   have st9:=tt
   go_wp2_with ((
         go_at_call 42
         clear st9
         go_must (
          (with_reducible refine Calls.mono (need_no sEq HP.out HQ.out) ?_)
          rintro en w9 ⟨he9,hk9⟩
          subst he9
          replace HQT:=am (R25_kps HQT.out HP.out hk9)
          replace HK:=am (Kept.then_ HK.out (Kept.mono hk9 fun kk h=>.inl h))
          replace HX:=am (Kept.has hk9 HX.out (by omega))
          have hs9:=Kept.size hk9
          try simp at hs9
          have st10:=tt)))
   clear st10
   have HE:Aside0 (R = .bad (atP e l2) 30):=⟨by rw [HEQ.out];simp [needP,PR.andThen,HM.out,HA.out,HO.out,HB.out,HQ.out]⟩
   rw [HE.out]
   exact ⟨rfl,HK.out,rfl⟩
  | false =>
  have HO:=am hHO
  clear hHO
  have st5:=tt
  go_wp2_with ((
        go_at_call 41
        clear st5
        go_must (
         (with_reducible refine Calls.mono (take_no sColon HP.out HO.out) ?_)
         rintro en w6 ⟨he6,hk6,hp6⟩
         subst he6
         replace HK:=am (Kept.then_ HK.out (Kept.mono hk6 fun kk h=>.inl h))
         replace HX:=am (Kept.has hk6 HX.out (by omega))
         replace HP:=am hp6
         have hs6:=Kept.size hk6
         try simp at hs6
         have st6:=tt)))
  clear st6
  cases hHQ:isP sEq l1 with
  | true =>
   have HQ:=am hHQ
   clear hHQ
   have st7:=tt
   go_wp2_with ((
         go_at_call 42
         clear st7
         go_must (
          (with_reducible refine Calls.mono (need_yes sEq HP.out HQ.out) ?_)
          rintro en w7 ⟨he7,hk7,hp7⟩
          subst he7
          replace HK:=am (Kept.then_ HK.out (Kept.mono hk7 fun kk h=>.inl h))
          replace HX:=am (Kept.has hk7 HX.out (by omega))
          replace HP:=am hp7
          have hs7:=Kept.size hk7
          try simp at hs7
          have st8:=tt)))
   clear st8
   cases hHC:climbP e n (d + 1) true 1 l1.tail with
   | out=>exact absurd (by rw [HEQ.out];simp [needP,PR.andThen,HM.out,HA.out,HO.out,HQ.out,hHC]) HNE.out
   | bad bb er =>
    have HC:=am hHC
    have HCN:=am (show climbP e n (d + 1) true 1 l1.tail ≠ .out by rw [hHC];exact PR.bad_ne _ _)
    clear hHC
    have st9:=tt
    go_wp2_with ((
          go_at_call 18
          clear st9
          go_must (
           (with_reducible refine Calls.mono (HTT.out g e (d + 1) true l1.tail _ (by omega) (by omega) HP.out HCN.out) ?_)
           rintro en w8 ⟨hk8,he8⟩
           rw [HC.out] at he8
           subst he8
           replace HK:=am (Kept.then_ HK.out (Kept.mono hk8 fun kk h=>.inl h))
           replace HX:=am (Kept.has hk8 HX.out (by omega))
           have hs8:=Kept.size hk8
           try simp at hs8
           have st10:=tt)))
    clear st10
    have HE:Aside0 (R = .bad bb er):=⟨by rw [HEQ.out];simp [needP,PR.andThen,HM.out,HA.out,HO.out,HQ.out,HC.out]⟩
    rw [HE.out]
    exact ⟨rfl,HK.out,rfl⟩
   | ok x l9 =>
   have HC:=am hHC
   have HCN:=am (show climbP e n (d + 1) true 1 l1.tail ≠ .out by rw [hHC];exact PR.ok_ne _ _)
   clear hHC
   have st9:=tt
   go_wp2_with ((
         go_at_call 18
         clear st9
         go_must (
          (with_reducible refine Calls.mono (HTT.out g e (d + 1) true l1.tail _ (by omega) (by omega) HP.out HCN.out) ?_)
          rintro en w8 ⟨hk8,he8⟩
          rw [HC.out] at he8
          obtain ⟨v8,rfl,hv8,hp8⟩:=he8
          obtain ⟨x4,xc4,x5,xc5,x9,xc9,rfl⟩:=(hv8).form
          have Vx:=am (VO.lower hv8 (show w.heap.size <= _ by (have:=Kept.size HK.out;omega)))
          clear hv8
          replace HK:=am (Kept.then_ HK.out (Kept.mono hk8 fun kk h=>.inl h))
          replace HX:=am (Kept.has hk8 HX.out (by omega))
          replace HP:=am hp8
          have hs8:=Kept.size hk8
          try simp at hs8
          obtain ⟨Mx,Lx⟩:=VO.lit (cs:=[.int .i64 x.f0,.int .i64 x.f1,.int .i64 x.f2,.string x.f3,.slice x4 x.f4.length xc4,.slice x5 x.f5.length xc5,.int .i64 x.f6.f0,.string x.f6.f1,.int .i64 x.f6.f2,.slice x9 x.f6.f3.length xc9]) Vx.out
          have HKD:Aside0 (k27.R 27 ((w8).alloc (Obj.cells #[.int .i64 x.f0,.int .i64 x.f1,.int .i64 x.f2,.string x.f3,.slice x4 x.f4.length xc4,.slice x5 x.f5.length xc5,.int .i64 x.f6.f0,.string x.f6.f1,.int .i64 x.f6.f2,.slice x9 x.f6.f3.length xc9] 27)) (w.heap.size) Any (.slice (some ⟨(w8).heap.size,0,none⟩) 1 1) [x]):=⟨by have h:=kids_lit (w8) (w.heap.size) (by (have:=Kept.size HK.out;omega)) trivial (xs:=[x]) (reps_one Mx Lx) (by simp);exact h⟩
          clear Mx Lx
          have ba1:=below_alloc (Below.refl (w8).heap.size (w8)) (Obj.cells #[.int .i64 x.f0,.int .i64 x.f1,.int .i64 x.f2,.string x.f3,.slice x4 x.f4.length xc4,.slice x5 x.f5.length xc5,.int .i64 x.f6.f0,.string x.f6.f1,.int .i64 x.f6.f2,.slice x9 x.f6.f3.length xc9] 27)
          replace HK:=am (Kept.below HK.out ba1)
          replace HP:=am (HP.out.below ba1)
          replace HX:=am (HX.out.belowS ba1)
          replace Vx:=am (Vx.out.below ba1)
          clear ba1
          have c9:=hci HX.out 4 rfl
          have f9:=Has.frozen HX.out 4
          have st10:=tt)))
   clear st10
   clear c9 f9
   replace HK:=am (Kept.setCellX HK.out (a:=⟨r,4,none⟩) (.inl (.inr rfl)) (.slice (some ⟨(w8).heap.size,0,none⟩) 1 1))
   replace HP:=am (PS.setT HP.out HX.out (by decide) (by decide) 4 (.slice (some ⟨(w8).heap.size,0,none⟩) 1 1))
   replace Vx:=am (VO.setO Vx.out (a:=⟨r,4,none⟩) (fun kk h1 h2=>by show kk ≠ r;omega) (.slice (some ⟨(w8).heap.size,0,none⟩) 1 1))
   replace HKD:=am (R_far HKD.out (fun kk h1 _=>Below.heap_setCell _ ⟨r,4,none⟩ (.slice (some ⟨(w8).heap.size,0,none⟩) 1 1) kk (by show kk ≠ r;omega)))
   replace HX:Aside0 (Has (((w8.alloc (Obj.cells #[.int .i64 x.f0,.int .i64 x.f1,.int .i64 x.f2,.string x.f3,.slice x4 x.f4.length xc4,.slice x5 x.f5.length xc5,.int .i64 x.f6.f0,.string x.f6.f1,.int .i64 x.f6.f2,.slice x9 x.f6.f3.length xc9] 27))).setCell ⟨r,4,none⟩ (.slice (some ⟨(w8).heap.size,0,none⟩) 1 1)) (r) #[.int .i64 33,.int .i64 a,.int .i64 1,.string s,.slice (some ⟨(w8).heap.size,0,none⟩) 1 1,.slice none 0 0,.int .i64 0,.string ⟨#[]⟩,.int .i64 0,.slice none 0 0] 27):=⟨by have h:=Has.set_ HX.out 4 (.slice (some ⟨(w8).heap.size,0,none⟩) 1 1);exact h⟩
   have HE:Aside0 (R = .ok (mkE 33 a 1 s [x] []) l9):=⟨by rw [HEQ.out];simp [needP,PR.andThen,HM.out,HA.out,HO.out,HQ.out,HC.out]⟩
   refine bodyPost_end (results_none rfl _ _ _) rfl ?_
   rw [HE.out]
   exact ⟨HK.out,rfl,⟨_,HX.out,⟨_,_,_,rfl,HKD.out,Kd.R_nil _ _ _ _ _,Kd.R_nil _ _ _ _ _⟩⟩,HP.out⟩
  | false =>
  have HQ:=am hHQ
  clear hHQ
  have st7:=tt
  go_wp2_with ((
        go_at_call 42
        clear st7
        go_must (
         (with_reducible refine Calls.mono (need_no sEq HP.out HQ.out) ?_)
         rintro en w7 ⟨he7,hk7⟩
         subst he7
         replace HK:=am (Kept.then_ HK.out (Kept.mono hk7 fun kk h=>.inl h))
         replace HX:=am (Kept.has hk7 HX.out (by omega))
         have hs7:=Kept.size hk7
         try simp at hs7
         have st8:=tt)))
  clear st8
  have HE:Aside0 (R = .bad (atP e l1) 30):=⟨by rw [HEQ.out];simp [needP,PR.andThen,HM.out,HA.out,HO.out,HQ.out]⟩
  rw [HE.out]
  exact ⟨rfl,HK.out,rfl⟩
 | false =>
 have HM:=am hHM
 clear hHM
 have st1:=tt
 go_wp2_with ((
       go_at_call 41
       clear st1
       go_must (
        (with_reducible refine Calls.mono (take_no sMut HP.out HM.out) ?_)
        rintro en w2 ⟨he2,hk2,hp2⟩
        subst he2
        replace HK:=am (Kept.then_ HK.out (Kept.mono hk2 fun kk h=>.inl h))
        replace HX:=am (Kept.has hk2 HX.out (by omega))
        replace HP:=am hp2
        have hs2:=Kept.size hk2
        try simp at hs2
        have st2:=tt)))
 clear st2
 cases hHA:nameP e l with
 | out=>exact absurd (by rw [HEQ.out];simp [needP,PR.andThen,HM.out,hHA]) HNE.out
 | bad bb er =>
  have HA:=am hHA
  have HAN:=am (show nameP e l ≠ .out by rw [hHA];exact PR.bad_ne _ _)
  clear hHA
  have st3:=tt
  go_wp2_with ((
        go_at_call 40
        clear st3
        go_must (
         (with_reducible refine Calls.mono (name_said g l e _ HP.out) ?_)
         rintro en w3 ⟨hk3,he3⟩
         rw [HA.out] at he3
         subst he3
         replace HK:=am (Kept.then_ HK.out (Kept.mono hk3 fun kk h=>.inl h))
         replace HX:=am (Kept.has hk3 HX.out (by omega))
         have hs3:=Kept.size hk3
         try simp at hs3
         have st4:=tt)))
  clear st4
  have HE:Aside0 (R = .bad bb er):=⟨by rw [HEQ.out];simp [needP,PR.andThen,HM.out,HA.out]⟩
  rw [HE.out]
  exact ⟨rfl,HK.out,rfl⟩
 | ok s l1 =>
 have HA:=am hHA
 have HAN:=am (show nameP e l ≠ .out by rw [hHA];exact PR.ok_ne _ _)
 clear hHA
 have st3:=tt
 go_wp2_with ((
       go_at_call 40
       clear st3
       go_must (
        (with_reducible refine Calls.mono (name_said g l e _ HP.out) ?_)
        rintro en w3 ⟨hk3,he3⟩
        rw [HA.out] at he3
        obtain ⟨v3,rfl,hv3,hp3⟩:=he3
        obtain rfl:=hv3
        replace HK:=am (Kept.then_ HK.out (Kept.mono hk3 fun kk h=>.inl h))
        replace HX:=am (Kept.has hk3 HX.out (by omega))
        replace HP:=am hp3
        have hs3:=Kept.size hk3
        try simp at hs3
        have c4:=hci HX.out 3 rfl
        have f4:=Has.frozen HX.out 3
        have st4:=tt)))
 clear st4
 clear c4 f4
 replace HK:=am (Kept.setCellX HK.out (a:=⟨r,3,none⟩) (.inl (.inr rfl)) (.string s))
 replace HP:=am (PS.setT HP.out HX.out (by decide) (by decide) 3 (.string s))
 replace HX:Aside0 (Has (w3.setCell ⟨r,3,none⟩ (.string s)) (r) #[.int .i64 33,.int .i64 a,.int .i64 0,.string s,.slice none 0 0,.slice none 0 0,.int .i64 0,.string ⟨#[]⟩,.int .i64 0,.slice none 0 0] 27):=⟨by have h:=Has.set_ HX.out 3 (.string s);exact h⟩
 cases hHO:isP sColon l1 with
 | true =>
  have HO:=am hHO
  clear hHO
  have st5:=tt
  go_wp2_with ((
        go_at_call 41
        clear st5
        go_must (
         (with_reducible refine Calls.mono (take_yes sColon HP.out HO.out) ?_)
         rintro en w5 ⟨he5,hk5,hp5⟩
         subst he5
         replace HK:=am (Kept.then_ HK.out (Kept.mono hk5 fun kk h=>.inl h))
         replace HX:=am (Kept.has hk5 HX.out (by omega))
         replace HP:=am hp5
         have hs5:=Kept.size hk5
         try simp at hs5
         have st6:=tt)))
  clear st6
  cases hHB:typP e n (d + 1) l1.tail with
  | out=>exact absurd (by rw [HEQ.out];simp [needP,PR.andThen,HM.out,HA.out,HO.out,hHB]) HNE.out
  | bad bb er =>
   have HB:=am hHB
   have HBN:=am (show typP e n (d + 1) l1.tail ≠ .out by rw [hHB];exact PR.bad_ne _ _)
   clear hHB
   have st7:=tt
   go_wp2_with ((
         go_at_call 46
         clear st7
         go_must (
          (with_reducible refine Calls.mono (HYY.out g e (d + 1) l1.tail _ (by omega) (by omega) HP.out HBN.out) ?_)
          rintro en w6 ⟨hk6,he6⟩
          rw [HB.out] at he6
          subst he6
          replace HK:=am (Kept.then_ HK.out (Kept.mono hk6 fun kk h=>.inl h))
          replace HX:=am (Kept.has hk6 HX.out (by omega))
          have hs6:=Kept.size hk6
          try simp at hs6
          have st8:=tt)))
   clear st8
   have HE:Aside0 (R = .bad bb er):=⟨by rw [HEQ.out];simp [needP,PR.andThen,HM.out,HA.out,HO.out,HB.out]⟩
   rw [HE.out]
   exact ⟨rfl,HK.out,rfl⟩
  | ok t l2 =>
  have HB:=am hHB
  have HBN:=am (show typP e n (d + 1) l1.tail ≠ .out by rw [hHB];exact PR.ok_ne _ _)
  clear hHB
  have st7:=tt
  go_wp2_with ((
        go_at_call 46
        clear st7
        go_must (
         (with_reducible refine Calls.mono (HYY.out g e (d + 1) l1.tail _ (by omega) (by omega) HP.out HBN.out) ?_)
         rintro en w6 ⟨hk6,he6⟩
         rw [HB.out] at he6
         obtain ⟨v6,rfl,hv6,hp6⟩:=he6
         obtain ⟨y3,yc3,rfl⟩:=(hv6).form
         have VT0:=am (VT.lower hv6 (show w.heap.size <= _ by (have:=Kept.size HK.out;omega)))
         clear hv6
         replace HK:=am (Kept.then_ HK.out (Kept.mono hk6 fun kk h=>.inl h))
         replace HX:=am (Kept.has hk6 HX.out (by omega))
         replace HP:=am hp6
         have hs6:=Kept.size hk6
         try simp at hs6
         have HQT:Aside0 (k25.R 25 (w6.alloc (Obj.cells #[.int .i64 t.f0,.string t.f1,.int .i64 t.f2,.slice y3 t.f3.length yc3] 25)) w.heap.size Any (.slice (some ⟨w6.heap.size,0,none⟩) 1 1) [t]):=⟨tyA VT0.out (by have:=Kept.size HK.out;omega)⟩
         clear VT0
         have ba1:=below_alloc (Below.refl (w6).heap.size (w6)) (Obj.cells #[.int .i64 t.f0,.string t.f1,.int .i64 t.f2,.slice y3 t.f3.length yc3] 25)
         replace HK:=am (Kept.below HK.out ba1)
         replace HP:=am (HP.out.below ba1)
         replace HX:=am (HX.out.belowS ba1)
         clear ba1
         have c7:=hci HX.out 5 rfl
         have f7:=Has.frozen HX.out 5
         have st8:=tt)))
  clear st8
  clear c7 f7
  replace HQT:=am (R25_far HQT.out (fun kk h1 _=>Below.heap_setCell _ ⟨r,5,none⟩ (.slice (some ⟨w6.heap.size,0,none⟩) 1 1) kk (by show kk ≠ r;omega)))
  replace HK:=am (Kept.setCellX HK.out (a:=⟨r,5,none⟩) (.inl (.inr rfl)) (.slice (some ⟨w6.heap.size,0,none⟩) 1 1))
  replace HP:=am (PS.setT HP.out HX.out (by decide) (by decide) 5 (.slice (some ⟨w6.heap.size,0,none⟩) 1 1))
  replace HX:Aside0 (Has (((w6.alloc (Obj.cells #[.int .i64 t.f0,.string t.f1,.int .i64 t.f2,.slice y3 t.f3.length yc3] 25))).setCell ⟨r,5,none⟩ (.slice (some ⟨w6.heap.size,0,none⟩) 1 1)) (r) #[.int .i64 33,.int .i64 a,.int .i64 0,.string s,.slice none 0 0,.slice (some ⟨w6.heap.size,0,none⟩) 1 1,.int .i64 0,.string ⟨#[]⟩,.int .i64 0,.slice none 0 0] 27):=⟨by have h:=Has.set_ HX.out 5 (.slice (some ⟨w6.heap.size,0,none⟩) 1 1);exact h⟩
  cases hHQ:isP sEq l2 with
  | true =>
   have HQ:=am hHQ
   clear hHQ
   have st9:=tt
   go_wp2_with ((
         go_at_call 42
         clear st9
         go_must (
          (with_reducible refine Calls.mono (need_yes sEq HP.out HQ.out) ?_)
          rintro en w8 ⟨he8,hk8,hp8⟩
          subst he8
          replace HQT:=am (R25_kps HQT.out HP.out hk8)
          replace HK:=am (Kept.then_ HK.out (Kept.mono hk8 fun kk h=>.inl h))
          replace HX:=am (Kept.has hk8 HX.out (by omega))
          replace HP:=am hp8
          have hs8:=Kept.size hk8
          try simp at hs8
          have st10:=tt)))
   clear st10
   cases hHC:climbP e n (d + 1) true 1 l2.tail with
   | out=>exact absurd (by rw [HEQ.out];simp [needP,PR.andThen,HM.out,HA.out,HO.out,HB.out,HQ.out,hHC]) HNE.out
   | bad bb er =>
    have HC:=am hHC
    have HCN:=am (show climbP e n (d + 1) true 1 l2.tail ≠ .out by rw [hHC];exact PR.bad_ne _ _)
    clear hHC
    have st11:=tt
    go_wp2_with ((
          go_at_call 18
          clear st11
          go_must (
           (with_reducible refine Calls.mono (HTT.out g e (d + 1) true l2.tail _ (by omega) (by omega) HP.out HCN.out) ?_)
           rintro en w9 ⟨hk9,he9⟩
           rw [HC.out] at he9
           subst he9
           replace HQT:=am (R25_kps HQT.out HP.out hk9)
           replace HK:=am (Kept.then_ HK.out (Kept.mono hk9 fun kk h=>.inl h))
           replace HX:=am (Kept.has hk9 HX.out (by omega))
           have hs9:=Kept.size hk9
           try simp at hs9
           have st12:=tt)))
    clear st12
    have HE:Aside0 (R = .bad bb er):=⟨by rw [HEQ.out];simp [needP,PR.andThen,HM.out,HA.out,HO.out,HB.out,HQ.out,HC.out]⟩
    rw [HE.out]
    exact ⟨rfl,HK.out,rfl⟩
   | ok x l9 =>
   have HC:=am hHC
   have HCN:=am (show climbP e n (d + 1) true 1 l2.tail ≠ .out by rw [hHC];exact PR.ok_ne _ _)
   clear hHC
   have st11:=tt
   go_wp2_with ((
         go_at_call 18
         clear st11
         go_must (
          (with_reducible refine Calls.mono (HTT.out g e (d + 1) true l2.tail _ (by omega) (by omega) HP.out HCN.out) ?_)
          rintro en w9 ⟨hk9,he9⟩
          rw [HC.out] at he9
          obtain ⟨v9,rfl,hv9,hp9⟩:=he9
          obtain ⟨x4,xc4,x5,xc5,x9,xc9,rfl⟩:=(hv9).form
          have Vx:=am (VO.lower hv9 (show w.heap.size <= _ by (have:=Kept.size HK.out;omega)))
          clear hv9
          replace HQT:=am (R25_kps HQT.out HP.out hk9)
          replace HK:=am (Kept.then_ HK.out (Kept.mono hk9 fun kk h=>.inl h))
          replace HX:=am (Kept.has hk9 HX.out (by omega))
          replace HP:=am hp9
          have hs9:=Kept.size hk9
          try simp at hs9
          obtain ⟨Mx,Lx⟩:=VO.lit (cs:=[.int .i64 x.f0,.int .i64 x.f1,.int .i64 x.f2,.string x.f3,.slice x4 x.f4.length xc4,.slice x5 x.f5.length xc5,.int .i64 x.f6.f0,.string x.f6.f1,.int .i64 x.f6.f2,.slice x9 x.f6.f3.length xc9]) Vx.out
          have HKD:Aside0 (k27.R 27 ((w9).alloc (Obj.cells #[.int .i64 x.f0,.int .i64 x.f1,.int .i64 x.f2,.string x.f3,.slice x4 x.f4.length xc4,.slice x5 x.f5.length xc5,.int .i64 x.f6.f0,.string x.f6.f1,.int .i64 x.f6.f2,.slice x9 x.f6.f3.length xc9] 27)) (w.heap.size) Any (.slice (some ⟨(w9).heap.size,0,none⟩) 1 1) [x]):=⟨by have h:=kids_lit (w9) (w.heap.size) (by (have:=Kept.size HK.out;omega)) trivial (xs:=[x]) (reps_one Mx Lx) (by simp);exact h⟩
          clear Mx Lx
          have ba2:=below_alloc (Below.refl (w9).heap.size (w9)) (Obj.cells #[.int .i64 x.f0,.int .i64 x.f1,.int .i64 x.f2,.string x.f3,.slice x4 x.f4.length xc4,.slice x5 x.f5.length xc5,.int .i64 x.f6.f0,.string x.f6.f1,.int .i64 x.f6.f2,.slice x9 x.f6.f3.length xc9] 27)
          replace HQT:=am (Kd.R_below HQT.out ba2)
          replace HK:=am (Kept.below HK.out ba2)
          replace HP:=am (HP.out.below ba2)
          replace HX:=am (HX.out.belowS ba2)
          replace Vx:=am (Vx.out.below ba2)
          clear ba2
          have c10:=hci HX.out 4 rfl
          have f10:=Has.frozen HX.out 4
          have st12:=tt)))
   clear st12
   clear c10 f10
   replace HQT:=am (R25_far HQT.out (fun kk h1 _=>Below.heap_setCell _ ⟨r,4,none⟩ (.slice (some ⟨(w9).heap.size,0,none⟩) 1 1) kk (by show kk ≠ r;omega)))
   replace HK:=am (Kept.setCellX HK.out (a:=⟨r,4,none⟩) (.inl (.inr rfl)) (.slice (some ⟨(w9).heap.size,0,none⟩) 1 1))
   replace HP:=am (PS.setT HP.out HX.out (by decide) (by decide) 4 (.slice (some ⟨(w9).heap.size,0,none⟩) 1 1))
   replace Vx:=am (VO.setO Vx.out (a:=⟨r,4,none⟩) (fun kk h1 h2=>by show kk ≠ r;omega) (.slice (some ⟨(w9).heap.size,0,none⟩) 1 1))
   replace HKD:=am (R_far HKD.out (fun kk h1 _=>Below.heap_setCell _ ⟨r,4,none⟩ (.slice (some ⟨(w9).heap.size,0,none⟩) 1 1) kk (by show kk ≠ r;omega)))
   replace HX:Aside0 (Has (((w9.alloc (Obj.cells #[.int .i64 x.f0,.int .i64 x.f1,.int .i64 x.f2,.string x.f3,.slice x4 x.f4.length xc4,.slice x5 x.f5.length xc5,.int .i64 x.f6.f0,.string x.f6.f1,.int .i64 x.f6.f2,.slice x9 x.f6.f3.length xc9] 27))).setCell ⟨r,4,none⟩ (.slice (some ⟨(w9).heap.size,0,none⟩) 1 1)) (r) #[.int .i64 33,.int .i64 a,.int .i64 0,.string s,.slice (some ⟨(w9).heap.size,0,none⟩) 1 1,.slice (some ⟨w6.heap.size,0,none⟩) 1 1,.int .i64 0,.string ⟨#[]⟩,.int .i64 0,.slice none 0 0] 27):=⟨by have h:=Has.set_ HX.out 4 (.slice (some ⟨(w9).heap.size,0,none⟩) 1 1);exact h⟩
   have HE:Aside0 (R = .ok (mkE 33 a 0 s [x] [t]) l9):=⟨by rw [HEQ.out];simp [needP,PR.andThen,HM.out,HA.out,HO.out,HB.out,HQ.out,HC.out]⟩
   refine bodyPost_end (results_none rfl _ _ _) rfl ?_
   rw [HE.out]
   exact ⟨HK.out,rfl,⟨_,HX.out,⟨_,_,_,rfl,HKD.out,HQT.out,Kd.R_nil _ _ _ _ _⟩⟩,HP.out⟩
  | false =>
  have HQ:=am hHQ
  clear hHQ
  have st9:=tt
  go_wp2_with ((
        go_at_call 42
        clear st9
        go_must (
         (with_reducible refine Calls.mono (need_no sEq HP.out HQ.out) ?_)
         rintro en w8 ⟨he8,hk8⟩
         subst he8
         replace HQT:=am (R25_kps HQT.out HP.out hk8)
         replace HK:=am (Kept.then_ HK.out (Kept.mono hk8 fun kk h=>.inl h))
         replace HX:=am (Kept.has hk8 HX.out (by omega))
         have hs8:=Kept.size hk8
         try simp at hs8
         have st10:=tt)))
  clear st10
  have HE:Aside0 (R = .bad (atP e l2) 30):=⟨by rw [HEQ.out];simp [needP,PR.andThen,HM.out,HA.out,HO.out,HB.out,HQ.out]⟩
  rw [HE.out]
  exact ⟨rfl,HK.out,rfl⟩
 | false =>
 have HO:=am hHO
 clear hHO
 have st5:=tt
 go_wp2_with ((
       go_at_call 41
       clear st5
       go_must (
        (with_reducible refine Calls.mono (take_no sColon HP.out HO.out) ?_)
        rintro en w5 ⟨he5,hk5,hp5⟩
        subst he5
        replace HK:=am (Kept.then_ HK.out (Kept.mono hk5 fun kk h=>.inl h))
        replace HX:=am (Kept.has hk5 HX.out (by omega))
        replace HP:=am hp5
        have hs5:=Kept.size hk5
        try simp at hs5
        have st6:=tt)))
 clear st6
 cases hHQ:isP sEq l1 with
 | true =>
  have HQ:=am hHQ
  clear hHQ
  have st7:=tt
  go_wp2_with ((
        go_at_call 42
        clear st7
        go_must (
         (with_reducible refine Calls.mono (need_yes sEq HP.out HQ.out) ?_)
         rintro en w6 ⟨he6,hk6,hp6⟩
         subst he6
         replace HK:=am (Kept.then_ HK.out (Kept.mono hk6 fun kk h=>.inl h))
         replace HX:=am (Kept.has hk6 HX.out (by omega))
         replace HP:=am hp6
         have hs6:=Kept.size hk6
         try simp at hs6
         have st8:=tt)))
  clear st8
  cases hHC:climbP e n (d + 1) true 1 l1.tail with
  | out=>exact absurd (by rw [HEQ.out];simp [needP,PR.andThen,HM.out,HA.out,HO.out,HQ.out,hHC]) HNE.out
  | bad bb er =>
   have HC:=am hHC
   have HCN:=am (show climbP e n (d + 1) true 1 l1.tail ≠ .out by rw [hHC];exact PR.bad_ne _ _)
   clear hHC
   have st9:=tt
   go_wp2_with ((
         go_at_call 18
         clear st9
         go_must (
          (with_reducible refine Calls.mono (HTT.out g e (d + 1) true l1.tail _ (by omega) (by omega) HP.out HCN.out) ?_)
          rintro en w7 ⟨hk7,he7⟩
          rw [HC.out] at he7
          subst he7
          replace HK:=am (Kept.then_ HK.out (Kept.mono hk7 fun kk h=>.inl h))
          replace HX:=am (Kept.has hk7 HX.out (by omega))
          have hs7:=Kept.size hk7
          try simp at hs7
          have st10:=tt)))
   clear st10
   have HE:Aside0 (R = .bad bb er):=⟨by rw [HEQ.out];simp [needP,PR.andThen,HM.out,HA.out,HO.out,HQ.out,HC.out]⟩
   rw [HE.out]
   exact ⟨rfl,HK.out,rfl⟩
  | ok x l9 =>
  have HC:=am hHC
  have HCN:=am (show climbP e n (d + 1) true 1 l1.tail ≠ .out by rw [hHC];exact PR.ok_ne _ _)
  clear hHC
  have st9:=tt
  go_wp2_with ((
        go_at_call 18
        clear st9
        go_must (
         (with_reducible refine Calls.mono (HTT.out g e (d + 1) true l1.tail _ (by omega) (by omega) HP.out HCN.out) ?_)
         rintro en w7 ⟨hk7,he7⟩
         rw [HC.out] at he7
         obtain ⟨v7,rfl,hv7,hp7⟩:=he7
         obtain ⟨x4,xc4,x5,xc5,x9,xc9,rfl⟩:=(hv7).form
         have Vx:=am (VO.lower hv7 (show w.heap.size <= _ by (have:=Kept.size HK.out;omega)))
         clear hv7
         replace HK:=am (Kept.then_ HK.out (Kept.mono hk7 fun kk h=>.inl h))
         replace HX:=am (Kept.has hk7 HX.out (by omega))
         replace HP:=am hp7
         have hs7:=Kept.size hk7
         try simp at hs7
         obtain ⟨Mx,Lx⟩:=VO.lit (cs:=[.int .i64 x.f0,.int .i64 x.f1,.int .i64 x.f2,.string x.f3,.slice x4 x.f4.length xc4,.slice x5 x.f5.length xc5,.int .i64 x.f6.f0,.string x.f6.f1,.int .i64 x.f6.f2,.slice x9 x.f6.f3.length xc9]) Vx.out
         have HKD:Aside0 (k27.R 27 ((w7).alloc (Obj.cells #[.int .i64 x.f0,.int .i64 x.f1,.int .i64 x.f2,.string x.f3,.slice x4 x.f4.length xc4,.slice x5 x.f5.length xc5,.int .i64 x.f6.f0,.string x.f6.f1,.int .i64 x.f6.f2,.slice x9 x.f6.f3.length xc9] 27)) (w.heap.size) Any (.slice (some ⟨(w7).heap.size,0,none⟩) 1 1) [x]):=⟨by have h:=kids_lit (w7) (w.heap.size) (by (have:=Kept.size HK.out;omega)) trivial (xs:=[x]) (reps_one Mx Lx) (by simp);exact h⟩
         clear Mx Lx
         have ba1:=below_alloc (Below.refl (w7).heap.size (w7)) (Obj.cells #[.int .i64 x.f0,.int .i64 x.f1,.int .i64 x.f2,.string x.f3,.slice x4 x.f4.length xc4,.slice x5 x.f5.length xc5,.int .i64 x.f6.f0,.string x.f6.f1,.int .i64 x.f6.f2,.slice x9 x.f6.f3.length xc9] 27)
         replace HK:=am (Kept.below HK.out ba1)
         replace HP:=am (HP.out.below ba1)
         replace HX:=am (HX.out.belowS ba1)
         replace Vx:=am (Vx.out.below ba1)
         clear ba1
         have c8:=hci HX.out 4 rfl
         have f8:=Has.frozen HX.out 4
         have st10:=tt)))
  clear st10
  clear c8 f8
  replace HK:=am (Kept.setCellX HK.out (a:=⟨r,4,none⟩) (.inl (.inr rfl)) (.slice (some ⟨(w7).heap.size,0,none⟩) 1 1))
  replace HP:=am (PS.setT HP.out HX.out (by decide) (by decide) 4 (.slice (some ⟨(w7).heap.size,0,none⟩) 1 1))
  replace Vx:=am (VO.setO Vx.out (a:=⟨r,4,none⟩) (fun kk h1 h2=>by show kk ≠ r;omega) (.slice (some ⟨(w7).heap.size,0,none⟩) 1 1))
  replace HKD:=am (R_far HKD.out (fun kk h1 _=>Below.heap_setCell _ ⟨r,4,none⟩ (.slice (some ⟨(w7).heap.size,0,none⟩) 1 1) kk (by show kk ≠ r;omega)))
  replace HX:Aside0 (Has (((w7.alloc (Obj.cells #[.int .i64 x.f0,.int .i64 x.f1,.int .i64 x.f2,.string x.f3,.slice x4 x.f4.length xc4,.slice x5 x.f5.length xc5,.int .i64 x.f6.f0,.string x.f6.f1,.int .i64 x.f6.f2,.slice x9 x.f6.f3.length xc9] 27))).setCell ⟨r,4,none⟩ (.slice (some ⟨(w7).heap.size,0,none⟩) 1 1)) (r) #[.int .i64 33,.int .i64 a,.int .i64 0,.string s,.slice (some ⟨(w7).heap.size,0,none⟩) 1 1,.slice none 0 0,.int .i64 0,.string ⟨#[]⟩,.int .i64 0,.slice none 0 0] 27):=⟨by have h:=Has.set_ HX.out 4 (.slice (some ⟨(w7).heap.size,0,none⟩) 1 1);exact h⟩
  have HE:Aside0 (R = .ok (mkE 33 a 0 s [x] []) l9):=⟨by rw [HEQ.out];simp [needP,PR.andThen,HM.out,HA.out,HO.out,HQ.out,HC.out]⟩
  refine bodyPost_end (results_none rfl _ _ _) rfl ?_
  rw [HE.out]
  exact ⟨HK.out,rfl,⟨_,HX.out,⟨_,_,_,rfl,HKD.out,Kd.R_nil _ _ _ _ _,Kd.R_nil _ _ _ _ _⟩⟩,HP.out⟩
 | false =>
 have HQ:=am hHQ
 clear hHQ
 have st7:=tt
 go_wp2_with ((
       go_at_call 42
       clear st7
       go_must (
        (with_reducible refine Calls.mono (need_no sEq HP.out HQ.out) ?_)
        rintro en w6 ⟨he6,hk6⟩
        subst he6
        replace HK:=am (Kept.then_ HK.out (Kept.mono hk6 fun kk h=>.inl h))
        replace HX:=am (Kept.has hk6 HX.out (by omega))
        have hs6:=Kept.size hk6
        try simp at hs6
        have st8:=tt)))
 clear st8
 have HE:Aside0 (R = .bad (atP e l1) 30):=⟨by rw [HEQ.out];simp [needP,PR.andThen,HM.out,HA.out,HO.out,HQ.out]⟩
 rw [HE.out]
 exact ⟨rfl,HK.out,rfl⟩
end Go.Proofs.YtngpgdmafmkddaaDoor.Par
end
section
namespace Go.Proofs.YtngpgdmafmkddaaDoor.Par
open Go.Proofs.YtngpgdmafmkddaaDoor.Calm Go.RowKit Go.Proofs.YtngpgdmafmkddaaDoorW.PrintWords Go.Proofs.YtngpgdmafmkddaaDoorW.PrintLast Go.Proofs.YtngpgdmafmkddaaDoorW.PrintMore
open Go.Proofs.YtngpgdmafmkddaaDoor.PParseBlanks (S35 S25 S27 k35 k25 k27 rd_T35 rd_T25 rd_T27 at_T35 at_T25 at_T27)
set_option linter.unusedVariables false
set_option linter.unusedSimpArgs false
def IT (g:Nat) (d:Int) (b:Nat) (w:World) (xs:List S27):Prop:=
 ∃ v,Has w b #[.pointer (some ⟨g,0,none⟩)] 52 /\ Has w (b + 1) #[.int .i64 d] 3 /\ Has w (b + 2) #[v] 22 /\ k27.R 27 w (b + 3) Any v xs
theorem IT.kept {g b:Nat} {d:Int} {w w' : World} {xs:List S27} (hgb:g < b) (h:IT g d b w xs) (hk:KeptG g w w'):IT g d b w' xs:=by
 obtain ⟨v,h1,h2,h3,h4⟩:=h
 refine ⟨v,Kept.has hk h1 (by omega),Kept.has hk h2 (by omega),Kept.has hk h3 (by omega),Kd.R_mono (Kd.R_step (Kd.R_bound h4) fun k hk1 hk2=>hk.block k hk2 (by have:=hk1.2.1;omega)) fun _ _=>trivial⟩
def rdTrees (e d:Int) (n:Nat) (xs:List S27) (l:List S35):PR (List S27):=if xs.length >= 1000000 then .out else (climbP e n (d + 1) true 1 l).andThen fun x l=>.ok (xs ++ [x]) l
abbrev TS (g:Nat) (d:Int) (b:Nat) (v:Value) (w:World):Prop:=w.cell? ⟨b,0,none⟩ = some (.pointer (some ⟨g,0,none⟩)) /\ w.cell? ⟨b + 1,0,none⟩ = some (.int .i64 d) /\ w.cell? ⟨b + 2,0,none⟩ = some v
abbrev Z0:S27:=⟨0,0,0,⟨#[]⟩,[],[],⟨0,⟨#[]⟩,0,[]⟩⟩
theorem Z0_M (w:World) (base:Nat) (ok:Nat -> Prop):k27.M w base ok Z0 [.int .i64 0,.int .i64 0,.int .i64 0,.string ⟨#[]⟩,.slice none 0 0,.slice none 0 0,.int .i64 0,.string ⟨#[]⟩,.int .i64 0,.slice none 0 0]:=
 PParseBlanks.k27_mkM w base ok Z0 (Kd.R_nil _ _ _ _ _) (Kd.R_nil _ _ _ _ _) (Kd.R_nil _ _ _ _ _)
theorem Z0_reads {W:World} {lb:Nat} (h:Has W lb #[.int .i64 0,.int .i64 0,.int .i64 0,.string ⟨#[]⟩,.slice none 0 0,.slice none 0 0,.int .i64 0,.string ⟨#[]⟩,.int .i64 0,.slice none 0 0] 27):ReadsRow (fun x cs=>x = Z0 /\ cs = [.int .i64 0,.int .i64 0,.int .i64 0,.string ⟨#[]⟩,.slice none 0 0,.slice none 0 0,.int .i64 0,.string ⟨#[]⟩,.int .i64 0,.slice none 0 0]) 10 W (some ⟨lb,0,none⟩) 1 [Z0]:=by
 refine ⟨rfl,by decide,fun _=>⟨_,rfl,fun j p hj => ?_⟩⟩
 obtain rfl:j = 0:=by
  rcases j with _ | j
  ·rfl
  ·simp at hj
 obtain rfl:Z0 = p:=by simpa using hj
 refine ⟨[.int .i64 0,.int .i64 0,.int .i64 0,.string ⟨#[]⟩,.slice none 0 0,.slice none 0 0,.int .i64 0,.string ⟨#[]⟩,.int .i64 0,.slice none 0 0],rfl,⟨rfl,rfl⟩,fun i u hi => ?_⟩
 have:=h.cell i
 have e:(⟨lb,0,none⟩:Addr).add (0 * 10 + i) = ⟨lb,i,none⟩:=by
  unfold Addr.add
  split <;> rename_i h2 <;> simp at h2 ⊢ <;> omega
 rw [e,this]
 simpa using hi
theorem PS.setD {w:World} {g b:Nat} {l:List S35} {e:Int} {old:Array Value} (h:PS w g l e) (hr:Has w b old 22) (i:Nat) (u:Value):PS (w.setCell ⟨b,i,none⟩ u) g l e:=by
 obtain ⟨A,c,HP⟩:=h
 exact ⟨A,c,HP.has.other (HP.has.ne hr (by decide)) u,HP.le,C_far HP.toks (HP.row.ne hr (by decide)) u,HP.row.set (HP.row.ne hr (by decide)) u⟩
set_option maxRecDepth 100000 in
set_option maxHeartbeats 4000000 in
theorem trees_rd {n:Nat} (HT:TreeOK n) (g:Nat) (e d:Int) (h0:0 <= d) (h1:d + 1 <= 1000) (b:Nat) (hgb:g < b) (xs:List S27) (l:List S35) (w:World) (HI:IT g d b w xs) (HP:PS w g l e) (hne:rdTrees e d n xs l ≠ .out) :
  Calls Tryd.prog 90 #[.pointer (some ⟨b + 2,0,none⟩),.pointer (some ⟨b,0,none⟩),.pointer (some ⟨b + 1,0,none⟩)] w (LPost g e (fun k=>k = g \/ b <= k) (IT g d b) (rdTrees e d n xs l) w):=by
 unfold TreeOK at HT
 have HTT:=am HT
 have hu27:=Tryd.underlying27
 by_cases hn:xs.length >= 1000000
 ·exact absurd (if_pos hn) hne
 have HE:rdTrees e d n xs l = (climbP e n (d + 1) true 1 l).andThen (fun x l=>.ok (xs ++ [x]) l):=if_neg hn
 rw [HE] at hne ⊢
 have hD:=below_drew (Below.refl w.heap.size w)
 have HPD:=HP.below hD
 have HID:=HI.kept hgb (.of_below hD)
 obtain ⟨v,hb0,hb1,hb2,hR⟩:=HID
 obtain ⟨A,c,rfl⟩:=Kd.R_slice hR
 have c0:=hb0.cell 0
 have c1:=hb1.cell 0
 have c2:=hb2.cell 0
 simp only [List.getElem?_toArray,List.getElem?_cons_zero,List.getElem?_cons_succ] at c0 c1 c2
 have HK0:KeptG g w w.drew:=.of_below hD
 have HK0:=am HK0
 have HPD:=am HPD
 have HR:=am hR
 have HB0:=am hb0
 have HB1:=am hb1
 have HB2:=am hb2
 clear HT HI HP hD hR hb0 hb1 hb2 HE
 have HNE:=am hne
 clear hne
 go_enter Tryd.func90,Tryd.ntmps90
 refine region_treeR 7 (by kernel_rfl) (by kernel_rfl) (TS g d b (.slice A xs.length c)) ⟨c0,c1,c2⟩ fun hS => ?_
 generalize w.drew = W at *
 simp only [List.take_succ_cons,List.take_zero]
 generalize hQQ:tailK _ _ = QQ
 have hsure:Sure QQ:=by
  rw [<- hQQ]
  intro c a a' w1 hd h
  simp +zetaDelta only [tailK,Exit.then,Exit.inBlock,bodyPost] at h ⊢
  simpa [hd] using h
 refine tqh hsure hS 0 ?_
 apply Exists.intro
 apply And.intro
 ·rintro w' ⟨k1,k2,k3⟩
  apply VR.mk
  go_simp
  with_reducible rfl
 simp only [sA,sB,sC]
 refine tqh hsure hS 1 ?_
 apply Exists.intro
 apply And.intro
 ·rintro w' ⟨k1,k2,k3⟩
  apply VR.mk
  go_simp
  with_reducible rfl
 simp only [sA,sB,sC]
 refine tqh hsure hS 2 ?_
 apply Exists.intro
 apply And.intro
 ·rintro w' ⟨k1,k2,k3⟩
  apply VR.mk
  go_simp
  with_reducible rfl
 simp only [sA,sB,sC]
 refine tqh hsure hS 3 ?_
 apply Exists.intro
 apply And.intro
 ·rintro w' ⟨k1,k2,k3⟩
  apply VR.mk
  go_simp
  with_reducible rfl
 simp only [sA,sB,sC]
 refine tqh hsure hS 5 ?_
 apply Exists.intro
 apply And.intro
 ·rintro w' ⟨k1,k2,k3⟩
  apply VR.mk
  go_simp
  with_reducible rfl
 simp only [sA,sB,sC]
 have kw:IntKind.i64.wrap (d + 1) = d + 1:=IntWalk.i64_in _ (by omega)
 rw [kw]
 have hlt:b + 2 < W.heap.size:=HB2.out.lt
 have TAIL:∀ (W6:World) (x:S27) (l2:List S35) (lb:Nat) (cs:List Value),climbP e n (d + 1) true 1 l = .ok x l2 -> VO (fun k=>W.heap.size <= k) (b + 3) W6 (.agg cs.toArray) x -> Has W6 lb #[.int .i64 0,.int .i64 0,.int .i64 0,.string ⟨#[]⟩,.slice none 0 0,.slice none 0 0,.int .i64 0,.string ⟨#[]⟩,.int .i64 0,.slice none 0 0] 27 -> TS g d b (.slice A xs.length c) W6 -> KeptG g W W6 -> PS W6 g l2 e ->
   QQ .normal { tmps:=#[.pointer (some ⟨b + 2,0,none⟩),.pointer (some ⟨b,0,none⟩),.pointer (some ⟨b + 1,0,none⟩),.slice A xs.length c,.pointer (some ⟨g,0,none⟩),.int .i64 d,.int .i64 (d + 1),.agg cs.toArray,.int .i64 xs.length,.slice (some ⟨lb,0,none⟩) 1 1,undef,undef],defers:=[] } W6:=by
  intro W6 x l2 lb cs hr hV hL hS6 hK6 hP6
  rw [<- hQQ]
  refine restQ_tree (fun _=>True) ?_
  refine tree_1Q (i:=7) (by kernel_rfl) ?_
  refine step_list (by rfl) ?_
  have hR6:k27.R 27 W6 (b + 3) Any (.slice A xs.length c) xs:=Kd.R_mono (Kd.R_step (Kd.R_bound HR.out) fun k hk1 hk2=>hK6.block k hk2 (by have:=hk1.2.1;omega)) fun _ _=>trivial
  refine Kd.R_append_rows k27 (w0:=W6) (b + 3) rfl (.tmp 3) (.tmp 9) 22 27 (.agg #[.int .i64 0,.int .i64 0,.int .i64 0,.string ⟨#[]⟩,.slice none 0 0,.slice none 0 0,.int .i64 0,.string ⟨#[]⟩,.int .i64 0,.slice none 0 0]) 144 rfl Tryd.underlying22 info27 rfl (by decide) (by decide) (.slice A xs.length c) xs [Z0] (some ⟨lb,0,none⟩) 1 1 Any (fun _=>False) rfl rfl hR6 (Z0_reads hL) (fun x cs h=>by rw [h.1,h.2];exact Z0_M _ _ _) (fun _ h=>h.elim) (fun _ _=>trivial) (Below.refl _ _) (by have:=hK6.size;omega) (by omega) ?_
  intro v1 W7 hR7 hB7 hG7 hat7
  refine ⟨trivial, ?_⟩
  have hlen:(xs ++ [Z0]).length = xs.length + 1:=by simp
  obtain ⟨g7,cap7,rfl,hb7,hlt7⟩:∃ g7 cap7,v1 = .slice (some ⟨g7,0,none⟩) (xs.length + 1) cap7 /\ b + 3 <= g7 /\ g7 < W7.heap.size:=by
   obtain ⟨_,inner,hown,_⟩:=hR7
   obtain ⟨g7,cap7,h1,h2,h3⟩:=hown.form (by simp)
   exact ⟨g7,cap7,by rw [h1,hlen],h2,h3⟩
  have hi0:(0:Int) <= (xs.length:Int):=by omega
  have hi1:(xs.length:Int) < ((xs.length + 1:Nat):Int):=by omega
  have hwr:IntKind.i64.wrap (xs.length:Int) = xs.length:=IntWalk.i64_in _ (by omega)
  refine tqh (by intro c a a' w1 hd h;simp +zetaDelta only [Exit.then,Exit.inBlock,bodyPost] at h ⊢; simpa [hd] using h) trivial 8 ?_
  refine ⟨.pointer (some ⟨g7,xs.length * 10,none⟩), ?_, ?_⟩
  ·rintro w' -
   apply VR.mk
   go_simp
   intro hbad
   omega
  simp only [Act.put,sA,sB,sC]
  have hob:∀ k,(Value.slice A xs.length c).ownBlock = some k -> b + 3 <= k /\ k < W.heap.size:=fun k hk=>⟨((Kd.R_bound HR.out).1 k hk).2.1,((Kd.R_bound HR.out).1 k hk).2.2.1⟩
  have hsep:∀ k,W.heap.size <= k -> k < W6.heap.size -> k ≠ g7:=fun k h1 h2 he=>by
   rcases hat7 with h | ⟨b',h,h3⟩
   ·have:=hob g7 (h ▸ rfl);omega
   ·have e1:g7 = b':=by simpa [Value.ownBlock] using h
    omega
  have hblk:∀ k,k < W6.heap.size -> (k < b + 3 \/ W.heap.size <= k) -> W7.heap[k]? = W6.heap[k]?:=fun k h1 h2=>hG7.block k h1 fun he=>by have:=hob k he.symm;omega
  have hs6:=hK6.size
  have hb6:=Kept.has hK6 HB0.out (by omega)
  have hb16:=Kept.has hK6 HB1.out (by omega)
  have hb26:=Kept.has hK6 HB2.out (by omega)
  have h7a:=hb6.of_block (hblk b (by omega) (by omega))
  have h7b:=hb16.of_block (hblk (b + 1) (by omega) (by omega))
  have h7c:=hb26.of_block (hblk (b + 2) (by omega) (by omega))
  have hV7:VO (fun k=>W.heap.size <= k /\ k ≠ g7) (b + 3) W7 (.agg cs.toArray) x:=(hV.bound.step (fun k h1 _ h2=>hblk k h2 (.inr h1.1))).mono fun k h=>⟨h.1,hsep k h.1 h.2.2⟩
  obtain ⟨MX,lX⟩:=VO.lit hV7
  have hP7:=hP6.grown hG7 (fun k hk=>R_own27 hR6 k hk)
  have hK7:Kept (fun k=>k = g \/ b <= k) W W7:=(hK6.mono fun k hk=>.inl hk).grown hG7 fun k hk=>.inl (.inr (by have:=hob k hk;omega))
  have FIN:∀ W9:World,k27.R 27 W9 (b + 3) Any (.slice (some ⟨g7,0,none⟩) (xs.length + 1) cap7) (xs ++ [x]) -> Has W9 b #[.pointer (some ⟨g,0,none⟩)] 52 -> Has W9 (b + 1) #[.int .i64 d] 3 -> Has W9 (b + 2) #[.slice (some ⟨g7,0,none⟩) (xs.length + 1) cap7] 22 -> Kept (fun k=>k = g \/ b <= k) W W9 -> PS W9 g l2 e ->
    LPost g e (fun k=>k = g \/ b <= k) (IT g d b) ((climbP e n (d + 1) true 1 l).andThen fun x l=>.ok (xs ++ [x]) l) w (.returned (.tuple #[])) W9:=by
   intro W9 q1 q2 q3 q4 q5 q6
   rw [hr]
   exact ⟨(HK0.out.mono fun k hk=>.inl hk).then_ q5,rfl,⟨_,q2,q3,q4,q1⟩,q6⟩
  have hset:(xs ++ [Z0]).set ((xs.length:Int)).toNat x = xs ++ [x]:=by simp
  have hcur:∀ W' : World,k27.R 27 W' (b + 3) Any (.slice (some ⟨g7,0,none⟩) (xs.length + 1) cap7) (xs ++ [Z0]) -> ∃ c:List Value,c.length = 10 /\ ∀ j u,c[j]? = some u -> W'.cell? ⟨g7,(xs.length:Int).toNat * 10 + j,none⟩ = some u:=by
   intro W' hR'
   obtain ⟨_,hC⟩:=Kd.R_reads' hR'
   obtain ⟨ad,ea,hc⟩:=hC.2.2.2 (by simp)
   obtain rfl:(⟨g7,0,none⟩:Addr) = ad:=Option.some.inj ea
   obtain ⟨c9,hl9,_,hcell⟩:=hc xs.length Z0 (by simp)
   refine ⟨c9,hl9,fun j u hj => ?_⟩
   have h:=hcell j u hj
   have e:(⟨g7,0,none⟩:Addr).add (xs.length * k27.sz + j) = ⟨g7,(xs.length:Int).toNat * 10 + j,none⟩:=by
    have hz:k27.sz = 10:=rfl
    rw [hz]
    unfold Addr.add
    split <;> rename_i h2 <;> simp at h2 ⊢ <;> omega
   rw [e] at h
   exact h
  refine tree_2Q (i:=9) (k:=10) (by kernel_rfl) ?_ ?_
  ·refine step_list (by rfl) ?_
   obtain ⟨c9,hcl,hcc⟩:=hcur W7 hR7
   refine Kd.R_store k27 (w0:=W7) (b + 3) rfl rfl 27 (.tmp 11) (.tmp 7) rfl 27 (xs.length:Int) 0 (xs ++ [Z0]) x (.agg cs.toArray) cs c9 Any (fun k=>W.heap.size <= k /\ k ≠ g7) rfl (by simp;rfl) rfl (by simp [Value.cells]) (by rw [lX];exact i27) (k27.K_one (k27.K_of_M MX)) hR7 hi0 hi1 hcl hcc (by rw [lX];exact Nat.le_refl _) (by simpa [lX,List.drop_eq_nil_of_le (Nat.le_of_eq hcl)] using MX) (fun k hk=>⟨trivial,hk.2⟩) (Below.refl _ _) ?_
   intro W8 hR8 hB8 hG8
   rw [hset] at hR8
   have hb8:∀ k,k < W7.heap.size -> k ≠ g7 -> W8.heap[k]? = W7.heap[k]?:=fun k h1 h2=>hG8.block k h1 fun he=>h2 (Option.some.inj he)
   have h8a:=h7a.of_block (hb8 _ h7a.lt (by omega))
   have h8b:=h7b.of_block (hb8 _ h7b.lt (by omega))
   have h8c:=h7c.of_block (hb8 _ h7c.lt (by omega))
   have hP8:=hP7.grown hG8 (fun k hk=>by obtain rfl:g7 = k:=Option.some.inj hk;exact R_own27 hR7 g7 rfl)
   have hK8:=hK7.grown hG8 fun k hk=>.inl (.inr (by obtain rfl:g7 = k:=Option.some.inj hk;omega))
   refine ⟨trivial, ?_⟩
   refine tree_1Q (i:=10) (by kernel_rfl) ?_
   refine step_list (by rfl) ?_
   have p8:=h8c.cell 0
   have f8:=h8c.frozen 0
   simp only [List.getElem?_toArray,List.getElem?_cons_zero,List.getElem?_cons_succ] at p8
   go_wp2
   refine ⟨trivial,tree_endQ (by kernel_rfl) ?_⟩
   refine bodyPost_end (results_none rfl _ _ _) rfl ?_
   exact FIN _ (Kd.R_set hR8 h8c (by decide) 0 _) (h8a.other (a:=⟨b + 2,0,none⟩) (by show b ≠ b + 2;omega) _) (h8b.other (a:=⟨b + 2,0,none⟩) (by show b + 1 ≠ b + 2;omega) _) (h8c.set_ 0 _) (hK8.setCell (a:=⟨b + 2,0,none⟩) (.inr (by show b <= b + 2;omega)) _) (hP8.setD h8c 0 _)
  ·refine step_list (by rfl) ?_
   have p7:=h7c.cell 0
   have f7:=h7c.frozen 0
   simp only [List.getElem?_toArray,List.getElem?_cons_zero,List.getElem?_cons_succ] at p7
   go_wp2
   refine ⟨trivial, ?_⟩
   have hR7b:=Kd.R_set hR7 h7c (by decide) 0 (.slice (some ⟨g7,0,none⟩) (xs.length + 1) cap7)
   have h8a:=h7a.other (a:=⟨b + 2,0,none⟩) (by show b ≠ b + 2;omega) (.slice (some ⟨g7,0,none⟩) (xs.length + 1) cap7)
   have h8b:=h7b.other (a:=⟨b + 2,0,none⟩) (by show b + 1 ≠ b + 2;omega) (.slice (some ⟨g7,0,none⟩) (xs.length + 1) cap7)
   have h8c:=h7c.set_ 0 (.slice (some ⟨g7,0,none⟩) (xs.length + 1) cap7)
   have hK8:=hK7.setCell (a:=⟨b + 2,0,none⟩) (.inr (by show b <= b + 2;omega)) (.slice (some ⟨g7,0,none⟩) (xs.length + 1) cap7)
   have hP8:=hP7.setD h7c 0 (.slice (some ⟨g7,0,none⟩) (xs.length + 1) cap7)
   have hV8:=hV7.setO (a:=⟨b + 2,0,none⟩) (fun k h1 _=>by show k ≠ b + 2;omega) (.slice (some ⟨g7,0,none⟩) (xs.length + 1) cap7)
   have hg7:g7 < (W7.setCell ⟨b + 2,0,none⟩ (.slice (some ⟨g7,0,none⟩) (xs.length + 1) cap7)).heap.size:=by simpa using hlt7
   generalize W7.setCell ⟨b + 2,0,none⟩ (.slice (some ⟨g7,0,none⟩) (xs.length + 1) cap7) = W8 at *
   obtain ⟨MX8,lX8⟩:=VO.lit hV8
   refine tree_1Q (i:=9) (by kernel_rfl) ?_
   refine step_list (by rfl) ?_
   obtain ⟨c9,hcl,hcc⟩:=hcur W8 hR7b
   refine Kd.R_store k27 (w0:=W8) (b + 3) rfl rfl 27 (.tmp 11) (.tmp 7) rfl 27 (xs.length:Int) 0 (xs ++ [Z0]) x (.agg cs.toArray) cs c9 Any (fun k=>W.heap.size <= k /\ k ≠ g7) rfl (by simp;rfl) rfl (by simp [Value.cells]) (by rw [lX];exact i27) (k27.K_one (k27.K_of_M MX)) hR7b hi0 hi1 hcl hcc (by rw [lX];exact Nat.le_refl _) (by simpa [lX,List.drop_eq_nil_of_le (Nat.le_of_eq hcl)] using MX8) (fun k hk=>⟨trivial,hk.2⟩) (Below.refl _ _) ?_
   intro W9 hR9 hB9 hG9
   rw [hset] at hR9
   have hb9:∀ k,k < W8.heap.size -> k ≠ g7 -> W9.heap[k]? = W8.heap[k]?:=fun k h1 h2=>hG9.block k h1 fun he=>h2 (Option.some.inj he)
   refine ⟨trivial,tree_endQ (by kernel_rfl) ?_⟩
   refine bodyPost_end (results_none rfl _ _ _) rfl ?_
   exact FIN W9 hR9 (h8a.of_block (hb9 _ h8a.lt (by omega))) (h8b.of_block (hb9 _ h8b.lt (by omega))) (h8c.of_block (hb9 _ h8c.lt (by omega))) (hK8.grown hG9 fun k hk=>.inl (.inr (by obtain rfl:g7 = k:=Option.some.inj hk;omega))) (hP8.grown hG9 (fun k hk=>by obtain rfl:g7 = k:=Option.some.inj hk;exact R_own27 hR7b g7 rfl))
 have CL:∀ W1:World,PS W1 g l e -> Calls Tryd.prog 18 #[.pointer (some ⟨g,0,none⟩),.int .i64 (d + 1),.bool true] W1 (fun en w' => (∃ v x l2,climbP e n (d + 1) true 1 l = .ok x l2 /\ en = .returned v /\ KeptG g W1 w' /\ VE W1.heap.size w' v x /\ PS w' g l2 e) \/ (∃ a er,climbP e n (d + 1) true 1 l = .bad a er /\ en = .panicked [stopE a er] /\ KeptG g W1 w')):=fun W1 hP1 =>
  (HTT.out g e (d + 1) true l W1 (by omega) h1 hP1 (fun h=>HNE.out (by rw [h];rfl))).mono fun en w' h=>h.ways
 have hPW:=HPD.out
 have TSb:∀ w1 w2:World,TS g d b (.slice A xs.length c) w1 -> Below w1.heap.size w1 w2 -> TS g d b (.slice A xs.length c) w2:=fun w1 w2 h hb=>⟨pwcb hb h.1,pwcb hb h.2.1,pwcb hb h.2.2⟩
 have TSk:∀ w2:World,KeptG g W w2 -> TS g d b (.slice A xs.length c) w2:=fun w2 hk=>by
  have q1:=(Kept.has hk HB0.out (by omega)).cell 0
  have q2:=(Kept.has hk HB1.out (by omega)).cell 0
  have q3:=(Kept.has hk HB2.out (by omega)).cell 0
  simp only [List.getElem?_toArray,List.getElem?_cons_zero,List.getElem?_cons_succ] at q1 q2 q3
  exact ⟨q1,q2,q3⟩
 refine tree_2Q (i:=4) (k:=6) (by kernel_rfl) ?_ ?_
 ·refine step_callQ (by rfl) (by rfl) (by rfl) (ER.go (by go_simp;with_reducible exact ⟨rfl,rfl⟩)) ?_
  refine (CL W hPW).mono ?_
  rintro en W1 (⟨v,x,l2,hr,rfl,hk,hv,hp⟩ | ⟨a,er,hr,rfl,hk⟩)
  ·refine .inl ⟨v,rfl,TSk W1 hk, ?_⟩
   obtain ⟨cs,rfl,_⟩:=hv.M
   simp only [sA,sB,sC]
   have ba:=below_alloc (Below.refl W1.heap.size W1) (Obj.cells #[.int .i64 0,.int .i64 0,.int .i64 0,.string ⟨#[]⟩,.slice none 0 0,.slice none 0 0,.int .i64 0,.string ⟨#[]⟩,.int .i64 0,.slice none 0 0] 27)
   refine tree_1Q (i:=6) (by kernel_rfl) ?_
   refine step_valueQ (v:=.slice (some ⟨W1.heap.size,0,none⟩) 1 1) (w':=W1.alloc (Obj.cells #[.int .i64 0,.int .i64 0,.int .i64 0,.string ⟨#[]⟩,.slice none 0 0,.slice none 0 0,.int .i64 0,.string ⟨#[]⟩,.int .i64 0,.slice none 0 0] 27)) (by rfl) (by rfl) (by rfl) ⟨by go_simp⟩ (TSb _ _ (TSk W1 hk) ba) ?_
   simp only [sA,sB,sC]
   refine tree_endQ (by kernel_rfl) (TAIL _ x l2 W1.heap.size cs hr ?_ (Has.new W1 #[.int .i64 0,.int .i64 0,.int .i64 0,.string ⟨#[]⟩,.slice none 0 0,.slice none 0 0,.int .i64 0,.string ⟨#[]⟩,.int .i64 0,.slice none 0 0] 27) (TSb _ _ (TSk W1 hk) ba) (hk.below ba) (hp.below ba))
   exact ((hv.bound.mono fun k h=>h.2.1).lower (by omega)).below ba
  ·refine .inr ⟨_,rfl, ?_⟩
   rw [<- hQQ,hr]
   exact ⟨rfl,(HK0.out.then_ hk).mono fun k hk=>.inl hk,rfl⟩
 ·have ba:=below_alloc (Below.refl W.heap.size W) (Obj.cells #[.int .i64 0,.int .i64 0,.int .i64 0,.string ⟨#[]⟩,.slice none 0 0,.slice none 0 0,.int .i64 0,.string ⟨#[]⟩,.int .i64 0,.slice none 0 0] 27)
  refine step_valueQ (v:=.slice (some ⟨W.heap.size,0,none⟩) 1 1) (w':=W.alloc (Obj.cells #[.int .i64 0,.int .i64 0,.int .i64 0,.string ⟨#[]⟩,.slice none 0 0,.slice none 0 0,.int .i64 0,.string ⟨#[]⟩,.int .i64 0,.slice none 0 0] 27)) (by rfl) (by rfl) (by rfl) ⟨by go_simp⟩ (TSb _ _ hS ba) ?_
  simp only [sA,sB,sC]
  refine tree_1Q (i:=4) (by kernel_rfl) ?_
  refine step_callQ (by rfl) (by rfl) (by rfl) (ER.go (by go_simp;with_reducible exact ⟨rfl,rfl⟩)) ?_
  refine (CL _ (hPW.below ba)).mono ?_
  rintro en W1 (⟨v,x,l2,hr,rfl,hk,hv,hp⟩ | ⟨a,er,hr,rfl,hk⟩)
  ·have hk2:KeptG g W W1:=(Kept.of_below ba).then_ hk
   refine .inl ⟨v,rfl,TSk W1 hk2, ?_⟩
   obtain ⟨cs,rfl,_⟩:=hv.M
   simp only [sA,sB,sC]
   refine tree_endQ (by kernel_rfl) (TAIL _ x l2 W.heap.size cs hr ?_ (Kept.has hk (Has.new W #[.int .i64 0,.int .i64 0,.int .i64 0,.string ⟨#[]⟩,.slice none 0 0,.slice none 0 0,.int .i64 0,.string ⟨#[]⟩,.int .i64 0,.slice none 0 0] 27) (by omega)) (TSk W1 hk2) hk2 hp)
   exact (hv.bound.mono fun k h=>Nat.le_trans ba.size h.2.1).lower (by have:=ba.size;omega)
  ·refine .inr ⟨_,rfl, ?_⟩
   rw [<- hQQ,hr]
   exact ⟨rfl,(HK0.out.then_ ((Kept.of_below ba).then_ hk)).mono fun k hk=>.inl hk,rfl⟩
end Go.Proofs.YtngpgdmafmkddaaDoor.Par
end
section
namespace Go.Proofs.YtngpgdmafmkddaaDoor.Par
open Go.RowKit Go.Proofs.YtngpgdmafmkddaaDoorW.PrintWords Go.Proofs.YtngpgdmafmkddaaDoorW.PrintLast Go.Proofs.YtngpgdmafmkddaaDoorW.PrintMore
open Go.Proofs.YtngpgdmafmkddaaDoor.PParseBlanks (S35 S25 S27 k35 k25 k27 rd_T35 rd_T25 rd_T27 at_T35 at_T25 at_T27)
set_option linter.unusedVariables false
set_option linter.unusedSimpArgs false
def TreesOK (n:Nat):Prop := ∀ (g:Nat) (e d:Int) (stop:ByteArray) (l:List S35) (w:World),0 <= d -> d + 1 <= 1000 -> PS w g l e -> treesP e n d stop l ≠ .out ->
 Calls Tryd.prog 88 #[.pointer (some ⟨g,0,none⟩),.int .i64 d,.string stop] w (PPost g e (fun w' v (xs:List S27)=>k27.R 27 w' w.heap.size Any v xs) (treesP e n d stop l) w)
theorem Kept.narrow {g B:Nat} {w w1 w2:World} (hb:Below w.heap.size w w1) (hB:w.heap.size <= B) (hk:Kept (fun k=>k = g \/ B <= k) w1 w2):KeptG g w w2:=
 ⟨hk.os.trans hb.os,hk.tape.trans hb.tape,hk.output.trans hb.output,Nat.le_trans hb.size hk.size,fun k h1 h2=>(hk.block k (Nat.lt_of_lt_of_le h1 hb.size) (fun h=>h.elim h2 (fun h=>by omega))).trans (hb.block k h1)⟩
set_option maxRecDepth 100000 in
set_option maxHeartbeats 2000000 in
theorem trees_ok {n:Nat} (HT:TreeOK n):TreesOK (n + 1):=by
 intro g e d stop l w h0 h1 HP hne
 have HE:treesP e (n + 1) d stop l = listP e stop (rdTrees e d n) n [] l:=rfl
 rw [HE] at hne ⊢
 have bb:=below_alloc (below_alloc (below_alloc (Below.refl w.heap.size w) (Obj.cells #[.pointer (some ⟨g,0,none⟩)] 52)) (Obj.cells #[.int .i64 d] 3)) (Obj.cells #[.slice none 0 0] 22)
 have hs1:(w.alloc (Obj.cells #[.pointer (some ⟨g,0,none⟩)] 52)).heap.size = w.heap.size + 1:=by simp
 have hs2:((w.alloc (Obj.cells #[.pointer (some ⟨g,0,none⟩)] 52)).alloc (Obj.cells #[.int .i64 d] 3)).heap.size = w.heap.size + 2:=by simp
 have k1:=((Has.new w #[.pointer (some ⟨g,0,none⟩)] 52).alloc (Obj.cells #[.int .i64 d] 3)).alloc (Obj.cells #[.slice none 0 0] 22)
 have k2:Has (((w.alloc (Obj.cells #[.pointer (some ⟨g,0,none⟩)] 52)).alloc (Obj.cells #[.int .i64 d] 3)).alloc (Obj.cells #[.slice none 0 0] 22)) (w.heap.size + 1) #[.int .i64 d] 3:=by
  have h:=Has.new (w.alloc (Obj.cells #[.pointer (some ⟨g,0,none⟩)] 52)) #[.int .i64 d] 3
  rw [hs1] at h
  exact h.alloc _
 have k3:Has (((w.alloc (Obj.cells #[.pointer (some ⟨g,0,none⟩)] 52)).alloc (Obj.cells #[.int .i64 d] 3)).alloc (Obj.cells #[.slice none 0 0] 22)) (w.heap.size + 2) #[.slice none 0 0] 22:=by
  have h:=Has.new ((w.alloc (Obj.cells #[.pointer (some ⟨g,0,none⟩)] 52)).alloc (Obj.cells #[.int .i64 d] 3)) #[.slice none 0 0] 22
  rwa [hs2] at h
 obtain ⟨A0,c0,HP0⟩:=HP
 have hgw:g < w.heap.size:=HP0.has.lt
 have HIT:IT g d w.heap.size (((w.alloc (Obj.cells #[.pointer (some ⟨g,0,none⟩)] 52)).alloc (Obj.cells #[.int .i64 d] 3)).alloc (Obj.cells #[.slice none 0 0] 22)) []:=⟨_,k1,k2,k3,Kd.R_nil _ _ _ _ _⟩
 have q1:=hci k1 0 rfl
 have HLS:=am (list_said g e stop 90 #[.pointer (some ⟨w.heap.size + 2,0,none⟩),.pointer (some ⟨w.heap.size,0,none⟩),.pointer (some ⟨w.heap.size + 1,0,none⟩)] (by intro w;kernel_rfl) (fun k=>k = g \/ w.heap.size <= k) (.inl rfl) (IT g d w.heap.size) (fun w1 w2 xs h hk=>h.kept hgw hk) (rdTrees e d n) (fun xs l w h1' h2 h3=>trees_rd HT g e d h0 h1 _ hgw xs l w h1' h2 h3) n [] l (((w.alloc (Obj.cells #[.pointer (some ⟨g,0,none⟩)] 52)).alloc (Obj.cells #[.int .i64 d] 3)).alloc (Obj.cells #[.slice none 0 0] 22)) (HP0.below bb).ps HIT hne)
 have BB:=am bb
 have HNE:=am hne
 clear HIT k1 k2 k3 hs1 hs2 bb HE hne HP0
 cases hr:listP e stop (rdTrees e d n) n [] l with
 | out=>exact absurd hr HNE.out
 | bad a er =>
  have HR:=am hr
  clear hr
  go_enter Tryd.func88,Tryd.ntmps88
  go_wp2_with (go_at_call 43;(with_reducible refine HLS.out.mono ?_);rintro en w1 ⟨hk,hq⟩;rw [HR.out] at hq;subst hq)
  exact ⟨rfl,Kept.narrow BB.out (Nat.le_refl _) hk,rfl⟩
 | ok xs l2 =>
  have HR:=am hr
  clear hr
  go_enter Tryd.func88,Tryd.ntmps88
  go_wp2_with (go_at_call 43;(with_reducible refine HLS.out.mono ?_);rintro en w1 ⟨hk,hq⟩;rw [HR.out] at hq;obtain ⟨rfl,⟨v,i1,i2,i3,iR⟩,hp⟩:=hq;have q3:=hci i3 0 rfl;obtain ⟨A9,c9,rfl⟩:=Kd.R_slice iR)
  go_ret
  exact ⟨Kept.narrow BB.out (Nat.le_refl _) hk,_,rfl,Kd.R_lower iR (by omega),hp⟩
end Go.Proofs.YtngpgdmafmkddaaDoor.Par
end
section
namespace Go.Proofs.YtngpgdmafmkddaaDoor.Par
open Go.RowKit Go.Proofs.YtngpgdmafmkddaaDoorW.PrintWords Go.Proofs.YtngpgdmafmkddaaDoorW.PrintLast Go.Proofs.YtngpgdmafmkddaaDoorW.PrintMore
open Go.Proofs.YtngpgdmafmkddaaDoor.PParseBlanks (S35 S25 S27 k35 k25 k27 rd_T35 rd_T25 rd_T27 at_T35 at_T25 at_T27)
set_option linter.unusedVariables false
set_option linter.unusedSimpArgs false
theorem append0 {P:Program} {ops:Array Oper} {rest:List Oper} {o:Oper} {a:Act} {Q:Exit -> Act -> World -> Prop} {W:World} (hP:P.underlying 22 = some (.slice 27)) (hI:(P.info? 27).map (fun i=>(i.zero,i.size,i.bytes)) = some (some (.agg #[.int .i64 0,.int .i64 0,.int .i64 0,.string ⟨#[]⟩,.slice none 0 0,.slice none 0 0,.int .i64 0,.string ⟨#[]⟩,.int .i64 0,.slice none 0 0]),10,144)) (B:Nat) (hgd:o.guard = none) (s x:Operand) (dd:Nat) (hdd:o.dst = some dd)
  (ho:o.op = .call { callee:=.builtin .append,args:=#[s,x],argTypes:=#[22,22] }) (A:Option Addr) (c lb:Nat) (xs:List S27) (hs:a.eval s = .slice A xs.length c) (hx:a.eval x = .slice (some ⟨lb,0,none⟩) 1 1)
  (HO:k27.R 27 W B Any (.slice A xs.length c) xs) (HZ:Has W lb #[.int .i64 0,.int .i64 0,.int .i64 0,.string ⟨#[]⟩,.slice none 0 0,.slice none 0 0,.int .i64 0,.string ⟨#[]⟩,.int .i64 0,.slice none 0 0] 27) (hl:xs.length <= 1000000) (hbase:B <= W.heap.size)
  (h:∀ g7 cap7 w1,k27.R 27 w1 B Any (.slice (some ⟨g7,0,none⟩) (xs.length + 1) cap7) (xs ++ [Z0]) -> B <= g7 -> g7 < w1.heap.size -> ((Value.slice A xs.length c).ownBlock = some g7 \/ W.heap.size <= g7) -> W.grownBy w1 (Value.slice A xs.length c).ownBlock -> wpList P ops Q rest { tmps:=a.tmps.setIfInBounds dd (.slice (some ⟨g7,0,none⟩) (xs.length + 1) cap7),defers:=a.defers } w1):wpList P ops Q (o :: rest) a W:=by
 refine Kd.R_append_rows k27 (w0:=W) B hgd s x 22 27 (.agg #[.int .i64 0,.int .i64 0,.int .i64 0,.string ⟨#[]⟩,.slice none 0 0,.slice none 0 0,.int .i64 0,.string ⟨#[]⟩,.int .i64 0,.slice none 0 0]) 144 ho hP hI rfl (by decide) (by decide) (.slice A xs.length c) xs [Z0] (some ⟨lb,0,none⟩) 1 1 Any (fun _=>False) hs hx HO (Z0_reads HZ) (fun x cs h=>by rw [h.1,h.2];exact Z0_M _ _ _) (fun _ h=>h.elim) (fun _ _=>trivial) (Below.refl _ _) hbase (by omega) ?_
 intro v1 W7 hR7 hB7 hG7 hat7
 have hlen:(xs ++ [Z0]).length = xs.length + 1:=by simp
 obtain ⟨g7,cap7,rfl,hb7,hlt7⟩:∃ g7 cap7,v1 = (.slice (some ⟨g7,0,none⟩) (xs.length + 1) cap7) /\ B <= g7 /\ g7 < W7.heap.size:=by
  obtain ⟨_,inner,hown,_⟩:=hR7
  obtain ⟨g7,cap7,h1,h2,h3⟩:=hown.form (by simp)
  exact ⟨g7,cap7,by rw [h1,hlen],h2,h3⟩
 rw [hdd]
 refine h g7 cap7 W7 hR7 hb7 hlt7 ?_ hG7
 rcases hat7 with h | ⟨b',h,h3⟩
 ·exact .inl (h ▸ rfl)
 ·have e1:g7 = b':=by simpa [Value.ownBlock] using h
  exact .inr (by omega)
theorem storeN {P:Program} {ops:Array Oper} {rest:List Oper} {o:Oper} {a:Act} {Q:Exit -> Act -> World -> Prop} {W:World} (hI:(P.info? 27).map (·.size) = some 10) (B:Nat) (hN:o.dst = none) (hgd:o.guard = none) (p u:Operand) (ho:o.op = .store 27 p u) (g7 cap7:Nat) (xs:List S27) (x:S27) (cs:List Value)
  (hp:a.eval p = .pointer (some ⟨g7,xs.length * 10,none⟩)) (hu:a.eval u = .agg cs.toArray) (HO:k27.R 27 W B Any (.slice (some ⟨g7,0,none⟩) (xs.length + 1) cap7) (xs ++ [Z0])) (HV:VO (fun k=>k ≠ g7) B W (.agg cs.toArray) x)
  (h:∀ w1,k27.R 27 w1 B Any (.slice (some ⟨g7,0,none⟩) (xs.length + 1) cap7) (xs ++ [x]) -> W.grownBy w1 (some g7) -> wpList P ops Q rest a w1):wpList P ops Q (o :: rest) a W:=by
 obtain ⟨MX,lX⟩:=VO.lit HV
 have hi0:(0:Int) <= (xs.length:Int):=by omega
 have hi1:(xs.length:Int) < ((xs.length + 1:Nat):Int):=by omega
 have hset:(xs ++ [Z0]).set ((xs.length:Int)).toNat x = xs ++ [x]:=by simp
 obtain ⟨c9,hcl,hcc⟩:∃ c:List Value,c.length = 10 /\ ∀ j u,c[j]? = some u -> W.cell? ⟨g7,(xs.length:Int).toNat * 10 + j,none⟩ = some u:=by
  obtain ⟨_,hC⟩:=Kd.R_reads' HO
  obtain ⟨ad,ea,hc⟩:=hC.2.2.2 (by simp)
  obtain rfl:(⟨g7,0,none⟩:Addr) = ad:=Option.some.inj ea
  obtain ⟨c9,hl9,_,hcell⟩:=hc xs.length Z0 (by simp)
  refine ⟨c9,hl9,fun j u hj => ?_⟩
  have h:=hcell j u hj
  have e:(⟨g7,0,none⟩:Addr).add (xs.length * k27.sz + j) = ⟨g7,(xs.length:Int).toNat * 10 + j,none⟩:=by
   have hz:k27.sz = 10:=rfl
   rw [hz]
   unfold Addr.add
   split <;> rename_i h2 <;> simp at h2 ⊢ <;> omega
  rw [e] at h
  exact h
 refine Kd.R_store k27 (w0:=W) B hN hgd 27 p u ho 27 (xs.length:Int) 0 (xs ++ [Z0]) x (.agg cs.toArray) cs c9 Any (fun k=>k ≠ g7) hp (by simp;rfl) hu (by simp [Value.cells]) (by rw [lX];exact hI) (k27.K_one (k27.K_of_M MX)) HO hi0 hi1 hcl hcc (by rw [lX];exact Nat.le_refl _) (by simpa [lX,List.drop_eq_nil_of_le (Nat.le_of_eq hcl)] using MX) (fun k hk=>⟨trivial,hk⟩) (Below.refl _ _) ?_
 intro w1 hR1 _ hG1
 rw [hset] at hR1
 exact h w1 hR1 hG1
theorem V_app {Bx B g7:Nat} {W w1:World} {v u:Value} {x:S27} (h:VE Bx W u x) (hG:W.grownBy w1 v.ownBlock) (hob:∀ k,v.ownBlock = some k -> k < Bx) (h7:v.ownBlock = some g7 \/ W.heap.size <= g7) (hB:B <= Bx):VO (fun k=>k ≠ g7) B w1 u x:=
 (VO.lower ((h.bound.step (fun k h1 _ h2=>hG.block k h2 (fun he=>by have:=hob k he.symm;have:=h1.2.1;omega))).mono (fun k hk=>by
  rcases h7 with h7 | h7
  ·have:=hob _ h7;omega
  ·omega)) hB)
end Go.Proofs.YtngpgdmafmkddaaDoor.Par
end
section
namespace Go.Proofs.YtngpgdmafmkddaaDoor.Par
open Go.Proofs.YtngpgdmafmkddaaDoor.Calm Go.RowKit Go.Proofs.YtngpgdmafmkddaaDoorW.PrintWords Go.Proofs.YtngpgdmafmkddaaDoorW.PrintLast Go.Proofs.YtngpgdmafmkddaaDoorW.PrintMore
open Go.Proofs.YtngpgdmafmkddaaDoor.PParseBlanks (S35 S25 S27 k35 k25 k27 rd_T35 rd_T25 rd_T27 at_T35 at_T25 at_T27)
set_option linter.unusedVariables false
set_option linter.unusedSimpArgs false
def PatOK (n:Nat):Prop := ∀ (g:Nat) (e:Int) (l:List S35) (w:World),PS w g l e -> patP e n l ≠ .out ->
 Calls Tryd.prog 84 #[.pointer (some ⟨g,0,none⟩)] w (PPost g e (VE w.heap.size) (patP e n l) w)
def IA (g:Nat) (d:Int) (b bx:Nat) (a0:Int) (w:World) (xs:List S27):Prop:=
 ∃ v,Has w b #[.pointer (some ⟨g,0,none⟩)] 52 /\ Has w (b + 1) #[.int .i64 d] 3 /\ Has w bx #[.int .i64 21,.int .i64 a0,.int .i64 0,.string ⟨#[]⟩,v,.slice none 0 0,.int .i64 0,.string ⟨#[]⟩,.int .i64 0,.slice none 0 0] 27 /\ k27.R 27 w (bx + 1) Any v xs
theorem IA.of {g b bx:Nat} {d a0:Int} {w:World} {xs:List S27} {v:Value} (h1:Has w b #[.pointer (some ⟨g,0,none⟩)] 52) (h2:Has w (b + 1) #[.int .i64 d] 3) (h3:Has w bx #[.int .i64 21,.int .i64 a0,.int .i64 0,.string ⟨#[]⟩,v,.slice none 0 0,.int .i64 0,.string ⟨#[]⟩,.int .i64 0,.slice none 0 0] 27) (h4:k27.R 27 w (bx + 1) Any v xs):IA g d b bx a0 w xs:=⟨v,h1,h2,h3,h4⟩
theorem IA.kept {g b bx:Nat} {d a0:Int} {w w' : World} {xs:List S27} (hgb:g < b) (hbx:b < bx) (h:IA g d b bx a0 w xs) (hk:KeptG g w w'):IA g d b bx a0 w' xs:=by
 obtain ⟨v,h1,h2,h3,h4⟩:=h
 refine ⟨v,Kept.has hk h1 (by omega),Kept.has hk h2 (by omega),Kept.has hk h3 (by omega),Kd.R_mono (Kd.R_step (Kd.R_bound h4) fun k hk1 hk2=>hk.block k hk2 (by have:=hk1.2.1;omega)) fun _ _=>trivial⟩
def rdArms (e d:Int) (n:Nat) (xs:List S27) (l:List S35):PR (List S27):=if xs.length >= 1000000 then .out else (patP e n l).andThen fun p l1=>(needP e sArrow l1).andThen fun _ l2=>(climbP e n (d + 1) true 1 l2).andThen fun y l3=>.ok (xs ++ [mkE 22 (atP e l) 0 ⟨#[]⟩ [p,y] []]) l3
set_option maxRecDepth 100000 in
set_option maxHeartbeats 8000000 in
theorem arms_rd {n:Nat} (HT:TreeOK n) (HPA:PatOK n) (g:Nat) (e d:Int) (h0:0 <= d) (h1:d + 1 <= 1000) (b bx:Nat) (hgb:g < b) (hbx:b + 1 < bx) (a0:Int) (xs:List S27) (l:List S35) (w:World) (HI:IA g d b bx a0 w xs) (HP:PS w g l e) (hne:rdArms e d n xs l ≠ .out) :
  Calls Tryd.prog 83 #[.pointer (some ⟨b,0,none⟩),.pointer (some ⟨b + 1,0,none⟩),.pointer (some ⟨bx,0,none⟩)] w (LPost g e (fun k=>k = g \/ bx <= k) (IA g d b bx a0) (rdArms e d n xs l) w):=by
 unfold TreeOK at HT
 unfold PatOK at HPA
 have HTT:=am HT
 have HPP:=am HPA
 have hu27:=Tryd.underlying27
 have kw:IntKind.i64.wrap (d + 1) = d + 1:=IntWalk.i64_in _ (by omega)
 obtain ⟨R,hR⟩:∃ R,rdArms e d n xs l = R:=⟨_,rfl⟩
 have hE:=hR
 unfold rdArms at hE
 rw [hR] at hne ⊢
 by_cases hx9:xs.length >= 1000000
 ·rw [if_pos hx9] at hE
  exact absurd hE.symm hne
 rw [if_neg hx9] at hE
 obtain ⟨a1,ha1⟩:∃ a,atP e l = a:=⟨_,rfl⟩
 rw [ha1] at hE
 have HAT:=am ha1
 have HEQ:=am hE.symm
 have HNE:=am hne
 have hgw:=HP.glt
 obtain ⟨v,hb0,hb1,hb2,hRW⟩:=HI
 obtain ⟨A,c,rfl⟩:=Kd.R_slice hRW
 have hsl:=fun k hk=>(R_ownb hRW k hk).2
 have hRW0:=am hRW
 have HB0:=am hb0
 have HB1:=am hb1
 have HX:=am hb2
 have hbw:=hb2.lt
 have HK:Aside0 (KeptG g w w):=⟨Kept.refl _ w⟩
 have HP0:=am HP
 have HP:=am HP
 clear hR hne hE ha1 HT HPA hb0 hb1 hb2 hRW
 have cw_HB0_0:=hci HB0.out 0 rfl
 have cw_HB1_0:=hci HB1.out 0 rfl
 go_enter Tryd.func83,Tryd.ntmps83
 have st1:=tt
 go_wp2_with ((
       go_at_call 29
       clear st1
       go_must (
        (with_reducible refine Calls.mono (at_ps HP.out) ?_)
        rintro en w1 ⟨he1,hb1⟩
        rw [HAT.out] at he1
        subst he1
        replace HK:=am (Kept.below HK.out hb1)
        replace HP:=am (HP.out.below hb1)
        replace HB0:=am (HB0.out.belowS hb1)
        replace HB1:=am (HB1.out.belowS hb1)
        replace HX:=am (HX.out.belowS hb1)
        have hs1:=Below.size hb1
        try simp at hs1
        clear cw_HB0_0 cw_HB1_0
        have cw_HB0_0:=hci HB0.out 0 rfl
        have cw_HB1_0:=hci HB1.out 0 rfl
        have ba1:=below_alloc (Below.refl (w1).heap.size (w1)) (Obj.cells #[.int .i64 22,.int .i64 a1,.int .i64 0,.string ⟨#[]⟩,.slice none 0 0,.slice none 0 0,.int .i64 0,.string ⟨#[]⟩,.int .i64 0,.slice none 0 0] 27)
        replace HK:=am (Kept.below HK.out ba1)
        replace HP:=am (HP.out.below ba1)
        replace HB0:=am (HB0.out.belowS ba1)
        replace HB1:=am (HB1.out.belowS ba1)
        replace HX:=am (HX.out.belowS ba1)
        clear ba1
        have HY:=am (Has.new (w1) #[.int .i64 22,.int .i64 a1,.int .i64 0,.string ⟨#[]⟩,.slice none 0 0,.slice none 0 0,.int .i64 0,.string ⟨#[]⟩,.int .i64 0,.slice none 0 0] 27)
        clear cw_HB0_0 cw_HB1_0
        have cw_HB0_0:=hci HB0.out 0 rfl
        have cw_HB1_0:=hci HB1.out 0 rfl
        have st2:=tt)))
 clear st2
 cases hHA:patP e n l with
 | out=>exact absurd (by rw [HEQ.out];simp [needP,PR.andThen,hHA]) HNE.out
 | bad bb er =>
  have HA:=am hHA
  have HAN:=am (show patP e n l ≠ .out by rw [hHA];exact PR.bad_ne _ _)
  clear hHA
  have st3:=tt
  go_wp2_with ((
        go_at_call 84
        clear st3
        go_must (
         (with_reducible refine Calls.mono (HPP.out g e l _ HP.out HAN.out) ?_)
         rintro en w2 ⟨hk2,he2⟩
         rw [HA.out] at he2
         subst he2
         replace HK:=am (Kept.then_ HK.out hk2)
         replace HB0:=am (Kept.has hk2 HB0.out (by omega))
         replace HB1:=am (Kept.has hk2 HB1.out (by omega))
         replace HX:=am (Kept.has hk2 HX.out (by omega))
         replace HY:=am (Kept.has hk2 HY.out (by omega))
         have hs2:=Kept.size hk2
         try simp at hs2
         clear cw_HB0_0 cw_HB1_0
         have cw_HB0_0:=hci HB0.out 0 rfl
         have cw_HB1_0:=hci HB1.out 0 rfl
         have st4:=tt)))
  clear st4
  have HE:Aside0 (R = .bad bb er):=⟨by rw [HEQ.out];simp [needP,PR.andThen,HA.out]⟩
  rw [HE.out]
  exact ⟨rfl,HK.out.mono fun k h=>.inl h,rfl⟩
 | ok p l1 =>
 have HA:=am hHA
 have HAN:=am (show patP e n l ≠ .out by rw [hHA];exact PR.ok_ne _ _)
 clear hHA
 have hyb:w.heap.size <= w1.heap.size:=by omega
 have st3:=tt
 go_wp2_with ((
       go_at_call 84
       clear st3
       go_must (
        (with_reducible refine Calls.mono (HPP.out g e l _ HP.out HAN.out) ?_)
        rintro en w2 ⟨hk2,he2⟩
        rw [HA.out] at he2
        obtain ⟨v2,rfl,hv2,hp2⟩:=he2
        obtain ⟨p4,pc4,p5,pc5,p9,pc9,rfl⟩:=(hv2).form
        have Vp:=am (VO.lower hv2 (show w1.heap.size + 1 <= _ by (have:=HY.out.lt;omega)))
        clear hv2
        replace HK:=am (Kept.then_ HK.out hk2)
        replace HB0:=am (Kept.has hk2 HB0.out (by omega))
        replace HB1:=am (Kept.has hk2 HB1.out (by omega))
        replace HX:=am (Kept.has hk2 HX.out (by omega))
        replace HY:=am (Kept.has hk2 HY.out (by omega))
        replace HP:=am hp2
        have hs2:=Kept.size hk2
        try simp at hs2
        clear cw_HB0_0 cw_HB1_0
        have cw_HB0_0:=hci HB0.out 0 rfl
        have cw_HB1_0:=hci HB1.out 0 rfl
        have ba2:=below_alloc (Below.refl (w2).heap.size (w2)) (Obj.cells #[.int .i64 p.f0,.int .i64 p.f1,.int .i64 p.f2,.string p.f3,.slice p4 p.f4.length pc4,.slice p5 p.f5.length pc5,.int .i64 p.f6.f0,.string p.f6.f1,.int .i64 p.f6.f2,.slice p9 p.f6.f3.length pc9] 27)
        replace HK:=am (Kept.below HK.out ba2)
        replace HP:=am (HP.out.below ba2)
        replace HB0:=am (HB0.out.belowS ba2)
        replace HB1:=am (HB1.out.belowS ba2)
        replace HX:=am (HX.out.belowS ba2)
        replace HY:=am (HY.out.belowS ba2)
        replace Vp:=am (Vp.out.below ba2)
        clear ba2
        have HZP:=am (Has.new (w2) #[.int .i64 p.f0,.int .i64 p.f1,.int .i64 p.f2,.string p.f3,.slice p4 p.f4.length pc4,.slice p5 p.f5.length pc5,.int .i64 p.f6.f0,.string p.f6.f1,.int .i64 p.f6.f2,.slice p9 p.f6.f3.length pc9] 27)
        clear cw_HB0_0 cw_HB1_0
        have cw_HB0_0:=hci HB0.out 0 rfl
        have cw_HB1_0:=hci HB1.out 0 rfl
        have st4:=tt)))
 clear st4
 cases hHW:isP sArrow l1 with
 | true =>
  have HW:=am hHW
  clear hHW
  have st5:=tt
  go_wp2_with ((
        go_at_call 42
        clear st5
        go_must (
         (with_reducible refine Calls.mono (need_yes sArrow HP.out HW.out) ?_)
         rintro en w3 ⟨he3,hk3,hp3⟩
         subst he3
         replace HK:=am (Kept.then_ HK.out hk3)
         replace HB0:=am (Kept.has hk3 HB0.out (by omega))
         replace HB1:=am (Kept.has hk3 HB1.out (by omega))
         replace HX:=am (Kept.has hk3 HX.out (by omega))
         replace HY:=am (Kept.has hk3 HY.out (by omega))
         replace Vp:=am (VO.kps Vp.out HP.out hk3)
         replace HZP:=am (Kept.has hk3 HZP.out (by omega))
         replace HP:=am hp3
         have hs3:=Kept.size hk3
         try simp at hs3
         clear cw_HB0_0 cw_HB1_0
         have cw_HB0_0:=hci HB0.out 0 rfl
         have cw_HB1_0:=hci HB1.out 0 rfl
         have st6:=tt)))
  clear st6
  have hD:=below_drew (Below.refl (w3).heap.size (w3))
  replace HK:=am (Kept.below HK.out hD)
  replace HP:=am (HP.out.below hD)
  replace HB0:=am (HB0.out.belowS hD)
  replace HB1:=am (HB1.out.belowS hD)
  replace HX:=am (HX.out.belowS hD)
  replace HY:=am (HY.out.belowS hD)
  replace Vp:=am (Vp.out.below hD)
  replace HZP:=am (HZP.out.belowS hD)
  clear hD
  obtain ⟨W1,hW1⟩:∃ W,(w3).drew = W:=⟨_,rfl⟩
  rw [hW1] at HK HP HB0 HB1 HX HY Vp HZP
  have hzW1:(w3).heap.size <= W1.heap.size:=by rw [<- hW1];exact Nat.le_refl _
  try simp at hzW1
  clear cw_HB0_0 cw_HB1_0
  have cw_HB0_0:=hci HB0.out 0 rfl
  have cw_HB1_0:=hci HB1.out 0 rfl
  refine region_treeR 6 (by kernel_rfl) (by kernel_rfl) (fun w' => Has w' (w2.heap.size) #[.int .i64 p.f0,.int .i64 p.f1,.int .i64 p.f2,.string p.f3,.slice p4 p.f4.length pc4,.slice p5 p.f5.length pc5,.int .i64 p.f6.f0,.string p.f6.f1,.int .i64 p.f6.f2,.slice p9 p.f6.f3.length pc9] 27 /\ Has w' (b) #[.pointer (some ⟨g,0,none⟩)] 52 /\ Has w' (b + 1) #[.int .i64 d] 3) (hW1 ▸ ⟨HZP.out,HB0.out,HB1.out⟩) fun hS => ?_
  rw [hW1] at hS ⊢
  clear hW1
  simp only [List.take_succ_cons,List.take_zero]
  generalize hQQ:tailK _ _ = QQ
  have hsure:Sure QQ:=by
   rw [<- hQQ]
   intro c a a' w1 hd h
   simp +zetaDelta only [tailK,Exit.then,Exit.inBlock,bodyPost] at h ⊢
   simpa [hd] using h
  refine tqh hsure hS 0 ?_
  apply Exists.intro
  apply And.intro
  ·rintro w' ⟨k1,k2,k3⟩
   apply VR.mk
   exact load27 w' (w2.heap.size) #[.int .i64 p.f0,.int .i64 p.f1,.int .i64 p.f2,.string p.f3,.slice p4 p.f4.length pc4,.slice p5 p.f5.length pc5,.int .i64 p.f6.f0,.string p.f6.f1,.int .i64 p.f6.f2,.slice p9 p.f6.f3.length pc9] k1 rfl _ _ _ rfl rfl
  try simp only [sA,sB,sC]
  refine tqh hsure hS 1 ?_
  apply Exists.intro
  apply And.intro
  ·rintro w' ⟨k1,k2,k3⟩
   have cc1:=hci k2 0 rfl
   apply VR.mk
   go_simp
   with_reducible rfl
  try simp only [sA,sB,sC]
  refine tqh hsure hS 2 ?_
  apply Exists.intro
  apply And.intro
  ·rintro w' ⟨k1,k2,k3⟩
   have cc2:=hci k3 0 rfl
   apply VR.mk
   go_simp
   with_reducible rfl
  try simp only [sA,sB,sC]
  refine tqh hsure hS 3 ?_
  apply Exists.intro
  apply And.intro
  ·rintro w' ⟨k1,k2,k3⟩
   apply VR.mk
   go_simp
   with_reducible rfl
  try simp only [sA,sB,sC]
  have hne2:climbP e n (d + 1) true 1 l1.tail ≠ .out:=fun h=>HNE.out (by rw [HEQ.out];simp [needP,PR.andThen,HA.out,HW.out,h])
  refine tree_1Q (i:=4) (by kernel_rfl) ?_
  refine step_callQ (by rfl) (by rfl) (by rfl) (ER.go (by go_simp;with_reducible exact ⟨rfl,rfl⟩)) ?_
  refine (HTT.out g e (d + 1) true l1.tail W1 (by omega) (by omega) HP.out hne2).mono ?_
  intro en w4 hq
  rcases hq.ways with ⟨v,y,l3,hr,rfl,hk,hv,hp⟩ | ⟨bb,er,hr,rfl,hk⟩
  ·have HYR:=am hr
   obtain ⟨y4,yc4,y5,yc5,y9,yc9,rfl⟩:=hv.form
   have Vy:=am (VO.lower hv (show w1.heap.size + 1 <= _ by (have:=HY.out.lt;omega)))
   replace HK:=am (Kept.then_ HK.out hk)
   replace HB0:=am (Kept.has hk HB0.out (by omega))
   replace HB1:=am (Kept.has hk HB1.out (by omega))
   replace HX:=am (Kept.has hk HX.out (by omega))
   replace HY:=am (Kept.has hk HY.out (by omega))
   replace Vp:=am (VO.kps Vp.out HP.out hk)
   replace HZP:=am (Kept.has hk HZP.out (by omega))
   replace HP:=am hp
   have hs4:=Kept.size hk
   try simp at hs4
   clear hv hr hk
   refine .inl ⟨_,rfl,⟨HZP.out,HB0.out,HB1.out⟩, ?_⟩
   simp only [sA,sB,sC]
   refine tree_1Q (i:=5) (by kernel_rfl) ?_
   refine step_list (by rfl) ?_
   go_wp2
   obtain ⟨Mp,Lp⟩:=VO.lit (cs:=[.int .i64 p.f0,.int .i64 p.f1,.int .i64 p.f2,.string p.f3,.slice p4 p.f4.length pc4,.slice p5 p.f5.length pc5,.int .i64 p.f6.f0,.string p.f6.f1,.int .i64 p.f6.f2,.slice p9 p.f6.f3.length pc9]) Vp.out
   obtain ⟨My,Ly⟩:=VO.lit (cs:=[.int .i64 y.f0,.int .i64 y.f1,.int .i64 y.f2,.string y.f3,.slice y4 y.f4.length yc4,.slice y5 y.f5.length yc5,.int .i64 y.f6.f0,.string y.f6.f1,.int .i64 y.f6.f2,.slice y9 y.f6.f3.length yc9]) Vy.out
   have HKD:Aside0 (k27.R 27 ((w4).alloc (Obj.cells #[.int .i64 p.f0,.int .i64 p.f1,.int .i64 p.f2,.string p.f3,.slice p4 p.f4.length pc4,.slice p5 p.f5.length pc5,.int .i64 p.f6.f0,.string p.f6.f1,.int .i64 p.f6.f2,.slice p9 p.f6.f3.length pc9,.int .i64 y.f0,.int .i64 y.f1,.int .i64 y.f2,.string y.f3,.slice y4 y.f4.length yc4,.slice y5 y.f5.length yc5,.int .i64 y.f6.f0,.string y.f6.f1,.int .i64 y.f6.f2,.slice y9 y.f6.f3.length yc9] 27)) (w1.heap.size + 1) Any (.slice (some ⟨(w4).heap.size,0,none⟩) 2 2) [p,y]):=⟨by have h:=kids_lit (w4) (w1.heap.size + 1) (by (have:=HY.out.lt;omega)) trivial (xs:=[p,y]) (reps_two Mp Lp My Ly) (by simp);exact h⟩
   clear Mp Lp My Ly
   have ba3:=below_alloc (Below.refl (w4).heap.size (w4)) (Obj.cells #[.int .i64 p.f0,.int .i64 p.f1,.int .i64 p.f2,.string p.f3,.slice p4 p.f4.length pc4,.slice p5 p.f5.length pc5,.int .i64 p.f6.f0,.string p.f6.f1,.int .i64 p.f6.f2,.slice p9 p.f6.f3.length pc9,.int .i64 y.f0,.int .i64 y.f1,.int .i64 y.f2,.string y.f3,.slice y4 y.f4.length yc4,.slice y5 y.f5.length yc5,.int .i64 y.f6.f0,.string y.f6.f1,.int .i64 y.f6.f2,.slice y9 y.f6.f3.length yc9] 27)
   replace HK:=am (Kept.below HK.out ba3)
   replace HP:=am (HP.out.below ba3)
   replace HB0:=am (HB0.out.belowS ba3)
   replace HB1:=am (HB1.out.belowS ba3)
   replace HX:=am (HX.out.belowS ba3)
   replace HY:=am (HY.out.belowS ba3)
   replace Vp:=am (Vp.out.below ba3)
   replace HZP:=am (HZP.out.belowS ba3)
   replace Vy:=am (Vy.out.below ba3)
   clear ba3
   refine ⟨⟨HZP.out,HB0.out,HB1.out⟩, ?_⟩
   rw [<- hQQ]
   refine tree_doneR (by kernel_rfl) ?_
   refine restQ_tree (fun _=>True) ?_
   clear hsure hS hQQ
   refine tqh (by intro c a a' w1 hd h;simp +zetaDelta only [Exit.then,Exit.inBlock,bodyPost] at h ⊢; simpa [hd] using h) trivial 6 ?_
   apply Exists.intro
   apply And.intro
   ·rintro w' -
    apply VR.mk
    go_simp
    with_reducible rfl
   simp only [sA,sB,sC]
   have c5:=hci HY.out 4 rfl
   have f5:=Has.frozen HY.out 4
   clear cw_HB0_0 cw_HB1_0
   have cw_HB0_0:=hci HB0.out 0 rfl
   have cw_HB1_0:=hci HB1.out 0 rfl
   refine tree_1Q (i:=7) (by kernel_rfl) ?_
   refine step_list (by rfl) ?_
   go_wp2
   refine ⟨trivial,tree_endQ (by kernel_rfl) ?_⟩
   clear c5 f5
   replace HK:=am (Kept.setCellX HK.out (a:=⟨w1.heap.size,4,none⟩) (.inr (by show w.heap.size <= w1.heap.size;omega)) (.slice (some ⟨(w4).heap.size,0,none⟩) 2 2))
   replace HP:=am (PS.setT HP.out HY.out (by decide) (by decide) 4 (.slice (some ⟨(w4).heap.size,0,none⟩) 2 2))
   replace HB0:=am (Has.other HB0.out (a:=⟨w1.heap.size,4,none⟩) (by show b ≠ w1.heap.size;omega) (.slice (some ⟨(w4).heap.size,0,none⟩) 2 2))
   replace HB1:=am (Has.other HB1.out (a:=⟨w1.heap.size,4,none⟩) (by show b + 1 ≠ w1.heap.size;omega) (.slice (some ⟨(w4).heap.size,0,none⟩) 2 2))
   replace HX:=am (Has.other HX.out (a:=⟨w1.heap.size,4,none⟩) (by show bx ≠ w1.heap.size;omega) (.slice (some ⟨(w4).heap.size,0,none⟩) 2 2))
   replace Vp:=am (VO.setO Vp.out (a:=⟨w1.heap.size,4,none⟩) (fun kk h1 h2=>by show kk ≠ w1.heap.size;omega) (.slice (some ⟨(w4).heap.size,0,none⟩) 2 2))
   replace HZP:=am (Has.other HZP.out (a:=⟨w1.heap.size,4,none⟩) (by show w2.heap.size ≠ w1.heap.size;omega) (.slice (some ⟨(w4).heap.size,0,none⟩) 2 2))
   replace Vy:=am (VO.setO Vy.out (a:=⟨w1.heap.size,4,none⟩) (fun kk h1 h2=>by show kk ≠ w1.heap.size;omega) (.slice (some ⟨(w4).heap.size,0,none⟩) 2 2))
   replace HKD:=am (R_far HKD.out (fun kk h1 _=>Below.heap_setCell _ ⟨w1.heap.size,4,none⟩ (.slice (some ⟨(w4).heap.size,0,none⟩) 2 2) kk (by show kk ≠ w1.heap.size;omega)))
   replace HY:Aside0 (Has (((w4.alloc (Obj.cells #[.int .i64 p.f0,.int .i64 p.f1,.int .i64 p.f2,.string p.f3,.slice p4 p.f4.length pc4,.slice p5 p.f5.length pc5,.int .i64 p.f6.f0,.string p.f6.f1,.int .i64 p.f6.f2,.slice p9 p.f6.f3.length pc9,.int .i64 y.f0,.int .i64 y.f1,.int .i64 y.f2,.string y.f3,.slice y4 y.f4.length yc4,.slice y5 y.f5.length yc5,.int .i64 y.f6.f0,.string y.f6.f1,.int .i64 y.f6.f2,.slice y9 y.f6.f3.length yc9] 27))).setCell ⟨w1.heap.size,4,none⟩ (.slice (some ⟨(w4).heap.size,0,none⟩) 2 2)) (w1.heap.size) #[.int .i64 22,.int .i64 a1,.int .i64 0,.string ⟨#[]⟩,.slice (some ⟨(w4).heap.size,0,none⟩) 2 2,.slice none 0 0,.int .i64 0,.string ⟨#[]⟩,.int .i64 0,.slice none 0 0] 27):=⟨by have h:=Has.set_ HY.out 4 (.slice (some ⟨(w4).heap.size,0,none⟩) 2 2);exact h⟩
   clear cw_HB0_0 cw_HB1_0
   have cw_HB0_0:=hci HB0.out 0 rfl
   have cw_HB1_0:=hci HB1.out 0 rfl
   go_wp2_with fail
   have hD:=below_drew (Below.refl ((((w4.alloc (Obj.cells #[.int .i64 p.f0,.int .i64 p.f1,.int .i64 p.f2,.string p.f3,.slice p4 p.f4.length pc4,.slice p5 p.f5.length pc5,.int .i64 p.f6.f0,.string p.f6.f1,.int .i64 p.f6.f2,.slice p9 p.f6.f3.length pc9,.int .i64 y.f0,.int .i64 y.f1,.int .i64 y.f2,.string y.f3,.slice y4 y.f4.length yc4,.slice y5 y.f5.length yc5,.int .i64 y.f6.f0,.string y.f6.f1,.int .i64 y.f6.f2,.slice y9 y.f6.f3.length yc9] 27))).setCell ⟨w1.heap.size,4,none⟩ (.slice (some ⟨(w4).heap.size,0,none⟩) 2 2))).heap.size ((((w4.alloc (Obj.cells #[.int .i64 p.f0,.int .i64 p.f1,.int .i64 p.f2,.string p.f3,.slice p4 p.f4.length pc4,.slice p5 p.f5.length pc5,.int .i64 p.f6.f0,.string p.f6.f1,.int .i64 p.f6.f2,.slice p9 p.f6.f3.length pc9,.int .i64 y.f0,.int .i64 y.f1,.int .i64 y.f2,.string y.f3,.slice y4 y.f4.length yc4,.slice y5 y.f5.length yc5,.int .i64 y.f6.f0,.string y.f6.f1,.int .i64 y.f6.f2,.slice y9 y.f6.f3.length yc9] 27))).setCell ⟨w1.heap.size,4,none⟩ (.slice (some ⟨(w4).heap.size,0,none⟩) 2 2))))
   replace HK:=am (Kept.below HK.out hD)
   replace HP:=am (HP.out.below hD)
   replace HB0:=am (HB0.out.belowS hD)
   replace HB1:=am (HB1.out.belowS hD)
   replace HX:=am (HX.out.belowS hD)
   replace HY:=am (HY.out.belowS hD)
   replace HKD:=am (Kd.R_below HKD.out hD)
   clear hD
   obtain ⟨W2,hW1⟩:∃ W,((((w4.alloc (Obj.cells #[.int .i64 p.f0,.int .i64 p.f1,.int .i64 p.f2,.string p.f3,.slice p4 p.f4.length pc4,.slice p5 p.f5.length pc5,.int .i64 p.f6.f0,.string p.f6.f1,.int .i64 p.f6.f2,.slice p9 p.f6.f3.length pc9,.int .i64 y.f0,.int .i64 y.f1,.int .i64 y.f2,.string y.f3,.slice y4 y.f4.length yc4,.slice y5 y.f5.length yc5,.int .i64 y.f6.f0,.string y.f6.f1,.int .i64 y.f6.f2,.slice y9 y.f6.f3.length yc9] 27))).setCell ⟨w1.heap.size,4,none⟩ (.slice (some ⟨(w4).heap.size,0,none⟩) 2 2))).drew = W:=⟨_,rfl⟩
   rw [hW1] at HK HP HB0 HB1 HX HY HKD
   have hzW2:((((w4.alloc (Obj.cells #[.int .i64 p.f0,.int .i64 p.f1,.int .i64 p.f2,.string p.f3,.slice p4 p.f4.length pc4,.slice p5 p.f5.length pc5,.int .i64 p.f6.f0,.string p.f6.f1,.int .i64 p.f6.f2,.slice p9 p.f6.f3.length pc9,.int .i64 y.f0,.int .i64 y.f1,.int .i64 y.f2,.string y.f3,.slice y4 y.f4.length yc4,.slice y5 y.f5.length yc5,.int .i64 y.f6.f0,.string y.f6.f1,.int .i64 y.f6.f2,.slice y9 y.f6.f3.length yc9] 27))).setCell ⟨w1.heap.size,4,none⟩ (.slice (some ⟨(w4).heap.size,0,none⟩) 2 2))).heap.size <= W2.heap.size:=by rw [<- hW1];exact Nat.le_refl _
   try simp at hzW2
   clear cw_HB0_0 cw_HB1_0
   have cw_HB0_0:=hci HB0.out 0 rfl
   have cw_HB1_0:=hci HB1.out 0 rfl
   refine region_treeR 5 (by kernel_rfl) (by kernel_rfl) (fun w' => Has w' (bx) #[.int .i64 21,.int .i64 a0,.int .i64 0,.string ⟨#[]⟩,.slice A xs.length c,.slice none 0 0,.int .i64 0,.string ⟨#[]⟩,.int .i64 0,.slice none 0 0] 27 /\ Has w' (w1.heap.size) #[.int .i64 22,.int .i64 a1,.int .i64 0,.string ⟨#[]⟩,.slice (some ⟨(w4).heap.size,0,none⟩) 2 2,.slice none 0 0,.int .i64 0,.string ⟨#[]⟩,.int .i64 0,.slice none 0 0] 27) (hW1 ▸ ⟨HX.out,HY.out⟩) fun hS => ?_
   rw [hW1] at hS ⊢
   clear hW1
   simp only [List.take_succ_cons,List.take_zero]
   generalize hQQ:tailK _ _ = QQ
   have hsure:Sure QQ:=by
    rw [<- hQQ]
    intro c a a' w1 hd h
    simp +zetaDelta only [tailK,Exit.then,Exit.inBlock,bodyPost] at h ⊢
    simpa [hd] using h
   refine tqh hsure hS 0 ?_
   apply Exists.intro
   apply And.intro
   ·rintro w' ⟨k1,k2⟩
    apply VR.mk
    go_simp
    with_reducible rfl
   try simp only [sA,sB,sC]
   refine tqh hsure hS 1 ?_
   apply Exists.intro
   apply And.intro
   ·rintro w' ⟨k1,k2⟩
    have cc0:=hci k1 4 rfl
    apply VR.mk
    go_simp
    with_reducible rfl
   try simp only [sA,sB,sC]
   refine tqh hsure hS 2 ?_
   apply Exists.intro
   apply And.intro
   ·rintro w' ⟨k1,k2⟩
    apply VR.mk
    exact load27 w' (w1.heap.size) #[.int .i64 22,.int .i64 a1,.int .i64 0,.string ⟨#[]⟩,.slice (some ⟨(w4).heap.size,0,none⟩) 2 2,.slice none 0 0,.int .i64 0,.string ⟨#[]⟩,.int .i64 0,.slice none 0 0] k2 rfl _ _ _ rfl rfl
   try simp only [sA,sB,sC]
   refine tqh hsure hS 3 ?_
   apply Exists.intro
   apply And.intro
   ·rintro w' ⟨k1,k2⟩
    apply VR.mk
    go_simp
    with_reducible rfl
   try simp only [sA,sB,sC]
   refine tree_1Q (i:=4) (by kernel_rfl) ?_
   refine step_list (by rfl) ?_
   go_wp2
   have ba4:=below_alloc (Below.refl (W2).heap.size (W2)) (Obj.cells #[.int .i64 0,.int .i64 0,.int .i64 0,.string ⟨#[]⟩,.slice none 0 0,.slice none 0 0,.int .i64 0,.string ⟨#[]⟩,.int .i64 0,.slice none 0 0] 27)
   replace HK:=am (Kept.below HK.out ba4)
   replace HP:=am (HP.out.below ba4)
   replace HB0:=am (HB0.out.belowS ba4)
   replace HB1:=am (HB1.out.belowS ba4)
   replace HX:=am (HX.out.belowS ba4)
   replace HY:=am (HY.out.belowS ba4)
   replace HKD:=am (Kd.R_below HKD.out ba4)
   clear ba4
   have HZ:=am (Has.new (W2) #[.int .i64 0,.int .i64 0,.int .i64 0,.string ⟨#[]⟩,.slice none 0 0,.slice none 0 0,.int .i64 0,.string ⟨#[]⟩,.int .i64 0,.slice none 0 0] 27)
   refine ⟨⟨HX.out,HY.out⟩, ?_⟩
   rw [<- hQQ]
   refine tree_doneR (by kernel_rfl) ?_
   refine restQ_tree (fun _=>True) ?_
   clear hsure hS hQQ
   have HRW:=am (R_kps hRW0.out HP0.out HK.out)
   replace HK:=am (HK.out.mono (S':=fun k=>k = g \/ bx <= k) fun k h=>.inl h)
   have hszk:=HK.out.size
   refine tree_1Q (i:=5) (by kernel_rfl) ?_
   refine step_list (by rfl) ?_
   have st7:=tt
   go_wp2_with ((
         refine append0 Tryd.underlying22 info27 (bx + 1) rfl (.tmp 20) (.tmp 23) _ (by rfl) rfl A c W2.heap.size xs (by rfl) (by rfl) HRW.out HZ.out (by first | omega | simp) (by omega) ?_
         clear st7
         go_must (
          intro g7 cap7 w70 hR10 hb7 hlt7 hat7 hG10
          have hown:=R_ownb HRW.out
          have V2:=am (V_app (B:=bx + 1) (VO.node 22 a1 0 ⟨#[]⟩ HKD.out) hG10 (fun k hk=>by have:=hsl k hk;omega) hat7 (by omega))
          replace HK:=am (Kept.grown HK.out hG10 (fun k hk=>.inl (.inr (by have:=(hown k hk).1;omega))))
          replace HP:=am (HP.out.grown hG10 (fun k hk=>R_own27 HRW.out k hk))
          replace HB0:=am (HB0.out.of_block (hG10.block _ HB0.out.lt (fun h=>by have:=hown _ h.symm;omega)))
          replace HB1:=am (HB1.out.of_block (hG10.block _ HB1.out.lt (fun h=>by have:=hown _ h.symm;omega)))
          replace HX:=am (HX.out.of_block (hG10.block _ HX.out.lt (fun h=>by have:=hown _ h.symm;omega)))
          have HRN:Aside0 (k27.R 27 w70 (bx + 1) Any (.slice (some ⟨g7,0,none⟩) ((xs).length + 1) cap7) (xs ++ [Z0])):=⟨hR10⟩
          clear hR10 hG10
          have st8:=tt)))
   clear st8
   try refine ⟨trivial, ?_⟩
   try simp only [Act.put,sA,sB,sC]
   have hi0:(0:Int) <= ((xs).length:Int):=by omega
   have hi1:((xs).length:Int) < ((((xs).length + 1):Nat):Int):=by omega
   have hwr:IntKind.i64.wrap ((xs).length:Int) = (xs).length:=IntWalk.i64_in _ (by omega)
   refine tqh (by intro c a a' w1 hd h;simp +zetaDelta only [Exit.then,Exit.inBlock,bodyPost] at h ⊢; simpa [hd] using h) trivial 6 ?_
   refine ⟨.pointer (some ⟨g7,(xs).length * 10,none⟩), ?_, ?_⟩
   ·rintro w' -
    apply VR.mk
    go_simp
    try (intro hbad;omega)
   try simp only [Act.put,sA,sB,sC]
   refine tqh (by intro c a a' w1 hd h;simp +zetaDelta only [Exit.then,Exit.inBlock,bodyPost] at h ⊢; simpa [hd] using h) trivial 8 ?_
   apply Exists.intro
   apply And.intro
   ·rintro w' -
    apply VR.mk
    go_simp
    with_reducible rfl
   try simp only [Act.put,sA,sB,sC]
   have hown7:∀ k,some g7 = some k -> bx + 1 <= k /\ k < w70.heap.size:=fun k hk=>by obtain rfl:=Option.some.inj hk;exact ⟨hb7,hlt7⟩
   refine tree_2Q (i:=7) (k:=9) (by kernel_rfl) ?_ ?_
   ·refine step_list (by rfl) ?_
    have st9:=tt
    go_wp2_with ((
          refine storeN i27 (bx + 1) rfl rfl (.tmp 25) (.tmp 21) rfl g7 cap7 xs (mkE 22 a1 0 ⟨#[]⟩ [p,y] []) [.int .i64 22,.int .i64 a1,.int .i64 0,.string ⟨#[]⟩,.slice (some ⟨(w4).heap.size,0,none⟩) 2 2,.slice none 0 0,.int .i64 0,.string ⟨#[]⟩,.int .i64 0,.slice none 0 0] (by rfl) (by rfl) HRN.out V2.out ?_
          clear st9
          go_must (
           intro w71 hR11 hG11
           replace HK:=am (Kept.grown HK.out hG11 (fun k hk=>.inl (.inr (by have:=(hown7 k hk).1;omega))))
           replace HP:=am (HP.out.grown hG11 (fun k hk=>R_own27 HRN.out k hk))
           replace HB0:=am (HB0.out.of_block (hG11.block _ HB0.out.lt (fun h=>by have:=hown7 _ h.symm;omega)))
           replace HB1:=am (HB1.out.of_block (hG11.block _ HB1.out.lt (fun h=>by have:=hown7 _ h.symm;omega)))
           replace HX:=am (HX.out.of_block (hG11.block _ HX.out.lt (fun h=>by have:=hown7 _ h.symm;omega)))
           have HRM:=am hR11
           clear hR11 hG11
           have st10:=tt)))
    clear st10
    try refine ⟨trivial, ?_⟩
    refine tree_1Q (i:=9) (by kernel_rfl) ?_
    refine step_list (by rfl) ?_
    have c6:=hci HX.out 4 rfl
    have f6:=Has.frozen HX.out 4
    clear cw_HB0_0 cw_HB1_0
    have cw_HB0_0:=hci HB0.out 0 rfl
    have cw_HB1_0:=hci HB1.out 0 rfl
    go_wp2
    clear c6 f6
    replace HK:=am (Kept.setCellX HK.out (a:=⟨bx,4,none⟩) (.inl (.inr (by show bx <= bx;omega))) (.slice (some ⟨g7,0,none⟩) ((xs).length + 1) cap7))
    replace HP:=am (PS.setT HP.out HX.out (by decide) (by decide) 4 (.slice (some ⟨g7,0,none⟩) ((xs).length + 1) cap7))
    replace HB0:=am (Has.other HB0.out (a:=⟨bx,4,none⟩) (by show b ≠ bx;omega) (.slice (some ⟨g7,0,none⟩) ((xs).length + 1) cap7))
    replace HB1:=am (Has.other HB1.out (a:=⟨bx,4,none⟩) (by show b + 1 ≠ bx;omega) (.slice (some ⟨g7,0,none⟩) ((xs).length + 1) cap7))
    replace HRM:=am (R_far HRM.out (fun kk h1 _=>Below.heap_setCell _ ⟨bx,4,none⟩ (.slice (some ⟨g7,0,none⟩) ((xs).length + 1) cap7) kk (by show kk ≠ bx;omega)))
    replace HX:Aside0 (Has (w71.setCell ⟨bx,4,none⟩ (.slice (some ⟨g7,0,none⟩) ((xs).length + 1) cap7)) (bx) #[.int .i64 21,.int .i64 a0,.int .i64 0,.string ⟨#[]⟩,(.slice (some ⟨g7,0,none⟩) ((xs).length + 1) cap7),.slice none 0 0,.int .i64 0,.string ⟨#[]⟩,.int .i64 0,.slice none 0 0] 27):=⟨by have h:=Has.set_ HX.out 4 (.slice (some ⟨g7,0,none⟩) ((xs).length + 1) cap7);exact h⟩
    clear cw_HB0_0 cw_HB1_0
    have cw_HB0_0:=hci HB0.out 0 rfl
    have cw_HB1_0:=hci HB1.out 0 rfl
    first | refine ⟨trivial,tree_endQ (by kernel_rfl) ?_⟩ | refine tree_endQ (by kernel_rfl) ?_
    have HE:Aside0 (R = .ok (xs ++ [mkE 22 a1 0 ⟨#[]⟩ [p,y] []]) l3):=⟨by rw [HEQ.out];simp [needP,PR.andThen,HA.out,HW.out,HYR.out]⟩
    refine bodyPost_end (results_none rfl _ _ _) rfl ?_
    rw [HE.out]
    exact ⟨HK.out,rfl,⟨_,HB0.out,HB1.out,HX.out,HRM.out⟩,HP.out⟩
   ·refine step_list (by rfl) ?_
    have c6:=hci HX.out 4 rfl
    have f6:=Has.frozen HX.out 4
    clear cw_HB0_0 cw_HB1_0
    have cw_HB0_0:=hci HB0.out 0 rfl
    have cw_HB1_0:=hci HB1.out 0 rfl
    go_wp2
    clear c6 f6
    replace HK:=am (Kept.setCellX HK.out (a:=⟨bx,4,none⟩) (.inl (.inr (by show bx <= bx;omega))) (.slice (some ⟨g7,0,none⟩) ((xs).length + 1) cap7))
    replace HP:=am (PS.setT HP.out HX.out (by decide) (by decide) 4 (.slice (some ⟨g7,0,none⟩) ((xs).length + 1) cap7))
    replace HB0:=am (Has.other HB0.out (a:=⟨bx,4,none⟩) (by show b ≠ bx;omega) (.slice (some ⟨g7,0,none⟩) ((xs).length + 1) cap7))
    replace HB1:=am (Has.other HB1.out (a:=⟨bx,4,none⟩) (by show b + 1 ≠ bx;omega) (.slice (some ⟨g7,0,none⟩) ((xs).length + 1) cap7))
    replace HRN:=am (R_far HRN.out (fun kk h1 _=>Below.heap_setCell _ ⟨bx,4,none⟩ (.slice (some ⟨g7,0,none⟩) ((xs).length + 1) cap7) kk (by show kk ≠ bx;omega)))
    replace V2:=am (VO.setO V2.out (a:=⟨bx,4,none⟩) (fun kk h1 h2=>by show kk ≠ bx;omega) (.slice (some ⟨g7,0,none⟩) ((xs).length + 1) cap7))
    replace HX:Aside0 (Has (w70.setCell ⟨bx,4,none⟩ (.slice (some ⟨g7,0,none⟩) ((xs).length + 1) cap7)) (bx) #[.int .i64 21,.int .i64 a0,.int .i64 0,.string ⟨#[]⟩,(.slice (some ⟨g7,0,none⟩) ((xs).length + 1) cap7),.slice none 0 0,.int .i64 0,.string ⟨#[]⟩,.int .i64 0,.slice none 0 0] 27):=⟨by have h:=Has.set_ HX.out 4 (.slice (some ⟨g7,0,none⟩) ((xs).length + 1) cap7);exact h⟩
    clear cw_HB0_0 cw_HB1_0
    have cw_HB0_0:=hci HB0.out 0 rfl
    have cw_HB1_0:=hci HB1.out 0 rfl
    refine ⟨trivial, ?_⟩
    replace hown7:∀ k,some g7 = some k -> bx + 1 <= k /\ k < ((w70.setCell ⟨bx,4,none⟩ (.slice (some ⟨g7,0,none⟩) ((xs).length + 1) cap7))).heap.size:=fun k hk=>by have:=hown7 k hk;simpa using this
    refine tree_1Q (i:=7) (by kernel_rfl) ?_
    refine step_list (by rfl) ?_
    have st9:=tt
    go_wp2_with ((
          refine storeN i27 (bx + 1) rfl rfl (.tmp 25) (.tmp 21) rfl g7 cap7 xs (mkE 22 a1 0 ⟨#[]⟩ [p,y] []) [.int .i64 22,.int .i64 a1,.int .i64 0,.string ⟨#[]⟩,.slice (some ⟨(w4).heap.size,0,none⟩) 2 2,.slice none 0 0,.int .i64 0,.string ⟨#[]⟩,.int .i64 0,.slice none 0 0] (by rfl) (by rfl) HRN.out V2.out ?_
          clear st9
          go_must (
           intro w71 hR11 hG11
           replace HK:=am (Kept.grown HK.out hG11 (fun k hk=>.inl (.inr (by have:=(hown7 k hk).1;omega))))
           replace HP:=am (HP.out.grown hG11 (fun k hk=>R_own27 HRN.out k hk))
           replace HB0:=am (HB0.out.of_block (hG11.block _ HB0.out.lt (fun h=>by have:=hown7 _ h.symm;omega)))
           replace HB1:=am (HB1.out.of_block (hG11.block _ HB1.out.lt (fun h=>by have:=hown7 _ h.symm;omega)))
           replace HX:=am (HX.out.of_block (hG11.block _ HX.out.lt (fun h=>by have:=hown7 _ h.symm;omega)))
           have HRM:=am hR11
           clear hR11 hG11
           have st10:=tt)))
    clear st10
    first | refine ⟨trivial,tree_endQ (by kernel_rfl) ?_⟩ | refine tree_endQ (by kernel_rfl) ?_
    have HE:Aside0 (R = .ok (xs ++ [mkE 22 a1 0 ⟨#[]⟩ [p,y] []]) l3):=⟨by rw [HEQ.out];simp [needP,PR.andThen,HA.out,HW.out,HYR.out]⟩
    refine bodyPost_end (results_none rfl _ _ _) rfl ?_
    rw [HE.out]
    exact ⟨HK.out,rfl,⟨_,HB0.out,HB1.out,HX.out,HRM.out⟩,HP.out⟩
  ·have HYR:=am hr
   refine .inr ⟨_,rfl, ?_⟩
   replace HK:=am (Kept.then_ HK.out hk)
   replace HB0:=am (Kept.has hk HB0.out (by omega))
   replace HB1:=am (Kept.has hk HB1.out (by omega))
   replace HX:=am (Kept.has hk HX.out (by omega))
   replace HY:=am (Kept.has hk HY.out (by omega))
   replace Vp:=am (VO.kps Vp.out HP.out hk)
   replace HZP:=am (Kept.has hk HZP.out (by omega))
   have hs4:=Kept.size hk
   try simp at hs4
   rw [<- hQQ]
   have HE:Aside0 (R = .bad bb er):=⟨by rw [HEQ.out];simp [needP,PR.andThen,HA.out,HW.out,HYR.out]⟩
   have he:=HE.out
   subst he
   exact ⟨rfl,HK.out.mono fun k h=>.inl h,rfl⟩
 | false =>
 have HW:=am hHW
 clear hHW
 have st5:=tt
 go_wp2_with ((
       go_at_call 42
       clear st5
       go_must (
        (with_reducible refine Calls.mono (need_no sArrow HP.out HW.out) ?_)
        rintro en w3 ⟨he3,hk3⟩
        subst he3
        replace HK:=am (Kept.then_ HK.out hk3)
        replace HB0:=am (Kept.has hk3 HB0.out (by omega))
        replace HB1:=am (Kept.has hk3 HB1.out (by omega))
        replace HX:=am (Kept.has hk3 HX.out (by omega))
        replace HY:=am (Kept.has hk3 HY.out (by omega))
        replace Vp:=am (VO.kps Vp.out HP.out hk3)
        replace HZP:=am (Kept.has hk3 HZP.out (by omega))
        have hs3:=Kept.size hk3
        try simp at hs3
        clear cw_HB0_0 cw_HB1_0
        have cw_HB0_0:=hci HB0.out 0 rfl
        have cw_HB1_0:=hci HB1.out 0 rfl
        have st6:=tt)))
 clear st6
 have HE:Aside0 (R = .bad (atP e l1) 30):=⟨by rw [HEQ.out];simp [needP,PR.andThen,HA.out,HW.out]⟩
 rw [HE.out]
 exact ⟨rfl,HK.out.mono fun k h=>.inl h,rfl⟩
end Go.Proofs.YtngpgdmafmkddaaDoor.Par
end
