/- Steps toward the laws of the parser (B), merged from several texts (some of them began as the kit's print). No condition. -/
import Derived.OwnWalk
import Derived.Test.YtngpgdmafmkddaaDoorZB3
section
namespace Go.Proofs.YtngpgdmafmkddaaDoor.Par
open Go.RowKit Go.Proofs.YtngpgdmafmkddaaDoorW.PrintWords Go.Proofs.YtngpgdmafmkddaaDoorW.PrintLast Go.Proofs.YtngpgdmafmkddaaDoorW.PrintMore
open Go.Proofs.YtngpgdmafmkddaaDoor.PParseBlanks (S35 S25 S27 k35 k25 k27 rd_T35 rd_T25 rd_T27 at_T35 at_T25 at_T27)
set_option linter.unusedVariables false
set_option linter.unusedSimpArgs false
open Go.Maps Go.WideMaps
structure TL (g b0:Nat) (e d:Int) (w wr:World) (l:List S35):Prop where
 h0:Has wr b0 #[.pointer (some ⟨g,0,none⟩)] 52
 h1:Has wr (b0 + 1) #[.int .i64 d] 3
 hr:Has wr (b0 + 1 + 1) #[.int .i64 0,.string ⟨#[]⟩,.int .i64 0,.slice none 0 0] 25
 ps:PS wr g l e
 kp:KeptG g w wr
section
variable {g b0:Nat} {e d:Int} {w wr w' : World} {l l' : List S35}
theorem TL.below (H:TL g b0 e d w wr l) (hb:Below wr.heap.size wr w'):TL g b0 e d w w' l:=⟨H.h0.belowS hb,H.h1.belowS hb,H.hr.belowS hb,H.ps.below hb,H.kp.below hb⟩
theorem TL.step (H:TL g b0 e d w wr l) (hg:g < b0) (hk:KeptG g wr w') (hp:PS w' g l' e):TL g b0 e d w w' l':=⟨Kept.has hk H.h0 (by omega),Kept.has hk H.h1 (by omega),Kept.has hk H.hr (by omega),hp,H.kp.then_ hk⟩
theorem TL.c0 (H:TL g b0 e d w wr l):wr.cell? ⟨b0,0,none⟩ = some (.pointer (some ⟨g,0,none⟩)):=H.h0.cell 0
theorem TL.c1 (H:TL g b0 e d w wr l):wr.cell? ⟨b0 + 1,0,none⟩ = some (.int .i64 d):=H.h1.cell 0
end
theorem TL.set {g b0:Nat} {e d:Int} {w wr:World} {l:List S35} (H:TL g b0 e d w wr l) {b:Nat} {old:Array Value} (hx:Has wr b old 25) (hb:b0 + 1 + 1 < b) (hw:w.heap.size <= b) (i:Nat) (u:Value):TL g b0 e d w (wr.setCell ⟨b,i,none⟩ u) l:=
 ⟨H.h0.other (by show b0 ≠ b;omega) u,H.h1.other (by show b0 + 1 ≠ b;omega) u,H.hr.other (by show b0 + 1 + 1 ≠ b;omega) u,H.ps.setT hx (by decide) (by decide) i u,H.kp.setCellG hw u⟩
def RB (B b:Nat) (w:World) (v:Value) (ts:List S25):Prop:=k25.R 25 w B (fun k=>k < b) v ts
section
variable {B b g:Nat} {w w' : World} {v:Value} {ts:List S25} {e:Int} {l:List S35}
theorem RB.below (h:RB B b w v ts) (hb:Below w.heap.size w w'):RB B b w' v ts:=Kd.R_below h hb
theorem RB.kps (h:RB B b w v ts) (hp:PS w g l e) (hk:KeptG g w w'):RB B b w' v ts:=let ⟨_,_,HP⟩:=hp;Kd.R_mono (Kd.R_step (Kd.R_types h HP.has (by decide)) fun k hk1 hk2=>hk.block k hk2 hk1.2) fun k hk=>hk.1
theorem RB.set (h:RB B b w v ts) (i:Nat) (u:Value):RB B b (w.setCell ⟨b,i,none⟩ u) v ts:=Kd.R_mono (Kd.R_step (Kd.R_bound h) fun k hk1 hk2=>Below.heap_setCell _ ⟨b,i,none⟩ u k (by show k ≠ b;have:=hk1.1;omega)) fun k hk=>hk.1
theorem RB.row (h:RB B b w v ts) {r:Nat} (hr:r < B) (cs:Array Value):k25.R 25 (w.setRow r cs) B Any v ts:=R25_far (Kd.R_mono h fun _ _=>trivial) fun k h1 _=>row_block w r k cs (by omega)
end
theorem VT.R {B:Nat} {w:World} {t:S25} {k n:Int} {s:ByteArray} {v3:Value} (h:VT B w (.agg #[.int .i64 k,.string s,.int .i64 n,v3]) t):k25.R 25 w B Any v3 t.f3:=by
 obtain ⟨v,e,r⟩:=h
 injection e with e
 injection e with e
 simp at e
 rw [e.2.2.2];exact r
theorem VT.RB {B:Nat} {w:World} {t:S25} {k n:Int} {s:ByteArray} {v3:Value} (h:VT B w (.agg #[.int .i64 k,.string s,.int .i64 n,v3]) t):RB B w.heap.size w v3 t.f3:=Kd.R_mono (Kd.R_bound (VT.R h)) fun kk hkk=>hkk.2.2.1
theorem name_size {w:World} {g:Nat} {e:Int} {l l1:List S35} {s:ByteArray} (H:PS w g l e) (h:nameP e l = .ok s l1):s.size <= maxLen:=by
 obtain ⟨A,c,HP⟩:=H
 cases l with
 | nil=>cases h
 | cons t r =>
  simp only [nameP] at h
  split at h
  ·injection h with h1 h2
   subst h1
   have:=HP.le.2 t (List.mem_cons_self ..)
   unfold maxLen;omega
  ·cases h
def okT (l:List S35):Bool:=decide (kindP l = 1) || oneP oneTyp l
set_option maxRecDepth 100000 in
set_option maxHeartbeats 8000000 in
theorem typ_ok {n:Nat} (HT:TypOK n):TypOK (n + 1):=by
 intro g e d l w h0 h1 HP hne
 have hu25:=Tryd.underlying25
 have hgw:=HP.glt
 have HTT:=am HT
 have HNE:=am hne
 obtain ⟨R,hR⟩:∃ R,typP e (n + 1) d l = R:=⟨_,rfl⟩
 have HEQ:R = if okT l = false then .bad (atP e l) 30 else if d >= 60 then .bad (atP e l) 31 else
  if isP sLpar l = true then (needP e sRpar l.tail).andThen fun _ l1=>.ok ⟨1,⟨#[]⟩,0,[]⟩ l1
  else if isP sLbra l = true then (typP e n (d + 1) l.tail).andThen fun t l1=>(needP e sSemi l1).andThen fun _ l2=>(countP e l2).andThen fun v l3=>(needP e sRbra l3).andThen fun _ l4=>.ok ⟨10,⟨#[]⟩,v,[t]⟩ l4
  else if isP sAmp l = true then
   (if isP sMut l.tail = true then (typP e n (d + 1) l.tail.tail).andThen fun t l1=>.ok ⟨13,⟨#[]⟩,0,[t]⟩ l1
    else (typP e n (d + 1) l.tail).andThen fun t l1=>.ok ⟨12,⟨#[]⟩,0,[t]⟩ l1)
  else (nameP e l).andThen fun s l1 =>
   if s.toList = sBox.toList then (needP e sLt l1).andThen fun _ l2=>(typP e n (d + 1) l2).andThen fun t l3=>(closeP e l3).andThen fun _ l4=>.ok ⟨11,⟨#[]⟩,0,[t]⟩ l4
   else match tykP s.toList with
    | some k=>.ok ⟨k,⟨#[]⟩,0,[]⟩ l1
    | none=>.ok ⟨9,s,0,[]⟩ l1:=by
  rw [<- hR]
  simp only [typP]
  by_cases hk:okT l = false
  ·have hk2:kindP l ≠ 1 /\ oneP oneTyp l = false:=by simpa only [okT,Bool.or_eq_false_iff,decide_eq_false_iff_not] using hk
   rw [if_pos hk,if_pos hk2]
  ·have hk2 : ¬ (kindP l ≠ 1 /\ oneP oneTyp l = false):=fun h=>hk (by simp only [okT,Bool.or_eq_false_iff,decide_eq_false_iff_not];exact h)
   rw [if_neg hk,if_neg hk2]
   rfl
 rw [hR] at HNE ⊢
 clear hR HT hne
 have HEQ':=am HEQ
 clear HEQ
 have HEQ:=HEQ'
 clear HEQ'
 have hz1:(w.alloc (Obj.cells #[.pointer (some ⟨g,0,none⟩)] 52)).heap.size = w.heap.size + 1:=by simp
 have hz2:((w.alloc (Obj.cells #[.pointer (some ⟨g,0,none⟩)] 52)).alloc (Obj.cells #[.int .i64 d] 3)).heap.size = w.heap.size + 2:=by simp
 have BB:=below_alloc (below_alloc (below_alloc (Below.refl w.heap.size w) (Obj.cells #[.pointer (some ⟨g,0,none⟩)] 52)) (Obj.cells #[.int .i64 d] 3)) (Obj.cells #[.int .i64 0,.string ⟨#[]⟩,.int .i64 0,.slice none 0 0] 25)
 have HTL:Aside0 (TL g w.heap.size e d w (((w.alloc (Obj.cells #[.pointer (some ⟨g,0,none⟩)] 52)).alloc (Obj.cells #[.int .i64 d] 3)).alloc (Obj.cells #[.int .i64 0,.string ⟨#[]⟩,.int .i64 0,.slice none 0 0] 25)) l):=
  ⟨((Has.new w #[.pointer (some ⟨g,0,none⟩)] 52).alloc _).alloc _,by have h:=Has.new (w.alloc (Obj.cells #[.pointer (some ⟨g,0,none⟩)] 52)) #[.int .i64 d] 3;rw [hz1] at h;exact h.alloc _,by have h:=Has.new ((w.alloc (Obj.cells #[.pointer (some ⟨g,0,none⟩)] 52)).alloc (Obj.cells #[.int .i64 d] 3)) #[.int .i64 0,.string ⟨#[]⟩,.int .i64 0,.slice none 0 0] 25;rwa [hz2] at h,HP.below BB,Kept.of_below BB⟩
 clear HP BB hz1 hz2
 have c0:=HTL.out.c0
 have c1:=HTL.out.c1
 go_enter Tryd.func46,Tryd.ntmps46
 go_upto_region 1 with fail
 go_cut [19] (fun v19 wc=>v19 = .bool (!okT l) /\ Aside0 (TL g w.heap.size e d w wc l))
 case first =>
  obtain ⟨q,hq⟩:∃ q,kindP l = q:=⟨_,rfl⟩
  by_cases k1:q = 1
  ·have b1:(q != 1) = false:=by simp [k1]
   have HOK:Aside0 (okT l = true):=⟨by simp [okT,hq,k1]⟩
   have HQ:=am hq
   clear hq
   go_wp2_with (go_at_call 19;(with_reducible refine (kind_ps HTL.out.ps).mono ?_);rintro en w1 ⟨he,hb1⟩;rw [HQ.out] at he;subst he;replace HTL:=am (HTL.out.below hb1);clear c0 c1;have c0:=HTL.out.c0;have c1:=HTL.out.c1;clear hb1)
   go_meet
   case rel=>exact ⟨by rw [HOK.out];rfl,HTL⟩
  ·have b1:(q != 1) = true:=by simp [k1]
   have HOK:Aside0 (okT l = oneP oneTyp l):=⟨by simp [okT,hq,k1]⟩
   have HQ:=am hq
   obtain ⟨bo,hbo⟩:∃ b,oneP oneTyp l = b:=⟨_,rfl⟩
   have HBO:=am hbo
   clear hq hbo k1
   go_wp2_with (first | (go_at_call 19;(with_reducible refine (kind_ps HTL.out.ps).mono ?_);rintro en w1 ⟨he,hb1⟩;rw [HQ.out] at he;subst he;replace HTL:=am (HTL.out.below hb1);clear c0 c1;have c0:=HTL.out.c0;have c1:=HTL.out.c1;clear hb1;have bS:=below_alloc (Below.refl w1.heap.size w1) (Obj.cells ([sLpar,sLbra,sAmp].map Value.string).toArray 9);have HL:=lit_S w1 [sLpar,sLbra,sAmp] (by decide)) | (go_at_call 61;refine Calls.mono (one_ps [sLpar,sLbra,sAmp] (some ⟨w1.heap.size,0,none⟩) 3 (HTL.out.ps.below bS) HL (by decide)) ?_;rintro en w2 ⟨he,hb2⟩;rw [HBO.out] at he;subst he;replace HTL:=am ((HTL.out.below bS).below hb2)))
   go_meet
   case rel=>exact ⟨by rw [HOK.out,HBO.out],HTL⟩
 case rest =>
  clear HTL c0 c1
  obtain ⟨rfl,HTL⟩:=hcut
  have c0:=HTL.out.c0
  have c1:=HTL.out.c1
  cases hk:okT l with
  | false =>
   have HE:Aside0 (R = .bad (atP e l) 30):=⟨by rw [HEQ.out,if_pos hk]⟩
   clear HEQ hk
   go_wp2_with (go_at_call 20;(with_reducible refine (fail_ps 30 HTL.out.ps).mono ?_);rintro en w1 ⟨he,hb1⟩;subst he)
   rw [HE.out]
   exact ⟨rfl,HTL.out.kp.below hb1,rfl⟩
  | true =>
   have HEQ2:=am (HEQ.out.trans (if_neg (by rw [hk];decide)))
   clear HEQ hk
   have hcf:∀ (k:Int) (w' : World),(callFunc 63 #[.int .i64 k,.pointer (some ⟨w.heap.size,0,none⟩),.pointer (some ⟨w.heap.size + 1,0,none⟩)]).run Tryd.prog w' = .ok (.enter 63 #[.int .i64 k,.pointer (some ⟨w.heap.size,0,none⟩),.pointer (some ⟨w.heap.size + 1,0,none⟩)]) w':=fun _ _=>by kernel_rfl
   by_cases hd:d >= 60
   ·have HE:Aside0 (R = .bad (atP e l) 31):=⟨HEQ2.out.trans (if_pos hd)⟩
    clear HEQ2
    go_wp2_with (first | (go_at_call 62;(with_reducible refine (deep_bad g l e d _ HTL.out.ps hd).mono ?_);rintro en w1 ⟨he,hk⟩;subst he))
    rw [HE.out]
    exact ⟨rfl,HTL.out.kp.then_ hk,rfl⟩
   replace HEQ2:=am (HEQ2.out.trans (if_neg hd))
   replace hd:d < 60:=by omega
   cases hA:isP sLpar l with
   | true =>
    have HA:=am hA
    clear hA
    cases hB:isP sRpar l.tail with
    | true =>
     have HB:=am hB
     clear hB
     have HE:Aside0 (R = .ok ⟨1,⟨#[]⟩,0,[]⟩ l.tail.tail):=⟨by rw [HEQ2.out];simp [needP,PR.andThen,HA.out,HB.out]⟩
     clear HEQ2
     go_wp2_with (first | (go_at_call 62;(with_reducible refine (deep_ok g l e d _ HTL.out.ps hd).mono ?_);rintro en w1 ⟨he,hk,hp⟩;subst he;have hzr:=HTL.out.hr.lt;replace HTL:=am (HTL.out.step hgw hk hp);clear c0 c1;have c0:=HTL.out.c0;have c1:=HTL.out.c1;clear hk hp hzr) | (go_at_call 41;(with_reducible refine (take_yes sLpar HTL.out.ps HA.out).mono ?_);rintro en w2 ⟨he,hk,hp⟩;subst he;have hzr:=HTL.out.hr.lt;replace HTL:=am (HTL.out.step hgw hk hp);clear c0 c1;have c0:=HTL.out.c0;have c1:=HTL.out.c1;clear hk hp hzr) | (go_at_call 42;(with_reducible refine (need_yes sRpar HTL.out.ps HB.out).mono ?_);rintro en w3 ⟨he,hk,hp⟩;subst he;have hzr:=HTL.out.hr.lt;replace HTL:=am (HTL.out.step hgw hk hp);clear c0 c1;have c0:=HTL.out.c0;have c1:=HTL.out.c1;clear hk hp hzr) | ((with_reducible refine gate_store (t:=25) (p:=4) rfl ?_);go_must (refine store_event (t:=25) (p:=4) (v:=.tmp 31) (w1:=World.setRow w3 (w.heap.size + 1 + 1) #[.int .i64 1,.string ⟨#[]⟩,.int .i64 0,.slice none 0 0]) ?hg ?ho ?hn ?hr ?_;(case ho=>rfl);(case hg=>rfl);(case hn=>rfl);(case hr=>exact store25 w3 (w.heap.size + 1 + 1) _ _ HTL.out.hr rfl rfl (by first | kernel_rfl | (simp [Value.oneCell'])) _ _ _ _ rfl rfl rfl);intro w7 hw7;subst hw7)))
     refine bodyPost_ret (results_cell_row rfl _ _ (w.heap.size + 1 + 1) 25 #[.int .i64 1,.string ⟨#[]⟩,.int .i64 0,.slice none 0 0] (0,0) _ rfl (has_row HTL.out.hr _) Tryd.underlying25 rfl (by rfl)) rfl ?_
     rw [HE.out]
     exact ⟨kept_row HTL.out.kp (by omega) _,_,rfl,VT.leaf _ _ 1 0 ⟨#[]⟩,HTL.out.ps.rowX HTL.out.hr (by decide) (by decide) _⟩
    | false =>
     have HB:=am hB
     clear hB
     have HE:Aside0 (R = .bad (atP e l.tail) 30):=⟨by rw [HEQ2.out];simp [needP,PR.andThen,HA.out,HB.out]⟩
     clear HEQ2
     go_wp2_with (first | (go_at_call 62;(with_reducible refine (deep_ok g l e d _ HTL.out.ps hd).mono ?_);rintro en w1 ⟨he,hk,hp⟩;subst he;have hzr:=HTL.out.hr.lt;replace HTL:=am (HTL.out.step hgw hk hp);clear c0 c1;have c0:=HTL.out.c0;have c1:=HTL.out.c1;clear hk hp hzr) | (go_at_call 41;(with_reducible refine (take_yes sLpar HTL.out.ps HA.out).mono ?_);rintro en w2 ⟨he,hk,hp⟩;subst he;have hzr:=HTL.out.hr.lt;replace HTL:=am (HTL.out.step hgw hk hp);clear c0 c1;have c0:=HTL.out.c0;have c1:=HTL.out.c1;clear hk hp hzr) | (go_at_call 42;(with_reducible refine (need_no sRpar HTL.out.ps HB.out).mono ?_);rintro en w3 ⟨he,hk⟩;subst he))
     rw [HE.out]
     exact ⟨rfl,HTL.out.kp.then_ hk,rfl⟩
   | false =>
   have HA:=am hA
   clear hA
   cases hC:isP sLbra l with
   | true =>
    have HC:=am hC
    clear hC
    cases hr:typP e n (d + 1) l.tail with
    | out=>exact absurd (by rw [HEQ2.out];simp [PR.andThen,HA.out,HC.out,hr]) HNE.out
    | bad a er =>
     have HR:=am hr
     have HNO:=am (show typP e n (d + 1) l.tail ≠ .out by rw [hr];exact PR.bad_ne _ _)
     clear hr
     have HE:Aside0 (R = .bad a er):=⟨by rw [HEQ2.out];simp [needP,PR.andThen,HA.out,HC.out,HR.out]⟩
     clear HEQ2
     go_wp2_with (first | (go_at_call 62;(with_reducible refine (deep_ok g l e d _ HTL.out.ps hd).mono ?_);rintro en w1 ⟨he,hk,hp⟩;subst he;have hzr:=HTL.out.hr.lt;replace HTL:=am (HTL.out.step hgw hk hp);clear c0 c1;have c0:=HTL.out.c0;have c1:=HTL.out.c1;clear hk hp hzr) | (go_at_call 41;(with_reducible refine (take_no sLpar HTL.out.ps HA.out).mono ?_);rintro en w2 ⟨he,hk,hp⟩;subst he;have hzr:=HTL.out.hr.lt;replace HTL:=am (HTL.out.step hgw hk hp);clear c0 c1;have c0:=HTL.out.c0;have c1:=HTL.out.c1;clear hk hp hzr) | (go_at_call 41;(with_reducible refine (take_yes sLbra HTL.out.ps HC.out).mono ?_);rintro en w2 ⟨he,hk,hp⟩;subst he;have hzr:=HTL.out.hr.lt;replace HTL:=am (HTL.out.step hgw hk hp);clear c0 c1;have c0:=HTL.out.c0;have c1:=HTL.out.c1;clear hk hp hzr) | (go_at_call 63;refine Calls.mono (within_ok HTT.out g e d 10 l.tail w.heap.size (w.heap.size + 1) _ h0 (by omega) HTL.out.ps HTL.out.h0 HTL.out.h1 HNO.out) ?_;rintro en w4 ⟨hk,hq⟩;rw [HR.out] at hq;simp only [PR.andThen] at hq;subst hq))
     rw [HE.out]
     exact ⟨rfl,HTL.out.kp.then_ hk,rfl⟩
    | ok t l1 =>
     have HR:=am hr
     have HNO:=am (show typP e n (d + 1) l.tail ≠ .out by rw [hr];exact PR.ok_ne _ _)
     clear hr
     cases hS:isP sSemi l1 with
     | false =>
      have HS:=am hS
      clear hS
      have HE:Aside0 (R = .bad (atP e l1) 30):=⟨by rw [HEQ2.out];simp [needP,PR.andThen,HA.out,HC.out,HR.out,HS.out]⟩
      clear HEQ2
      go_wp2_with (first | (go_at_call 62;(with_reducible refine (deep_ok g l e d _ HTL.out.ps hd).mono ?_);rintro en w1 ⟨he,hk,hp⟩;subst he;have hzr:=HTL.out.hr.lt;replace HTL:=am (HTL.out.step hgw hk hp);clear c0 c1;have c0:=HTL.out.c0;have c1:=HTL.out.c1;clear hk hp hzr) | (go_at_call 41;(with_reducible refine (take_no sLpar HTL.out.ps HA.out).mono ?_);rintro en w2 ⟨he,hk,hp⟩;subst he;have hzr:=HTL.out.hr.lt;replace HTL:=am (HTL.out.step hgw hk hp);clear c0 c1;have c0:=HTL.out.c0;have c1:=HTL.out.c1;clear hk hp hzr) | (go_at_call 41;(with_reducible refine (take_yes sLbra HTL.out.ps HC.out).mono ?_);rintro en w2 ⟨he,hk,hp⟩;subst he;have hzr:=HTL.out.hr.lt;replace HTL:=am (HTL.out.step hgw hk hp);clear c0 c1;have c0:=HTL.out.c0;have c1:=HTL.out.c1;clear hk hp hzr) | (go_at_call 63;refine Calls.mono (within_ok HTT.out g e d 10 l.tail w.heap.size (w.heap.size + 1) _ h0 (by omega) HTL.out.ps HTL.out.h0 HTL.out.h1 HNO.out) ?_;rintro en w4 ⟨hk,hq⟩;rw [HR.out] at hq;simp only [PR.andThen] at hq;obtain ⟨v,rfl,hv,hp⟩:=hq;obtain ⟨y3,yc3,rfl⟩:=hv.form;have hzr:=HTL.out.hr.lt;replace HTL:=am (HTL.out.step hgw hk hp);clear c0 c1;have c0:=HTL.out.c0;have c1:=HTL.out.c1;clear hp;have hz3:=hzr;have hz4:=hk.size;have bA:=below_alloc (Below.refl w4.heap.size w4) (Obj.cells #[.int .i64 10,.string ⟨#[]⟩,.int .i64 0,.slice y3 1 yc3] 25);have HX:=am (Has.new w4 #[.int .i64 10,.string ⟨#[]⟩,.int .i64 0,.slice y3 1 yc3] 25);have h4g:w4.heap.size ≠ g:=(by (have:=HTL.out.ps.glt;omega));have HRB:=am ((VT.RB hv).below bA);replace HTL:=am (HTL.out.below bA);clear c0 c1;have c0:=HTL.out.c0;have c1:=HTL.out.c1;clear hk hv) | (go_at_call 42;(with_reducible refine (need_no sSemi HTL.out.ps HS.out).mono ?_);rintro en w5 ⟨he,hk⟩;subst he))
      rw [HE.out]
      exact ⟨rfl,HTL.out.kp.then_ hk,rfl⟩
     | true =>
      have HS:=am hS
      clear hS
      cases hc:countP e l1.tail with
      | out=>exact absurd (by rw [HEQ2.out];simp [needP,PR.andThen,HA.out,HC.out,HR.out,HS.out,hc]) HNE.out
      | bad a er =>
       have HRC:=am hc
       have HNC:=am (show countP e l1.tail ≠ .out by rw [hc];exact PR.bad_ne _ _)
       clear hc
       have HE:Aside0 (R = .bad a er):=⟨by rw [HEQ2.out];simp [needP,PR.andThen,HA.out,HC.out,HR.out,HS.out,HRC.out]⟩
       clear HEQ2
       go_wp2_with (first | (go_at_call 62;(with_reducible refine (deep_ok g l e d _ HTL.out.ps hd).mono ?_);rintro en w1 ⟨he,hk,hp⟩;subst he;have hzr:=HTL.out.hr.lt;replace HTL:=am (HTL.out.step hgw hk hp);clear c0 c1;have c0:=HTL.out.c0;have c1:=HTL.out.c1;clear hk hp hzr) | (go_at_call 41;(with_reducible refine (take_no sLpar HTL.out.ps HA.out).mono ?_);rintro en w2 ⟨he,hk,hp⟩;subst he;have hzr:=HTL.out.hr.lt;replace HTL:=am (HTL.out.step hgw hk hp);clear c0 c1;have c0:=HTL.out.c0;have c1:=HTL.out.c1;clear hk hp hzr) | (go_at_call 41;(with_reducible refine (take_yes sLbra HTL.out.ps HC.out).mono ?_);rintro en w2 ⟨he,hk,hp⟩;subst he;have hzr:=HTL.out.hr.lt;replace HTL:=am (HTL.out.step hgw hk hp);clear c0 c1;have c0:=HTL.out.c0;have c1:=HTL.out.c1;clear hk hp hzr) | (go_at_call 63;refine Calls.mono (within_ok HTT.out g e d 10 l.tail w.heap.size (w.heap.size + 1) _ h0 (by omega) HTL.out.ps HTL.out.h0 HTL.out.h1 HNO.out) ?_;rintro en w4 ⟨hk,hq⟩;rw [HR.out] at hq;simp only [PR.andThen] at hq;obtain ⟨v,rfl,hv,hp⟩:=hq;obtain ⟨y3,yc3,rfl⟩:=hv.form;have hzr:=HTL.out.hr.lt;replace HTL:=am (HTL.out.step hgw hk hp);clear c0 c1;have c0:=HTL.out.c0;have c1:=HTL.out.c1;clear hp;have hz3:=hzr;have hz4:=hk.size;have bA:=below_alloc (Below.refl w4.heap.size w4) (Obj.cells #[.int .i64 10,.string ⟨#[]⟩,.int .i64 0,.slice y3 1 yc3] 25);have HX:=am (Has.new w4 #[.int .i64 10,.string ⟨#[]⟩,.int .i64 0,.slice y3 1 yc3] 25);have h4g:w4.heap.size ≠ g:=(by (have:=HTL.out.ps.glt;omega));have HRB:=am ((VT.RB hv).below bA);replace HTL:=am (HTL.out.below bA);clear c0 c1;have c0:=HTL.out.c0;have c1:=HTL.out.c1;clear hk hv) | (go_at_call 42;(with_reducible refine (need_yes sSemi HTL.out.ps HS.out).mono ?_);rintro en w5 ⟨he,hk,hp⟩;subst he;replace HX:=am (Kept.has hk HX.out h4g);replace HRB:=am (HRB.out.kps HTL.out.ps hk);replace HTL:=am (HTL.out.step hgw hk hp);clear c0 c1;have c0:=HTL.out.c0;have c1:=HTL.out.c1;clear hk hp) | (go_at_call 64;(with_reducible refine Calls.mono (count_said g l1.tail e _ HTL.out.ps HNC.out) ?_);rintro en w6 ⟨hk,hq⟩;rw [HRC.out] at hq;subst hq))
       rw [HE.out]
       exact ⟨rfl,HTL.out.kp.then_ hk,rfl⟩
      | ok vn l3 =>
       have HRC:=am hc
       have HNC:=am (show countP e l1.tail ≠ .out by rw [hc];exact PR.ok_ne _ _)
       clear hc
       cases hJ:isP sRbra l3 with
       | false =>
        have HJ:=am hJ
        clear hJ
        have HE:Aside0 (R = .bad (atP e l3) 30):=⟨by rw [HEQ2.out];simp [needP,PR.andThen,HA.out,HC.out,HR.out,HS.out,HRC.out,HJ.out]⟩
        clear HEQ2
        go_wp2_with (first | (go_at_call 62;(with_reducible refine (deep_ok g l e d _ HTL.out.ps hd).mono ?_);rintro en w1 ⟨he,hk,hp⟩;subst he;have hzr:=HTL.out.hr.lt;replace HTL:=am (HTL.out.step hgw hk hp);clear c0 c1;have c0:=HTL.out.c0;have c1:=HTL.out.c1;clear hk hp hzr) | (go_at_call 41;(with_reducible refine (take_no sLpar HTL.out.ps HA.out).mono ?_);rintro en w2 ⟨he,hk,hp⟩;subst he;have hzr:=HTL.out.hr.lt;replace HTL:=am (HTL.out.step hgw hk hp);clear c0 c1;have c0:=HTL.out.c0;have c1:=HTL.out.c1;clear hk hp hzr) | (go_at_call 41;(with_reducible refine (take_yes sLbra HTL.out.ps HC.out).mono ?_);rintro en w2 ⟨he,hk,hp⟩;subst he;have hzr:=HTL.out.hr.lt;replace HTL:=am (HTL.out.step hgw hk hp);clear c0 c1;have c0:=HTL.out.c0;have c1:=HTL.out.c1;clear hk hp hzr) | (go_at_call 63;refine Calls.mono (within_ok HTT.out g e d 10 l.tail w.heap.size (w.heap.size + 1) _ h0 (by omega) HTL.out.ps HTL.out.h0 HTL.out.h1 HNO.out) ?_;rintro en w4 ⟨hk,hq⟩;rw [HR.out] at hq;simp only [PR.andThen] at hq;obtain ⟨v,rfl,hv,hp⟩:=hq;obtain ⟨y3,yc3,rfl⟩:=hv.form;have hzr:=HTL.out.hr.lt;replace HTL:=am (HTL.out.step hgw hk hp);clear c0 c1;have c0:=HTL.out.c0;have c1:=HTL.out.c1;clear hp;have hz3:=hzr;have hz4:=hk.size;have bA:=below_alloc (Below.refl w4.heap.size w4) (Obj.cells #[.int .i64 10,.string ⟨#[]⟩,.int .i64 0,.slice y3 1 yc3] 25);have HX:=am (Has.new w4 #[.int .i64 10,.string ⟨#[]⟩,.int .i64 0,.slice y3 1 yc3] 25);have h4g:w4.heap.size ≠ g:=(by (have:=HTL.out.ps.glt;omega));have HRB:=am ((VT.RB hv).below bA);replace HTL:=am (HTL.out.below bA);clear c0 c1;have c0:=HTL.out.c0;have c1:=HTL.out.c1;clear hk hv) | (go_at_call 42;(with_reducible refine (need_yes sSemi HTL.out.ps HS.out).mono ?_);rintro en w5 ⟨he,hk,hp⟩;subst he;replace HX:=am (Kept.has hk HX.out h4g);replace HRB:=am (HRB.out.kps HTL.out.ps hk);replace HTL:=am (HTL.out.step hgw hk hp);clear c0 c1;have c0:=HTL.out.c0;have c1:=HTL.out.c1;clear hk hp) | (go_at_call 64;(with_reducible refine Calls.mono (count_said g l1.tail e _ HTL.out.ps HNC.out) ?_);rintro en w6 ⟨hk,hq⟩;rw [HRC.out] at hq;obtain ⟨vv,rfl,rfl,hp⟩:=hq;replace HX:=am (Kept.has hk HX.out h4g);replace HRB:=am (HRB.out.kps HTL.out.ps hk);replace HTL:=am (HTL.out.step hgw hk hp);clear c0 c1;have c0:=HTL.out.c0;have c1:=HTL.out.c1;clear hk hp;have cx:=hci HX.out 2 rfl;have fx:=HX.out.frozen 2) | (go_at_call 42;have hx2:=HX.out.set_ 2 (.int .i64 vn);replace HRB:=am (HRB.out.set 2 (.int .i64 vn));replace HTL:=am (HTL.out.set HX.out (by omega) (by omega) 2 (.int .i64 vn));replace HX:=am hx2;clear hx2 cx fx;(with_reducible refine (need_no sRbra HTL.out.ps HJ.out).mono ?_);rintro en w7 ⟨he,hk⟩;subst he))
        rw [HE.out]
        exact ⟨rfl,HTL.out.kp.then_ hk,rfl⟩
       | true =>
        have HJ:=am hJ
        clear hJ
        have HE:Aside0 (R = .ok ⟨10,⟨#[]⟩,vn,[t]⟩ l3.tail):=⟨by rw [HEQ2.out];simp [needP,PR.andThen,HA.out,HC.out,HR.out,HS.out,HRC.out,HJ.out]⟩
        clear HEQ2
        go_wp2_with (first | (go_at_call 62;(with_reducible refine (deep_ok g l e d _ HTL.out.ps hd).mono ?_);rintro en w1 ⟨he,hk,hp⟩;subst he;have hzr:=HTL.out.hr.lt;replace HTL:=am (HTL.out.step hgw hk hp);clear c0 c1;have c0:=HTL.out.c0;have c1:=HTL.out.c1;clear hk hp hzr) | (go_at_call 41;(with_reducible refine (take_no sLpar HTL.out.ps HA.out).mono ?_);rintro en w2 ⟨he,hk,hp⟩;subst he;have hzr:=HTL.out.hr.lt;replace HTL:=am (HTL.out.step hgw hk hp);clear c0 c1;have c0:=HTL.out.c0;have c1:=HTL.out.c1;clear hk hp hzr) | (go_at_call 41;(with_reducible refine (take_yes sLbra HTL.out.ps HC.out).mono ?_);rintro en w2 ⟨he,hk,hp⟩;subst he;have hzr:=HTL.out.hr.lt;replace HTL:=am (HTL.out.step hgw hk hp);clear c0 c1;have c0:=HTL.out.c0;have c1:=HTL.out.c1;clear hk hp hzr) | (go_at_call 63;refine Calls.mono (within_ok HTT.out g e d 10 l.tail w.heap.size (w.heap.size + 1) _ h0 (by omega) HTL.out.ps HTL.out.h0 HTL.out.h1 HNO.out) ?_;rintro en w4 ⟨hk,hq⟩;rw [HR.out] at hq;simp only [PR.andThen] at hq;obtain ⟨v,rfl,hv,hp⟩:=hq;obtain ⟨y3,yc3,rfl⟩:=hv.form;have hzr:=HTL.out.hr.lt;replace HTL:=am (HTL.out.step hgw hk hp);clear c0 c1;have c0:=HTL.out.c0;have c1:=HTL.out.c1;clear hp;have hz3:=hzr;have hz4:=hk.size;have bA:=below_alloc (Below.refl w4.heap.size w4) (Obj.cells #[.int .i64 10,.string ⟨#[]⟩,.int .i64 0,.slice y3 1 yc3] 25);have HX:=am (Has.new w4 #[.int .i64 10,.string ⟨#[]⟩,.int .i64 0,.slice y3 1 yc3] 25);have h4g:w4.heap.size ≠ g:=(by (have:=HTL.out.ps.glt;omega));have HRB:=am ((VT.RB hv).below bA);replace HTL:=am (HTL.out.below bA);clear c0 c1;have c0:=HTL.out.c0;have c1:=HTL.out.c1;clear hk hv) | (go_at_call 42;(with_reducible refine (need_yes sSemi HTL.out.ps HS.out).mono ?_);rintro en w5 ⟨he,hk,hp⟩;subst he;replace HX:=am (Kept.has hk HX.out h4g);replace HRB:=am (HRB.out.kps HTL.out.ps hk);replace HTL:=am (HTL.out.step hgw hk hp);clear c0 c1;have c0:=HTL.out.c0;have c1:=HTL.out.c1;clear hk hp) | (go_at_call 64;(with_reducible refine Calls.mono (count_said g l1.tail e _ HTL.out.ps HNC.out) ?_);rintro en w6 ⟨hk,hq⟩;rw [HRC.out] at hq;obtain ⟨vv,rfl,rfl,hp⟩:=hq;replace HX:=am (Kept.has hk HX.out h4g);replace HRB:=am (HRB.out.kps HTL.out.ps hk);replace HTL:=am (HTL.out.step hgw hk hp);clear c0 c1;have c0:=HTL.out.c0;have c1:=HTL.out.c1;clear hk hp;have cx:=hci HX.out 2 rfl;have fx:=HX.out.frozen 2) | (go_at_call 42;have hx2:=HX.out.set_ 2 (.int .i64 vn);replace HRB:=am (HRB.out.set 2 (.int .i64 vn));replace HTL:=am (HTL.out.set HX.out (by omega) (by omega) 2 (.int .i64 vn));replace HX:=am hx2;clear hx2 cx fx;(with_reducible refine (need_yes sRbra HTL.out.ps HJ.out).mono ?_);rintro en w7 ⟨he,hk,hp⟩;subst he;replace HX:=am (Kept.has hk HX.out h4g);replace HRB:=am (HRB.out.kps HTL.out.ps hk);replace HTL:=am (HTL.out.step hgw hk hp);clear c0 c1;have c0:=HTL.out.c0;have c1:=HTL.out.c1;clear hk hp) | ((with_reducible refine gate_dst (N:=44) rfl ?_);go_must (refine Kd.event_run rfl (load25 w7 (w4.heap.size) #[.int .i64 10,.string ⟨#[]⟩,.int .i64 vn,.slice y3 1 yc3] HX.out rfl _ _ _ rfl rfl) ?_)) | ((with_reducible refine gate_store (t:=25) (p:=4) rfl ?_);go_must (refine store_event (t:=25) (p:=4) (v:=.tmp 44) (w1:=World.setRow w7 (w.heap.size + 1 + 1) #[.int .i64 10,.string ⟨#[]⟩,.int .i64 vn,.slice y3 1 yc3]) ?hg ?ho ?hn ?hr ?_;(case ho=>rfl);(case hg=>rfl);(case hn=>rfl);(case hr=>exact store25 w7 (w.heap.size + 1 + 1) _ _ HTL.out.hr rfl rfl (by first | kernel_rfl | (simp [Value.oneCell'])) _ _ _ _ rfl rfl rfl);intro w7 hw7;subst hw7)))
        refine bodyPost_ret (results_cell_row rfl _ _ (w.heap.size + 1 + 1) 25 #[.int .i64 10,.string ⟨#[]⟩,.int .i64 vn,.slice y3 1 yc3] (0,0) _ rfl (has_row HTL.out.hr _) Tryd.underlying25 rfl (by rfl)) rfl ?_
        rw [HE.out]
        exact ⟨kept_row HTL.out.kp (by omega) _,_,rfl,(show VT w.heap.size _ _ _ from ⟨_,rfl,Kd.R_lower (HRB.out.row (by omega) _) (by omega)⟩),HTL.out.ps.rowX HTL.out.hr (by decide) (by decide) _⟩
   | false =>
   have HC:=am hC
   clear hC
   cases hD:isP sAmp l with
   | true =>
    have HD:=am hD
    clear hD
    cases hM:isP sMut l.tail with
    | true =>
     have HM:=am hM
     clear hM
     cases hr:typP e n (d + 1) l.tail.tail with
     | out=>exact absurd (by rw [HEQ2.out];simp [PR.andThen,HA.out,HC.out,HD.out,HM.out,hr]) HNE.out
     | bad a er =>
      have HR:=am hr
      have HNO:=am (show typP e n (d + 1) l.tail.tail ≠ .out by rw [hr];exact PR.bad_ne _ _)
      clear hr
      have HE:Aside0 (R = .bad a er):=⟨by rw [HEQ2.out];simp [needP,PR.andThen,HA.out,HC.out,HD.out,HM.out,HR.out]⟩
      clear HEQ2
      go_wp2_with (first | (go_at_call 62;(with_reducible refine (deep_ok g l e d _ HTL.out.ps hd).mono ?_);rintro en w1 ⟨he,hk,hp⟩;subst he;have hzr:=HTL.out.hr.lt;replace HTL:=am (HTL.out.step hgw hk hp);clear c0 c1;have c0:=HTL.out.c0;have c1:=HTL.out.c1;clear hk hp hzr) | (go_at_call 41;(with_reducible refine (take_no sLpar HTL.out.ps HA.out).mono ?_);rintro en w2 ⟨he,hk,hp⟩;subst he;have hzr:=HTL.out.hr.lt;replace HTL:=am (HTL.out.step hgw hk hp);clear c0 c1;have c0:=HTL.out.c0;have c1:=HTL.out.c1;clear hk hp hzr) | (go_at_call 41;(with_reducible refine (take_no sLbra HTL.out.ps HC.out).mono ?_);rintro en w2 ⟨he,hk,hp⟩;subst he;have hzr:=HTL.out.hr.lt;replace HTL:=am (HTL.out.step hgw hk hp);clear c0 c1;have c0:=HTL.out.c0;have c1:=HTL.out.c1;clear hk hp hzr) | (go_at_call 41;(with_reducible refine (take_yes sAmp HTL.out.ps HD.out).mono ?_);rintro en w2 ⟨he,hk,hp⟩;subst he;have hzr:=HTL.out.hr.lt;replace HTL:=am (HTL.out.step hgw hk hp);clear c0 c1;have c0:=HTL.out.c0;have c1:=HTL.out.c1;clear hk hp hzr) | (go_at_call 41;(with_reducible refine (take_yes sMut HTL.out.ps HM.out).mono ?_);rintro en w2 ⟨he,hk,hp⟩;subst he;have hzr:=HTL.out.hr.lt;replace HTL:=am (HTL.out.step hgw hk hp);clear c0 c1;have c0:=HTL.out.c0;have c1:=HTL.out.c1;clear hk hp hzr) | (go_at_call 63;refine Calls.mono (within_ok HTT.out g e d 13 l.tail.tail w.heap.size (w.heap.size + 1) _ h0 (by omega) HTL.out.ps HTL.out.h0 HTL.out.h1 HNO.out) ?_;rintro en w4 ⟨hk,hq⟩;rw [HR.out] at hq;simp only [PR.andThen] at hq;subst hq))
      rw [HE.out]
      exact ⟨rfl,HTL.out.kp.then_ hk,rfl⟩
     | ok t l1 =>
      have HR:=am hr
      have HNO:=am (show typP e n (d + 1) l.tail.tail ≠ .out by rw [hr];exact PR.ok_ne _ _)
      clear hr
      have HE:Aside0 (R = .ok ⟨13,⟨#[]⟩,0,[t]⟩ l1):=⟨by rw [HEQ2.out];simp [needP,PR.andThen,HA.out,HC.out,HD.out,HM.out,HR.out]⟩
      clear HEQ2
      go_wp2_with (first | (go_at_call 62;(with_reducible refine (deep_ok g l e d _ HTL.out.ps hd).mono ?_);rintro en w1 ⟨he,hk,hp⟩;subst he;have hzr:=HTL.out.hr.lt;replace HTL:=am (HTL.out.step hgw hk hp);clear c0 c1;have c0:=HTL.out.c0;have c1:=HTL.out.c1;clear hk hp hzr) | (go_at_call 41;(with_reducible refine (take_no sLpar HTL.out.ps HA.out).mono ?_);rintro en w2 ⟨he,hk,hp⟩;subst he;have hzr:=HTL.out.hr.lt;replace HTL:=am (HTL.out.step hgw hk hp);clear c0 c1;have c0:=HTL.out.c0;have c1:=HTL.out.c1;clear hk hp hzr) | (go_at_call 41;(with_reducible refine (take_no sLbra HTL.out.ps HC.out).mono ?_);rintro en w2 ⟨he,hk,hp⟩;subst he;have hzr:=HTL.out.hr.lt;replace HTL:=am (HTL.out.step hgw hk hp);clear c0 c1;have c0:=HTL.out.c0;have c1:=HTL.out.c1;clear hk hp hzr) | (go_at_call 41;(with_reducible refine (take_yes sAmp HTL.out.ps HD.out).mono ?_);rintro en w2 ⟨he,hk,hp⟩;subst he;have hzr:=HTL.out.hr.lt;replace HTL:=am (HTL.out.step hgw hk hp);clear c0 c1;have c0:=HTL.out.c0;have c1:=HTL.out.c1;clear hk hp hzr) | (go_at_call 41;(with_reducible refine (take_yes sMut HTL.out.ps HM.out).mono ?_);rintro en w2 ⟨he,hk,hp⟩;subst he;have hzr:=HTL.out.hr.lt;replace HTL:=am (HTL.out.step hgw hk hp);clear c0 c1;have c0:=HTL.out.c0;have c1:=HTL.out.c1;clear hk hp hzr) | (go_at_call 63;refine Calls.mono (within_ok HTT.out g e d 13 l.tail.tail w.heap.size (w.heap.size + 1) _ h0 (by omega) HTL.out.ps HTL.out.h0 HTL.out.h1 HNO.out) ?_;rintro en w4 ⟨hk,hq⟩;rw [HR.out] at hq;simp only [PR.andThen] at hq;obtain ⟨v,rfl,hv,hp⟩:=hq;obtain ⟨y3,yc3,rfl⟩:=hv.form;have hzr:=HTL.out.hr.lt;replace HTL:=am (HTL.out.step hgw hk hp);clear c0 c1;have c0:=HTL.out.c0;have c1:=HTL.out.c1;clear hp) | ((with_reducible refine gate_store (t:=25) (p:=4) rfl ?_);go_must (refine store_event (t:=25) (p:=4) (v:=.tmp 51) (w1:=World.setRow w4 (w.heap.size + 1 + 1) #[.int .i64 13,.string ⟨#[]⟩,.int .i64 0,.slice y3 ([t]:List S25).length yc3]) ?hg ?ho ?hn ?hr ?_;(case ho=>rfl);(case hg=>rfl);(case hn=>rfl);(case hr=>exact store25 w4 (w.heap.size + 1 + 1) _ _ HTL.out.hr rfl rfl (by first | kernel_rfl | (simp [Value.oneCell'])) _ _ _ _ rfl rfl rfl);intro w7 hw7;subst hw7)))
      refine bodyPost_ret (results_cell_row rfl _ _ (w.heap.size + 1 + 1) 25 #[.int .i64 13,.string ⟨#[]⟩,.int .i64 0,.slice y3 ([t]:List S25).length yc3] (0,0) _ rfl (has_row HTL.out.hr _) Tryd.underlying25 rfl (by rfl)) rfl ?_
      rw [HE.out]
      exact ⟨kept_row HTL.out.kp (by omega) _,_,rfl,((hv.row (by omega) _).lower (by omega)),HTL.out.ps.rowX HTL.out.hr (by decide) (by decide) _⟩
    | false =>
     have HM:=am hM
     clear hM
     cases hr:typP e n (d + 1) l.tail with
     | out=>exact absurd (by rw [HEQ2.out];simp [PR.andThen,HA.out,HC.out,HD.out,HM.out,hr]) HNE.out
     | bad a er =>
      have HR:=am hr
      have HNO:=am (show typP e n (d + 1) l.tail ≠ .out by rw [hr];exact PR.bad_ne _ _)
      clear hr
      have HE:Aside0 (R = .bad a er):=⟨by rw [HEQ2.out];simp [needP,PR.andThen,HA.out,HC.out,HD.out,HM.out,HR.out]⟩
      clear HEQ2
      go_wp2_with (first | (go_at_call 62;(with_reducible refine (deep_ok g l e d _ HTL.out.ps hd).mono ?_);rintro en w1 ⟨he,hk,hp⟩;subst he;have hzr:=HTL.out.hr.lt;replace HTL:=am (HTL.out.step hgw hk hp);clear c0 c1;have c0:=HTL.out.c0;have c1:=HTL.out.c1;clear hk hp hzr) | (go_at_call 41;(with_reducible refine (take_no sLpar HTL.out.ps HA.out).mono ?_);rintro en w2 ⟨he,hk,hp⟩;subst he;have hzr:=HTL.out.hr.lt;replace HTL:=am (HTL.out.step hgw hk hp);clear c0 c1;have c0:=HTL.out.c0;have c1:=HTL.out.c1;clear hk hp hzr) | (go_at_call 41;(with_reducible refine (take_no sLbra HTL.out.ps HC.out).mono ?_);rintro en w2 ⟨he,hk,hp⟩;subst he;have hzr:=HTL.out.hr.lt;replace HTL:=am (HTL.out.step hgw hk hp);clear c0 c1;have c0:=HTL.out.c0;have c1:=HTL.out.c1;clear hk hp hzr) | (go_at_call 41;(with_reducible refine (take_yes sAmp HTL.out.ps HD.out).mono ?_);rintro en w2 ⟨he,hk,hp⟩;subst he;have hzr:=HTL.out.hr.lt;replace HTL:=am (HTL.out.step hgw hk hp);clear c0 c1;have c0:=HTL.out.c0;have c1:=HTL.out.c1;clear hk hp hzr) | (go_at_call 41;(with_reducible refine (take_no sMut HTL.out.ps HM.out).mono ?_);rintro en w2 ⟨he,hk,hp⟩;subst he;have hzr:=HTL.out.hr.lt;replace HTL:=am (HTL.out.step hgw hk hp);clear c0 c1;have c0:=HTL.out.c0;have c1:=HTL.out.c1;clear hk hp hzr) | (go_at_call 63;refine Calls.mono (within_ok HTT.out g e d 12 l.tail w.heap.size (w.heap.size + 1) _ h0 (by omega) HTL.out.ps HTL.out.h0 HTL.out.h1 HNO.out) ?_;rintro en w4 ⟨hk,hq⟩;rw [HR.out] at hq;simp only [PR.andThen] at hq;subst hq))
      rw [HE.out]
      exact ⟨rfl,HTL.out.kp.then_ hk,rfl⟩
     | ok t l1 =>
      have HR:=am hr
      have HNO:=am (show typP e n (d + 1) l.tail ≠ .out by rw [hr];exact PR.ok_ne _ _)
      clear hr
      have HE:Aside0 (R = .ok ⟨12,⟨#[]⟩,0,[t]⟩ l1):=⟨by rw [HEQ2.out];simp [needP,PR.andThen,HA.out,HC.out,HD.out,HM.out,HR.out]⟩
      clear HEQ2
      go_wp2_with (first | (go_at_call 62;(with_reducible refine (deep_ok g l e d _ HTL.out.ps hd).mono ?_);rintro en w1 ⟨he,hk,hp⟩;subst he;have hzr:=HTL.out.hr.lt;replace HTL:=am (HTL.out.step hgw hk hp);clear c0 c1;have c0:=HTL.out.c0;have c1:=HTL.out.c1;clear hk hp hzr) | (go_at_call 41;(with_reducible refine (take_no sLpar HTL.out.ps HA.out).mono ?_);rintro en w2 ⟨he,hk,hp⟩;subst he;have hzr:=HTL.out.hr.lt;replace HTL:=am (HTL.out.step hgw hk hp);clear c0 c1;have c0:=HTL.out.c0;have c1:=HTL.out.c1;clear hk hp hzr) | (go_at_call 41;(with_reducible refine (take_no sLbra HTL.out.ps HC.out).mono ?_);rintro en w2 ⟨he,hk,hp⟩;subst he;have hzr:=HTL.out.hr.lt;replace HTL:=am (HTL.out.step hgw hk hp);clear c0 c1;have c0:=HTL.out.c0;have c1:=HTL.out.c1;clear hk hp hzr) | (go_at_call 41;(with_reducible refine (take_yes sAmp HTL.out.ps HD.out).mono ?_);rintro en w2 ⟨he,hk,hp⟩;subst he;have hzr:=HTL.out.hr.lt;replace HTL:=am (HTL.out.step hgw hk hp);clear c0 c1;have c0:=HTL.out.c0;have c1:=HTL.out.c1;clear hk hp hzr) | (go_at_call 41;(with_reducible refine (take_no sMut HTL.out.ps HM.out).mono ?_);rintro en w2 ⟨he,hk,hp⟩;subst he;have hzr:=HTL.out.hr.lt;replace HTL:=am (HTL.out.step hgw hk hp);clear c0 c1;have c0:=HTL.out.c0;have c1:=HTL.out.c1;clear hk hp hzr) | (go_at_call 63;refine Calls.mono (within_ok HTT.out g e d 12 l.tail w.heap.size (w.heap.size + 1) _ h0 (by omega) HTL.out.ps HTL.out.h0 HTL.out.h1 HNO.out) ?_;rintro en w4 ⟨hk,hq⟩;rw [HR.out] at hq;simp only [PR.andThen] at hq;obtain ⟨v,rfl,hv,hp⟩:=hq;obtain ⟨y3,yc3,rfl⟩:=hv.form;have hzr:=HTL.out.hr.lt;replace HTL:=am (HTL.out.step hgw hk hp);clear c0 c1;have c0:=HTL.out.c0;have c1:=HTL.out.c1;clear hp) | ((with_reducible refine gate_store (t:=25) (p:=4) rfl ?_);go_must (refine store_event (t:=25) (p:=4) (v:=.tmp 53) (w1:=World.setRow w4 (w.heap.size + 1 + 1) #[.int .i64 12,.string ⟨#[]⟩,.int .i64 0,.slice y3 ([t]:List S25).length yc3]) ?hg ?ho ?hn ?hr ?_;(case ho=>rfl);(case hg=>rfl);(case hn=>rfl);(case hr=>exact store25 w4 (w.heap.size + 1 + 1) _ _ HTL.out.hr rfl rfl (by first | kernel_rfl | (simp [Value.oneCell'])) _ _ _ _ rfl rfl rfl);intro w7 hw7;subst hw7)))
      refine bodyPost_ret (results_cell_row rfl _ _ (w.heap.size + 1 + 1) 25 #[.int .i64 12,.string ⟨#[]⟩,.int .i64 0,.slice y3 ([t]:List S25).length yc3] (0,0) _ rfl (has_row HTL.out.hr _) Tryd.underlying25 rfl (by rfl)) rfl ?_
      rw [HE.out]
      exact ⟨kept_row HTL.out.kp (by omega) _,_,rfl,((hv.row (by omega) _).lower (by omega)),HTL.out.ps.rowX HTL.out.hr (by decide) (by decide) _⟩
   | false =>
   have HD:=am hD
   clear hD
   cases hr:nameP e l with
   | out=>exact absurd (by rw [HEQ2.out];simp [PR.andThen,HA.out,HC.out,HD.out,hr]) HNE.out
   | bad a er =>
    have HR:=am hr
    clear hr
    have HE:Aside0 (R = .bad a er):=⟨by rw [HEQ2.out];simp [needP,PR.andThen,HA.out,HC.out,HD.out,HR.out]⟩
    clear HEQ2
    go_wp2_with (first | (go_at_call 62;(with_reducible refine (deep_ok g l e d _ HTL.out.ps hd).mono ?_);rintro en w1 ⟨he,hk,hp⟩;subst he;have hzr:=HTL.out.hr.lt;replace HTL:=am (HTL.out.step hgw hk hp);clear c0 c1;have c0:=HTL.out.c0;have c1:=HTL.out.c1;clear hk hp hzr) | (go_at_call 41;(with_reducible refine (take_no sLpar HTL.out.ps HA.out).mono ?_);rintro en w2 ⟨he,hk,hp⟩;subst he;have hzr:=HTL.out.hr.lt;replace HTL:=am (HTL.out.step hgw hk hp);clear c0 c1;have c0:=HTL.out.c0;have c1:=HTL.out.c1;clear hk hp hzr) | (go_at_call 41;(with_reducible refine (take_no sLbra HTL.out.ps HC.out).mono ?_);rintro en w2 ⟨he,hk,hp⟩;subst he;have hzr:=HTL.out.hr.lt;replace HTL:=am (HTL.out.step hgw hk hp);clear c0 c1;have c0:=HTL.out.c0;have c1:=HTL.out.c1;clear hk hp hzr) | (go_at_call 41;(with_reducible refine (take_no sAmp HTL.out.ps HD.out).mono ?_);rintro en w2 ⟨he,hk,hp⟩;subst he;have hzr:=HTL.out.hr.lt;replace HTL:=am (HTL.out.step hgw hk hp);clear c0 c1;have c0:=HTL.out.c0;have c1:=HTL.out.c1;clear hk hp hzr) | (go_at_call 40;(with_reducible refine Calls.mono (name_said g l e _ HTL.out.ps) ?_);rintro en w3 ⟨hk,hq⟩;rw [HR.out] at hq;subst hq))
    rw [HE.out]
    exact ⟨rfl,HTL.out.kp.then_ hk,rfl⟩
   | ok s l1 =>
    have HR:=am hr
    clear hr
    cases hB:(s.toList == sBox.toList) with
    | true =>
     have hbx:sBox.toList = [66,111,120]:=by rw [ByteArray.toList_eq]
     rw [hbx] at hB
     have HB:Aside0 (s.toList = [66,111,120]):=⟨by simpa using hB⟩
     have hb1:=hB
     clear hB hbx
     have HR0:=HR
     clear HR
     cases hS:isP sLt l1 with
     | false =>
      have HS:=am hS
      clear hS
      have HE:Aside0 (R = .bad (atP e l1) 30):=⟨by rw [HEQ2.out];simp [needP,PR.andThen,HA.out,HC.out,HD.out,HR0.out,HB.out,HS.out]⟩
      clear HEQ2
      go_wp2_with (first | (go_at_call 62;(with_reducible refine (deep_ok g l e d _ HTL.out.ps hd).mono ?_);rintro en w1 ⟨he,hk,hp⟩;subst he;have hzr:=HTL.out.hr.lt;replace HTL:=am (HTL.out.step hgw hk hp);clear c0 c1;have c0:=HTL.out.c0;have c1:=HTL.out.c1;clear hk hp hzr) | (go_at_call 41;(with_reducible refine (take_no sLpar HTL.out.ps HA.out).mono ?_);rintro en w2 ⟨he,hk,hp⟩;subst he;have hzr:=HTL.out.hr.lt;replace HTL:=am (HTL.out.step hgw hk hp);clear c0 c1;have c0:=HTL.out.c0;have c1:=HTL.out.c1;clear hk hp hzr) | (go_at_call 41;(with_reducible refine (take_no sLbra HTL.out.ps HC.out).mono ?_);rintro en w2 ⟨he,hk,hp⟩;subst he;have hzr:=HTL.out.hr.lt;replace HTL:=am (HTL.out.step hgw hk hp);clear c0 c1;have c0:=HTL.out.c0;have c1:=HTL.out.c1;clear hk hp hzr) | (go_at_call 41;(with_reducible refine (take_no sAmp HTL.out.ps HD.out).mono ?_);rintro en w2 ⟨he,hk,hp⟩;subst he;have hzr:=HTL.out.hr.lt;replace HTL:=am (HTL.out.step hgw hk hp);clear c0 c1;have c0:=HTL.out.c0;have c1:=HTL.out.c1;clear hk hp hzr) | (go_at_call 40;(with_reducible refine Calls.mono (name_said g l e _ HTL.out.ps) ?_);rintro en w3 ⟨hk,hq⟩;rw [HR0.out] at hq;obtain ⟨v,rfl,rfl,hp⟩:=hq;have hzr:=HTL.out.hr.lt;replace HTL:=am (HTL.out.step hgw hk hp);clear c0 c1;have c0:=HTL.out.c0;have c1:=HTL.out.c1;clear hk hp hzr) | (go_at_call 42;(with_reducible refine (need_no sLt HTL.out.ps HS.out).mono ?_);rintro en w4 ⟨he,hk⟩;subst he))
      rw [HE.out]
      exact ⟨rfl,HTL.out.kp.then_ hk,rfl⟩
     | true =>
      have HS:=am hS
      clear hS
      cases hr:typP e n (d + 1) l1.tail with
      | out=>exact absurd (by rw [HEQ2.out];simp [needP,PR.andThen,HA.out,HC.out,HD.out,HR0.out,HB.out,HS.out,hr]) HNE.out
      | bad a er =>
       have HR:=am hr
       have HNO:=am (show typP e n (d + 1) l1.tail ≠ .out by rw [hr];exact PR.bad_ne _ _)
       clear hr
       have HE:Aside0 (R = .bad a er):=⟨by rw [HEQ2.out];simp [needP,PR.andThen,HA.out,HC.out,HD.out,HR0.out,HB.out,HS.out,HR.out]⟩
       clear HEQ2
       go_wp2_with (first | (go_at_call 62;(with_reducible refine (deep_ok g l e d _ HTL.out.ps hd).mono ?_);rintro en w1 ⟨he,hk,hp⟩;subst he;have hzr:=HTL.out.hr.lt;replace HTL:=am (HTL.out.step hgw hk hp);clear c0 c1;have c0:=HTL.out.c0;have c1:=HTL.out.c1;clear hk hp hzr) | (go_at_call 41;(with_reducible refine (take_no sLpar HTL.out.ps HA.out).mono ?_);rintro en w2 ⟨he,hk,hp⟩;subst he;have hzr:=HTL.out.hr.lt;replace HTL:=am (HTL.out.step hgw hk hp);clear c0 c1;have c0:=HTL.out.c0;have c1:=HTL.out.c1;clear hk hp hzr) | (go_at_call 41;(with_reducible refine (take_no sLbra HTL.out.ps HC.out).mono ?_);rintro en w2 ⟨he,hk,hp⟩;subst he;have hzr:=HTL.out.hr.lt;replace HTL:=am (HTL.out.step hgw hk hp);clear c0 c1;have c0:=HTL.out.c0;have c1:=HTL.out.c1;clear hk hp hzr) | (go_at_call 41;(with_reducible refine (take_no sAmp HTL.out.ps HD.out).mono ?_);rintro en w2 ⟨he,hk,hp⟩;subst he;have hzr:=HTL.out.hr.lt;replace HTL:=am (HTL.out.step hgw hk hp);clear c0 c1;have c0:=HTL.out.c0;have c1:=HTL.out.c1;clear hk hp hzr) | (go_at_call 40;(with_reducible refine Calls.mono (name_said g l e _ HTL.out.ps) ?_);rintro en w3 ⟨hk,hq⟩;rw [HR0.out] at hq;obtain ⟨v,rfl,rfl,hp⟩:=hq;have hzr:=HTL.out.hr.lt;replace HTL:=am (HTL.out.step hgw hk hp);clear c0 c1;have c0:=HTL.out.c0;have c1:=HTL.out.c1;clear hk hp hzr) | (go_at_call 42;(with_reducible refine (need_yes sLt HTL.out.ps HS.out).mono ?_);rintro en w3 ⟨he,hk,hp⟩;subst he;have hzr:=HTL.out.hr.lt;replace HTL:=am (HTL.out.step hgw hk hp);clear c0 c1;have c0:=HTL.out.c0;have c1:=HTL.out.c1;clear hk hp hzr) | (go_at_call 63;refine Calls.mono (within_ok HTT.out g e d 11 l1.tail w.heap.size (w.heap.size + 1) _ h0 (by omega) HTL.out.ps HTL.out.h0 HTL.out.h1 HNO.out) ?_;rintro en w4 ⟨hk,hq⟩;rw [HR.out] at hq;simp only [PR.andThen] at hq;subst hq))
       rw [HE.out]
       exact ⟨rfl,HTL.out.kp.then_ hk,rfl⟩
      | ok t l3 =>
       have HR:=am hr
       have HNO:=am (show typP e n (d + 1) l1.tail ≠ .out by rw [hr];exact PR.ok_ne _ _)
       clear hr
       cases hc:closeP e l3 with
       | out=>exact absurd (by rw [HEQ2.out];simp [needP,PR.andThen,HA.out,HC.out,HD.out,HR0.out,HB.out,HS.out,HR.out,hc]) HNE.out
       | bad a er =>
        have HRC:=am hc
        have HNC:=am (show closeP e l3 ≠ .out by rw [hc];exact PR.bad_ne _ _)
        clear hc
        have HE:Aside0 (R = .bad a er):=⟨by rw [HEQ2.out];simp [needP,PR.andThen,HA.out,HC.out,HD.out,HR0.out,HB.out,HS.out,HR.out,HRC.out]⟩
        clear HEQ2
        go_wp2_with (first | (go_at_call 62;(with_reducible refine (deep_ok g l e d _ HTL.out.ps hd).mono ?_);rintro en w1 ⟨he,hk,hp⟩;subst he;have hzr:=HTL.out.hr.lt;replace HTL:=am (HTL.out.step hgw hk hp);clear c0 c1;have c0:=HTL.out.c0;have c1:=HTL.out.c1;clear hk hp hzr) | (go_at_call 41;(with_reducible refine (take_no sLpar HTL.out.ps HA.out).mono ?_);rintro en w2 ⟨he,hk,hp⟩;subst he;have hzr:=HTL.out.hr.lt;replace HTL:=am (HTL.out.step hgw hk hp);clear c0 c1;have c0:=HTL.out.c0;have c1:=HTL.out.c1;clear hk hp hzr) | (go_at_call 41;(with_reducible refine (take_no sLbra HTL.out.ps HC.out).mono ?_);rintro en w2 ⟨he,hk,hp⟩;subst he;have hzr:=HTL.out.hr.lt;replace HTL:=am (HTL.out.step hgw hk hp);clear c0 c1;have c0:=HTL.out.c0;have c1:=HTL.out.c1;clear hk hp hzr) | (go_at_call 41;(with_reducible refine (take_no sAmp HTL.out.ps HD.out).mono ?_);rintro en w2 ⟨he,hk,hp⟩;subst he;have hzr:=HTL.out.hr.lt;replace HTL:=am (HTL.out.step hgw hk hp);clear c0 c1;have c0:=HTL.out.c0;have c1:=HTL.out.c1;clear hk hp hzr) | (go_at_call 40;(with_reducible refine Calls.mono (name_said g l e _ HTL.out.ps) ?_);rintro en w3 ⟨hk,hq⟩;rw [HR0.out] at hq;obtain ⟨v,rfl,rfl,hp⟩:=hq;have hzr:=HTL.out.hr.lt;replace HTL:=am (HTL.out.step hgw hk hp);clear c0 c1;have c0:=HTL.out.c0;have c1:=HTL.out.c1;clear hk hp hzr) | (go_at_call 42;(with_reducible refine (need_yes sLt HTL.out.ps HS.out).mono ?_);rintro en w3 ⟨he,hk,hp⟩;subst he;have hzr:=HTL.out.hr.lt;replace HTL:=am (HTL.out.step hgw hk hp);clear c0 c1;have c0:=HTL.out.c0;have c1:=HTL.out.c1;clear hk hp hzr) | (go_at_call 63;refine Calls.mono (within_ok HTT.out g e d 11 l1.tail w.heap.size (w.heap.size + 1) _ h0 (by omega) HTL.out.ps HTL.out.h0 HTL.out.h1 HNO.out) ?_;rintro en w4 ⟨hk,hq⟩;rw [HR.out] at hq;simp only [PR.andThen] at hq;obtain ⟨v,rfl,hv,hp⟩:=hq;obtain ⟨y3,yc3,rfl⟩:=hv.form;have hzr:=HTL.out.hr.lt;replace HTL:=am (HTL.out.step hgw hk hp);clear c0 c1;have c0:=HTL.out.c0;have c1:=HTL.out.c1;clear hp;have hz3:=hzr;have hz4:=hk.size;have bA:=below_alloc (Below.refl w4.heap.size w4) (Obj.cells #[.int .i64 11,.string ⟨#[]⟩,.int .i64 0,.slice y3 1 yc3] 25);have HX:=am (Has.new w4 #[.int .i64 11,.string ⟨#[]⟩,.int .i64 0,.slice y3 1 yc3] 25);have h4g:w4.heap.size ≠ g:=(by (have:=HTL.out.ps.glt;omega));have HRB:=am ((VT.RB hv).below bA);replace HTL:=am (HTL.out.below bA);clear c0 c1;have c0:=HTL.out.c0;have c1:=HTL.out.c1;clear hk hv) | (go_at_call 65;(with_reducible refine Calls.mono (close_said g l3 e _ HTL.out.ps HNC.out) ?_);rintro en w6 ⟨hk,hq⟩;rw [HRC.out] at hq;subst hq))
        rw [HE.out]
        exact ⟨rfl,HTL.out.kp.then_ hk,rfl⟩
       | ok u l4 =>
        have HRC:=am hc
        have HNC:=am (show closeP e l3 ≠ .out by rw [hc];exact PR.ok_ne _ _)
        clear hc
        have HE:Aside0 (R = .ok ⟨11,⟨#[]⟩,0,[t]⟩ l4):=⟨by rw [HEQ2.out];simp [needP,PR.andThen,HA.out,HC.out,HD.out,HR0.out,HB.out,HS.out,HR.out,HRC.out]⟩
        clear HEQ2
        go_wp2_with (first | (go_at_call 62;(with_reducible refine (deep_ok g l e d _ HTL.out.ps hd).mono ?_);rintro en w1 ⟨he,hk,hp⟩;subst he;have hzr:=HTL.out.hr.lt;replace HTL:=am (HTL.out.step hgw hk hp);clear c0 c1;have c0:=HTL.out.c0;have c1:=HTL.out.c1;clear hk hp hzr) | (go_at_call 41;(with_reducible refine (take_no sLpar HTL.out.ps HA.out).mono ?_);rintro en w2 ⟨he,hk,hp⟩;subst he;have hzr:=HTL.out.hr.lt;replace HTL:=am (HTL.out.step hgw hk hp);clear c0 c1;have c0:=HTL.out.c0;have c1:=HTL.out.c1;clear hk hp hzr) | (go_at_call 41;(with_reducible refine (take_no sLbra HTL.out.ps HC.out).mono ?_);rintro en w2 ⟨he,hk,hp⟩;subst he;have hzr:=HTL.out.hr.lt;replace HTL:=am (HTL.out.step hgw hk hp);clear c0 c1;have c0:=HTL.out.c0;have c1:=HTL.out.c1;clear hk hp hzr) | (go_at_call 41;(with_reducible refine (take_no sAmp HTL.out.ps HD.out).mono ?_);rintro en w2 ⟨he,hk,hp⟩;subst he;have hzr:=HTL.out.hr.lt;replace HTL:=am (HTL.out.step hgw hk hp);clear c0 c1;have c0:=HTL.out.c0;have c1:=HTL.out.c1;clear hk hp hzr) | (go_at_call 40;(with_reducible refine Calls.mono (name_said g l e _ HTL.out.ps) ?_);rintro en w3 ⟨hk,hq⟩;rw [HR0.out] at hq;obtain ⟨v,rfl,rfl,hp⟩:=hq;have hzr:=HTL.out.hr.lt;replace HTL:=am (HTL.out.step hgw hk hp);clear c0 c1;have c0:=HTL.out.c0;have c1:=HTL.out.c1;clear hk hp hzr) | (go_at_call 42;(with_reducible refine (need_yes sLt HTL.out.ps HS.out).mono ?_);rintro en w3 ⟨he,hk,hp⟩;subst he;have hzr:=HTL.out.hr.lt;replace HTL:=am (HTL.out.step hgw hk hp);clear c0 c1;have c0:=HTL.out.c0;have c1:=HTL.out.c1;clear hk hp hzr) | (go_at_call 63;refine Calls.mono (within_ok HTT.out g e d 11 l1.tail w.heap.size (w.heap.size + 1) _ h0 (by omega) HTL.out.ps HTL.out.h0 HTL.out.h1 HNO.out) ?_;rintro en w4 ⟨hk,hq⟩;rw [HR.out] at hq;simp only [PR.andThen] at hq;obtain ⟨v,rfl,hv,hp⟩:=hq;obtain ⟨y3,yc3,rfl⟩:=hv.form;have hzr:=HTL.out.hr.lt;replace HTL:=am (HTL.out.step hgw hk hp);clear c0 c1;have c0:=HTL.out.c0;have c1:=HTL.out.c1;clear hp;have hz3:=hzr;have hz4:=hk.size;have bA:=below_alloc (Below.refl w4.heap.size w4) (Obj.cells #[.int .i64 11,.string ⟨#[]⟩,.int .i64 0,.slice y3 1 yc3] 25);have HX:=am (Has.new w4 #[.int .i64 11,.string ⟨#[]⟩,.int .i64 0,.slice y3 1 yc3] 25);have h4g:w4.heap.size ≠ g:=(by (have:=HTL.out.ps.glt;omega));have HRB:=am ((VT.RB hv).below bA);replace HTL:=am (HTL.out.below bA);clear c0 c1;have c0:=HTL.out.c0;have c1:=HTL.out.c1;clear hk hv) | (go_at_call 65;(with_reducible refine Calls.mono (close_said g l3 e _ HTL.out.ps HNC.out) ?_);rintro en w6 ⟨hk,hq⟩;rw [HRC.out] at hq;obtain ⟨vv,rfl,rfl,hp⟩:=hq;replace HX:=am (Kept.has hk HX.out h4g);replace HRB:=am (HRB.out.kps HTL.out.ps hk);replace HTL:=am (HTL.out.step hgw hk hp);clear c0 c1;have c0:=HTL.out.c0;have c1:=HTL.out.c1;clear hk hp) | ((with_reducible refine gate_dst (N:=64) rfl ?_);go_must (refine Kd.event_run rfl (load25 w6 (w4.heap.size) #[.int .i64 11,.string ⟨#[]⟩,.int .i64 0,.slice y3 1 yc3] HX.out rfl _ _ _ rfl rfl) ?_)) | ((with_reducible refine gate_store (t:=25) (p:=4) rfl ?_);go_must (refine store_event (t:=25) (p:=4) (v:=.tmp 64) (w1:=World.setRow w6 (w.heap.size + 1 + 1) #[.int .i64 11,.string ⟨#[]⟩,.int .i64 0,.slice y3 1 yc3]) ?hg ?ho ?hn ?hr ?_;(case ho=>rfl);(case hg=>rfl);(case hn=>rfl);(case hr=>exact store25 w6 (w.heap.size + 1 + 1) _ _ HTL.out.hr rfl rfl (by first | kernel_rfl | (simp [Value.oneCell'])) _ _ _ _ rfl rfl rfl);intro w7 hw7;subst hw7)))
        refine bodyPost_ret (results_cell_row rfl _ _ (w.heap.size + 1 + 1) 25 #[.int .i64 11,.string ⟨#[]⟩,.int .i64 0,.slice y3 1 yc3] (0,0) _ rfl (has_row HTL.out.hr _) Tryd.underlying25 rfl (by rfl)) rfl ?_
        rw [HE.out]
        exact ⟨kept_row HTL.out.kp (by omega) _,_,rfl,(show VT w.heap.size _ _ _ from ⟨_,rfl,Kd.R_lower (HRB.out.row (by omega) _) (by omega)⟩),HTL.out.ps.rowX HTL.out.hr (by decide) (by decide) _⟩
    | false =>
     have hbx:sBox.toList = [66,111,120]:=by rw [ByteArray.toList_eq]
     rw [hbx] at hB
     have HB:Aside0 (¬ s.toList = [66,111,120]):=⟨by simpa using hB⟩
     have hb1:=hB
     clear hB hbx
     have hsz:s.size <= maxLen:=name_size HTL.out.ps HR.out
     cases ht:tykP s.toList with
     | none =>
      have HT9:=am ht
      have HH:Aside0 (Go.Maps.has kindsD (.string s.data.toList) = false):=⟨by rw [kinds_has, <- ByteArray.toList_eq,ht];rfl⟩
      clear ht
      have HE:Aside0 (R = .ok ⟨9,s,0,[]⟩ l1):=⟨by rw [HEQ2.out];simp [needP,PR.andThen,HA.out,HC.out,HD.out,HR.out,HB.out,HT9.out]⟩
      clear HEQ2
      go_wp2_with (first | (go_at_call 62;(with_reducible refine (deep_ok g l e d _ HTL.out.ps hd).mono ?_);rintro en w1 ⟨he,hk,hp⟩;subst he;have hzr:=HTL.out.hr.lt;replace HTL:=am (HTL.out.step hgw hk hp);clear c0 c1;have c0:=HTL.out.c0;have c1:=HTL.out.c1;clear hk hp hzr) | (go_at_call 41;(with_reducible refine (take_no sLpar HTL.out.ps HA.out).mono ?_);rintro en w2 ⟨he,hk,hp⟩;subst he;have hzr:=HTL.out.hr.lt;replace HTL:=am (HTL.out.step hgw hk hp);clear c0 c1;have c0:=HTL.out.c0;have c1:=HTL.out.c1;clear hk hp hzr) | (go_at_call 41;(with_reducible refine (take_no sLbra HTL.out.ps HC.out).mono ?_);rintro en w2 ⟨he,hk,hp⟩;subst he;have hzr:=HTL.out.hr.lt;replace HTL:=am (HTL.out.step hgw hk hp);clear c0 c1;have c0:=HTL.out.c0;have c1:=HTL.out.c1;clear hk hp hzr) | (go_at_call 41;(with_reducible refine (take_no sAmp HTL.out.ps HD.out).mono ?_);rintro en w2 ⟨he,hk,hp⟩;subst he;have hzr:=HTL.out.hr.lt;replace HTL:=am (HTL.out.step hgw hk hp);clear c0 c1;have c0:=HTL.out.c0;have c1:=HTL.out.c1;clear hk hp hzr) | (go_at_call 40;(with_reducible refine Calls.mono (name_said g l e _ HTL.out.ps) ?_);rintro en w3 ⟨hk,hq⟩;rw [HR.out] at hq;obtain ⟨v,rfl,rfl,hp⟩:=hq;have hzr:=HTL.out.hr.lt;replace HTL:=am (HTL.out.step hgw hk hp);clear c0 c1;have c0:=HTL.out.c0;have c1:=HTL.out.c1;clear hk hp hzr) | (go_at_call 66;(with_reducible refine Calls.mono (kinds_said _) ?_);rintro en w5 ⟨b,rfl,hm,hb⟩;replace HTL:=am (HTL.out.below hb);clear c0 c1;have c0:=HTL.out.c0;have c1:=HTL.out.c1;clear hb) | (refine wpList_lookup_own_ok_int _ rfl (.tmp 66) (.tmp 67) 101 rfl 9 3 .i64 law9 Tryd.underlying101 Tryd.underlying3 (by kernel_rfl) b 7 _ rfl hm (.string s) _ rfl (keyOf_string_mk Tryd.underlying9 hsz) ?_;intro c9 hat hwf;rw [HH.out];clear hwf hm) | ((with_reducible refine gate_store (t:=25) (p:=4) rfl ?_);go_must (refine store_event (t:=25) (p:=4) (v:=.tmp 75) (w1:=World.setRow w5 (w.heap.size + 1 + 1) #[.int .i64 9,.string s,.int .i64 0,.slice none 0 0]) ?hg ?ho ?hn ?hr ?_;(case ho=>rfl);(case hg=>rfl);(case hn=>rfl);(case hr=>exact store25 w5 (w.heap.size + 1 + 1) _ _ HTL.out.hr rfl rfl (by first | kernel_rfl | (simp [Value.oneCell'])) _ _ _ _ rfl rfl rfl);intro w7 hw7;subst hw7)))
      refine bodyPost_ret (results_cell_row rfl _ _ (w.heap.size + 1 + 1) 25 #[.int .i64 9,.string s,.int .i64 0,.slice none 0 0] (0,0) _ rfl (has_row HTL.out.hr _) Tryd.underlying25 rfl (by rfl)) rfl ?_
      rw [HE.out]
      exact ⟨kept_row HTL.out.kp (by omega) _,_,rfl,VT.leaf _ _ 9 0 s,HTL.out.ps.rowX HTL.out.hr (by decide) (by decide) _⟩
     | some k =>
      have HT9:=am ht
      have HH:Aside0 (Go.Maps.has kindsD (.string s.data.toList) = true):=⟨by rw [kinds_has, <- ByteArray.toList_eq,ht];rfl⟩
      clear ht
      have HE:Aside0 (R = .ok ⟨k,⟨#[]⟩,0,[]⟩ l1):=⟨by rw [HEQ2.out];simp [needP,PR.andThen,HA.out,HC.out,HD.out,HR.out,HB.out,HT9.out]⟩
      clear HEQ2
      go_wp2_with (first | (go_at_call 62;(with_reducible refine (deep_ok g l e d _ HTL.out.ps hd).mono ?_);rintro en w1 ⟨he,hk,hp⟩;subst he;have hzr:=HTL.out.hr.lt;replace HTL:=am (HTL.out.step hgw hk hp);clear c0 c1;have c0:=HTL.out.c0;have c1:=HTL.out.c1;clear hk hp hzr) | (go_at_call 41;(with_reducible refine (take_no sLpar HTL.out.ps HA.out).mono ?_);rintro en w2 ⟨he,hk,hp⟩;subst he;have hzr:=HTL.out.hr.lt;replace HTL:=am (HTL.out.step hgw hk hp);clear c0 c1;have c0:=HTL.out.c0;have c1:=HTL.out.c1;clear hk hp hzr) | (go_at_call 41;(with_reducible refine (take_no sLbra HTL.out.ps HC.out).mono ?_);rintro en w2 ⟨he,hk,hp⟩;subst he;have hzr:=HTL.out.hr.lt;replace HTL:=am (HTL.out.step hgw hk hp);clear c0 c1;have c0:=HTL.out.c0;have c1:=HTL.out.c1;clear hk hp hzr) | (go_at_call 41;(with_reducible refine (take_no sAmp HTL.out.ps HD.out).mono ?_);rintro en w2 ⟨he,hk,hp⟩;subst he;have hzr:=HTL.out.hr.lt;replace HTL:=am (HTL.out.step hgw hk hp);clear c0 c1;have c0:=HTL.out.c0;have c1:=HTL.out.c1;clear hk hp hzr) | (go_at_call 40;(with_reducible refine Calls.mono (name_said g l e _ HTL.out.ps) ?_);rintro en w3 ⟨hk,hq⟩;rw [HR.out] at hq;obtain ⟨v,rfl,rfl,hp⟩:=hq;have hzr:=HTL.out.hr.lt;replace HTL:=am (HTL.out.step hgw hk hp);clear c0 c1;have c0:=HTL.out.c0;have c1:=HTL.out.c1;clear hk hp hzr) | (go_at_call 66;(with_reducible refine Calls.mono (kinds_said _) ?_);rintro en w5 ⟨b,rfl,hm,hb⟩;replace HTL:=am (HTL.out.below hb);clear c0 c1;have c0:=HTL.out.c0;have c1:=HTL.out.c1;clear hb) | (refine wpList_lookup_own_ok_int _ rfl (.tmp 66) (.tmp 67) 101 rfl 9 3 .i64 law9 Tryd.underlying101 Tryd.underlying3 (by kernel_rfl) b 7 _ rfl hm (.string s) _ rfl (keyOf_string_mk Tryd.underlying9 hsz) ?_;intro c9 hat hwf;rw [HH.out];clear hwf hm;obtain rfl:k = c9:=(by have h:=(kinds_at s.data.toList).symm.trans hat;rw [<- ByteArray.toList_eq,HT9.out] at h;injection h with h;injection h with _ h)) | ((with_reducible refine gate_store (t:=25) (p:=4) rfl ?_);go_must (refine store_event (t:=25) (p:=4) (v:=.tmp 73) (w1:=World.setRow w5 (w.heap.size + 1 + 1) #[.int .i64 k,.string ⟨#[]⟩,.int .i64 0,.slice none 0 0]) ?hg ?ho ?hn ?hr ?_;(case ho=>rfl);(case hg=>rfl);(case hn=>rfl);(case hr=>exact store25 w5 (w.heap.size + 1 + 1) _ _ HTL.out.hr rfl rfl (by first | kernel_rfl | (simp [Value.oneCell'])) _ _ _ _ rfl rfl rfl);intro w7 hw7;subst hw7)))
      refine bodyPost_ret (results_cell_row rfl _ _ (w.heap.size + 1 + 1) 25 #[.int .i64 k,.string ⟨#[]⟩,.int .i64 0,.slice none 0 0] (0,0) _ rfl (has_row HTL.out.hr _) Tryd.underlying25 rfl (by rfl)) rfl ?_
      rw [HE.out]
      exact ⟨kept_row HTL.out.kp (by omega) _,_,rfl,VT.leaf _ _ _ 0 ⟨#[]⟩,HTL.out.ps.rowX HTL.out.hr (by decide) (by decide) _⟩
end Go.Proofs.YtngpgdmafmkddaaDoor.Par
end
section
namespace Go.Proofs.YtngpgdmafmkddaaDoor.Par
open Go.Proofs.YtngpgdmafmkddaaDoor.Calm Go.RowKit Go.Proofs.YtngpgdmafmkddaaDoorW.PrintWords Go.Proofs.YtngpgdmafmkddaaDoorW.PrintLast Go.Proofs.YtngpgdmafmkddaaDoorW.PrintMore
open Go.Proofs.YtngpgdmafmkddaaDoor.PParseBlanks (S35 S25 S27 k35 k25 k27 rd_T35 rd_T25 rd_T27 at_T35 at_T25 at_T27)
set_option linter.unusedVariables false
set_option linter.unusedSimpArgs false
theorem ER.go {w:World} {f:FuncId} {args:Array Value} {r:Result Next} (h:r = .ok (.enter f args) w):ER w f args r:=⟨h⟩
theorem PPost.ways {α:Type} {g:Nat} {e:Int} {V:World -> Value -> α -> Prop} {r:PR α} {w w' : World} {en:Ending} (h:PPost g e V r w en w') :
  (∃ v x l,r = .ok x l /\ en = .returned v /\ KeptG g w w' /\ V w' v x /\ PS w' g l e) \/ (∃ a er,r = .bad a er /\ en = .panicked [stopE a er] /\ KeptG g w w'):=by
 obtain ⟨hk,h⟩:=h
 cases r with
 | ok x l=>obtain ⟨v,he,hv,hp⟩:=h;exact .inl ⟨v,x,l,rfl,he,hk,hv,hp⟩
 | bad a er=>exact .inr ⟨a,er,rfl,h,hk⟩
 | out=>exact h.elim
structure BL (g B b r0:Nat) (e:Int) (w wr:World) (x:S27) (v:Value) (l:List S35):Prop where
 vo:VO (fun k=>k ≠ b /\ k ≠ r0) B wr v x
 hb:∃ cs,v = .agg cs /\ Has wr b cs 27
 hr:Has wr r0 #[.int .i64 0,.int .i64 0,.int .i64 0,.string ⟨#[]⟩,.slice none 0 0,.slice none 0 0,.int .i64 0,.string ⟨#[]⟩,.int .i64 0,.slice none 0 0] 27
 ps:PS wr g l e
 kp:KeptG g w wr
theorem BL.below {g B b r0:Nat} {e:Int} {w wr w' : World} {x:S27} {v:Value} {l:List S35} (H:BL g B b r0 e w wr x v l) (hb:Below wr.heap.size wr w'):BL g B b r0 e w w' x v l:=by
 obtain ⟨h1,⟨cs,h2,h3⟩,h4,h5,h6⟩:=H
 exact ⟨h1.below hb,⟨cs,h2,h3.belowS hb⟩,h4.belowS hb,h5.below hb,h6.below hb⟩
theorem BL.step {g B b r0:Nat} {e:Int} {w wr w' : World} {x:S27} {v:Value} {l l' : List S35} (H:BL g B b r0 e w wr x v l) (hbg:b ≠ g) (hrg:r0 ≠ g) (hk:KeptG g wr w') (hp:PS w' g l' e):BL g B b r0 e w w' x v l':=by
 obtain ⟨h1,⟨cs,h2,h3⟩,h4,h5,h6⟩:=H
 exact ⟨h1.kps h5 hk,⟨cs,h2,Kept.has hk h3 hbg⟩,Kept.has hk h4 hrg,hp,h6.then_ hk⟩
theorem BL.box {g B b r0:Nat} {e:Int} {w wr:World} {x:S27} {cs:Array Value} {l:List S35} (H:BL g B b r0 e w wr x (.agg cs) l):Has wr b cs 27:=by
 obtain ⟨cs',h,h2⟩:=H.hb
 injection h with h
 exact h ▸ h2
set_option maxRecDepth 100000 in
set_option maxHeartbeats 4000000 in
theorem behind_ok (n:Nat) (HTR:∀ m,m < n + 1 -> TreeOK m):BehindOK (n + 1):=by
 intro g e d x v B l w h0 h1 HP HVX hB hne
 unfold TreeOK at HTR
 have HTR:=am HTR
 have hu27:=Tryd.underlying27
 have HNE:=am hne
 obtain ⟨R,hR⟩:∃ R,behindP e (n + 1) d x l = R:=⟨_,rfl⟩
 rw [hR] at HNE ⊢
 obtain ⟨a4,ac4,a5,ac5,a9,ac9,rfl⟩:=HVX.form
 have B1:=below_alloc (below_alloc (Below.refl w.heap.size w) (Obj.cells #[.int .i64 x.f0,.int .i64 x.f1,.int .i64 x.f2,.string x.f3,.slice a4 x.f4.length ac4,.slice a5 x.f5.length ac5,.int .i64 x.f6.f0,.string x.f6.f1,.int .i64 x.f6.f2,.slice a9 x.f6.f3.length ac9] 27)) (Obj.cells #[.int .i64 0,.int .i64 0,.int .i64 0,.string ⟨#[]⟩,.slice none 0 0,.slice none 0 0,.int .i64 0,.string ⟨#[]⟩,.int .i64 0,.slice none 0 0] 27)
 have hz1:(w.alloc (Obj.cells #[.int .i64 x.f0,.int .i64 x.f1,.int .i64 x.f2,.string x.f3,.slice a4 x.f4.length ac4,.slice a5 x.f5.length ac5,.int .i64 x.f6.f0,.string x.f6.f1,.int .i64 x.f6.f2,.slice a9 x.f6.f3.length ac9] 27)).heap.size = w.heap.size + 1:=by simp
 have HBL:BL g B w.heap.size (w.heap.size + 1) e w ((w.alloc (Obj.cells #[.int .i64 x.f0,.int .i64 x.f1,.int .i64 x.f2,.string x.f3,.slice a4 x.f4.length ac4,.slice a5 x.f5.length ac5,.int .i64 x.f6.f0,.string x.f6.f1,.int .i64 x.f6.f2,.slice a9 x.f6.f3.length ac9] 27)).alloc (Obj.cells #[.int .i64 0,.int .i64 0,.int .i64 0,.string ⟨#[]⟩,.slice none 0 0,.slice none 0 0,.int .i64 0,.string ⟨#[]⟩,.int .i64 0,.slice none 0 0] 27)) x (.agg #[.int .i64 x.f0,.int .i64 x.f1,.int .i64 x.f2,.string x.f3,.slice a4 x.f4.length ac4,.slice a5 x.f5.length ac5,.int .i64 x.f6.f0,.string x.f6.f1,.int .i64 x.f6.f2,.slice a9 x.f6.f3.length ac9]) l:=
  ⟨(HVX.bound.mono (ok':=fun k=>k ≠ w.heap.size /\ k ≠ w.heap.size + 1) fun k hk=>by have:=hk.2.2;omega).below B1,⟨_,rfl,(Has.new w #[.int .i64 x.f0,.int .i64 x.f1,.int .i64 x.f2,.string x.f3,.slice a4 x.f4.length ac4,.slice a5 x.f5.length ac5,.int .i64 x.f6.f0,.string x.f6.f1,.int .i64 x.f6.f2,.slice a9 x.f6.f3.length ac9] 27).alloc _⟩,by have:=Has.new (w.alloc (Obj.cells #[.int .i64 x.f0,.int .i64 x.f1,.int .i64 x.f2,.string x.f3,.slice a4 x.f4.length ac4,.slice a5 x.f5.length ac5,.int .i64 x.f6.f0,.string x.f6.f1,.int .i64 x.f6.f2,.slice a9 x.f6.f3.length ac9] 27)) #[.int .i64 0,.int .i64 0,.int .i64 0,.string ⟨#[]⟩,.slice none 0 0,.slice none 0 0,.int .i64 0,.string ⟨#[]⟩,.int .i64 0,.slice none 0 0] 27;rwa [hz1] at this,HP.below B1,Kept.of_below B1⟩
 have hgw:=HP.glt
 have HST:=am (show ∃ x' v' l',behindP e (n + 1) d x' l' = R /\ BL g B w.heap.size (w.heap.size + 1) e w ((w.alloc (Obj.cells #[.int .i64 x.f0,.int .i64 x.f1,.int .i64 x.f2,.string x.f3,.slice a4 x.f4.length ac4,.slice a5 x.f5.length ac5,.int .i64 x.f6.f0,.string x.f6.f1,.int .i64 x.f6.f2,.slice a9 x.f6.f3.length ac9] 27)).alloc (Obj.cells #[.int .i64 0,.int .i64 0,.int .i64 0,.string ⟨#[]⟩,.slice none 0 0,.slice none 0 0,.int .i64 0,.string ⟨#[]⟩,.int .i64 0,.slice none 0 0] 27)) x' v' l' from ⟨x,_,l,hR,HBL⟩)
 clear HVX B1 HBL hR HP hne hz1
 go_enter Tryd.func78,Tryd.ntmps78
 go_wp2
 obtain ⟨W2,hW2⟩:∃ W,(w.alloc (Obj.cells #[.int .i64 x.f0,.int .i64 x.f1,.int .i64 x.f2,.string x.f3,.slice a4 x.f4.length ac4,.slice a5 x.f5.length ac5,.int .i64 x.f6.f0,.string x.f6.f1,.int .i64 x.f6.f2,.slice a9 x.f6.f3.length ac9] 27)).alloc (Obj.cells #[.int .i64 0,.int .i64 0,.int .i64 0,.string ⟨#[]⟩,.slice none 0 0,.slice none 0 0,.int .i64 0,.string ⟨#[]⟩,.int .i64 0,.slice none 0 0] 27) = W:=⟨_,rfl⟩
 rw [hW2] at HST ⊢
 clear hW2
 obtain ⟨b,hb⟩:∃ b,w.heap.size = b:=⟨_,rfl⟩
 rw [hb] at HST ⊢
 have HBW:=am hb
 have hbg:b ≠ g:=by omega
 have hrg:b + 1 ≠ g:=by omega
 clear hb hgw
 have kw:IntKind.i64.wrap (d + 1) = d + 1:=IntWalk.i64_in _ (by omega)
 go_loopg [7,8] (n + 1) (fun m v7 v8 wr=>m <= n + 1 /\ Aside0 (∃ x v l,behindP e m d x l = R /\ BL g B b (b + 1) e w wr x v l))
 case atStart=>exact ⟨Nat.le_refl _,HST⟩
 case round =>
  clear HST
  obtain ⟨hmn,HX⟩:=hrel
  cases gk with
  | zero =>
   obtain ⟨x,v,l,hL,H⟩:=HX.out
   exact absurd hL.symm HNE.out
  | succ m =>
   obtain ⟨x,v,l,hL,H⟩:=HX.out
   clear HX
   simp only [behindP] at hL
   obtain ⟨cs,rfl,_⟩:=H.hb
   obtain ⟨a4,ac4,a5,ac5,a9,ac9,ea⟩:=H.vo.form
   injection ea with ea
   subst ea
   obtain ⟨a0,ha0⟩:∃ a,atP e l = a:=⟨_,rfl⟩
   rw [ha0] at hL
   have HAT:=am ha0
   have HBL:=am H
   clear H ha0
   cases hd:isP sDot l with
   | true =>
    rw [if_pos hd] at hL
    have HD:=am hd
    clear hd
    go_wp2_with (first | (go_at_call 29;(with_reducible refine (at_ps HBL.out.ps).mono ?_);rintro en w3 ⟨he,hb3⟩;rw [HAT.out] at he;subst he;replace HBL:=am (HBL.out.below hb3)) | (go_at_call 41;(with_reducible refine (take_yes sDot HBL.out.ps HD.out).mono ?_);rintro en w4 ⟨he,hk4,hp4⟩;subst he;replace HBL:=am (HBL.out.step hbg hrg hk4 hp4)))
    have hD:=below_drew (Below.refl w4.heap.size w4)
    replace HBL:=am (HBL.out.below hD)
    obtain ⟨W,hW⟩:∃ W,w4.drew = W:=⟨_,rfl⟩
    rw [hW] at HBL
    clear hD
    have hBw:B <= b:=by rw [<- HBW.out];exact hB
    have hbz:=HBL.out.hr.lt
    refine region_treeR 6 (by kernel_rfl) (by kernel_rfl) (fun w' => Has w' b #[.int .i64 x.f0,.int .i64 x.f1,.int .i64 x.f2,.string x.f3,.slice a4 x.f4.length ac4,.slice a5 x.f5.length ac5,.int .i64 x.f6.f0,.string x.f6.f1,.int .i64 x.f6.f2,.slice a9 x.f6.f3.length ac9] 27) (hW ▸ HBL.out.box) fun hS => ?_
    rw [hW] at hS ⊢
    clear hW
    simp only [List.take_succ_cons,List.take_zero]
    generalize hQQ:tailK _ _ = QQ
    have hsure:Sure QQ:=by
     rw [<- hQQ]
     intro c a a' w1 hd h
     simp +zetaDelta only [tailK,Exit.then,Exit.inBlock,bodyPost] at h ⊢
     simpa [hd] using h
    refine tqh hsure hS 0 ?_
    apply Exists.intro
    apply And.intro
    ·rintro w' k1
     apply VR.mk
     go_simp
     with_reducible rfl
    simp only [sA,sB,sC]
    refine tqh hsure hS 1 ?_
    apply Exists.intro
    apply And.intro
    ·rintro w' k1
     apply VR.mk
     go_simp
     with_reducible rfl
    simp only [sA,sB,sC]
    refine tqh hsure hS 3 ?_
    apply Exists.intro
    apply And.intro
    ·rintro w' k1
     apply VR.mk
     exact load27 w' b #[.int .i64 x.f0,.int .i64 x.f1,.int .i64 x.f2,.string x.f3,.slice a4 x.f4.length ac4,.slice a5 x.f5.length ac5,.int .i64 x.f6.f0,.string x.f6.f1,.int .i64 x.f6.f2,.slice a9 x.f6.f3.length ac9] k1 rfl _ _ _ rfl rfl
    simp only [sA,sB,sC]
    obtain ⟨MX,lX⟩:=VO.lit (cs:=[.int .i64 x.f0,.int .i64 x.f1,.int .i64 x.f2,.string x.f3,.slice a4 x.f4.length ac4,.slice a5 x.f5.length ac5,.int .i64 x.f6.f0,.string x.f6.f1,.int .i64 x.f6.f2,.slice a9 x.f6.f3.length ac9]) HBL.out.vo
    refine tree_2Q (i:=2) (k:=4) (by kernel_rfl) ?_ ?_
    ·refine step_callQ (by rfl) (by rfl) (by rfl) (ER.go (by go_simp;with_reducible exact ⟨rfl,rfl⟩)) ?_
     refine (name_said g l.tail e W HBL.out.ps).mono ?_
     intro en w5 hq
     rcases hq.ways with ⟨v,s,l1,hr,rfl,hk5,rfl,hp5⟩ | ⟨bb,er,hr,rfl,hk5⟩
     ·replace HBL:=am (HBL.out.step hbg hrg hk5 hp5)
      refine .inl ⟨.string s,rfl,HBL.out.box, ?_⟩
      simp only [sA,sB,sC]
      have hz5:=hk5.size
      obtain ⟨MX5,lX5⟩:=VO.lit (cs:=[.int .i64 x.f0,.int .i64 x.f1,.int .i64 x.f2,.string x.f3,.slice a4 x.f4.length ac4,.slice a5 x.f5.length ac5,.int .i64 x.f6.f0,.string x.f6.f1,.int .i64 x.f6.f2,.slice a9 x.f6.f3.length ac9]) HBL.out.vo
      have hR:=kids_lit (ok:=fun k=>k ≠ b /\ k ≠ b + 1) w5 B (by omega) (by omega) (xs:=[x]) (reps_one MX5 lX5) (by simp)
      replace HBL:=am (HBL.out.below (below_alloc (Below.refl w5.heap.size w5) (Obj.cells #[.int .i64 x.f0,.int .i64 x.f1,.int .i64 x.f2,.string x.f3,.slice a4 x.f4.length ac4,.slice a5 x.f5.length ac5,.int .i64 x.f6.f0,.string x.f6.f1,.int .i64 x.f6.f2,.slice a9 x.f6.f3.length ac9] 27)))
      refine tree_1Q (i:=4) (by kernel_rfl) ?_
      refine step_list (by rfl) ?_
      go_wp2
      refine ⟨HBL.out.box, ?_⟩
      refine tqh hsure HBL.out.box 5 ?_
      apply Exists.intro
      apply And.intro
      ·rintro w' k1
       apply VR.mk
       go_simp
       with_reducible rfl
      simp only [sA,sB,sC]
      rw [hr] at hL
      have HRR:=am (show behindP e m d (mkE 12 a0 0 s [x] []) l1 = R from hL)
      rw [<- hQQ]
      refine tree_doneR (by kernel_rfl) ?_
      refine restQ_tree (fun _=>True) ?_
      clear hsure hS hQQ hL
      refine tree_1Q (i:=6) (by kernel_rfl) ?_
      refine step_list (by rfl) ?_
      go_wp2_with (((with_reducible refine gate_store (t:=27) (p:=4) rfl ?_);go_must (refine store_event (t:=27) (p:=4) (v:=.tmp 20) (w1:=World.setRow (w5.alloc (Obj.cells #[.int .i64 x.f0,.int .i64 x.f1,.int .i64 x.f2,.string x.f3,.slice a4 x.f4.length ac4,.slice a5 x.f5.length ac5,.int .i64 x.f6.f0,.string x.f6.f1,.int .i64 x.f6.f2,.slice a9 x.f6.f3.length ac9] 27)) b #[.int .i64 12,.int .i64 a0,.int .i64 0,.string s,.slice (some ⟨w5.heap.size,0,none⟩) 1 1,.slice none 0 0,.int .i64 0,.string ⟨#[]⟩,.int .i64 0,.slice none 0 0]) ?hg ?ho ?hn ?hr ?_;(case ho=>rfl);(case hg=>rfl);(case hn=>rfl);(case hr=>exact store27 (w5.alloc (Obj.cells #[.int .i64 x.f0,.int .i64 x.f1,.int .i64 x.f2,.string x.f3,.slice a4 x.f4.length ac4,.slice a5 x.f5.length ac5,.int .i64 x.f6.f0,.string x.f6.f1,.int .i64 x.f6.f2,.slice a9 x.f6.f3.length ac9] 27)) b _ _ HBL.out.box rfl rfl (by first | kernel_rfl | (simp [Value.oneCell'])) _ _ _ _ rfl rfl rfl);intro w7 hw7;subst hw7)))
      refine ⟨trivial,tree_endQ (by kernel_rfl) ?_⟩
      have VN:=(VO.node 12 a0 0 s hR).rowO (g:=b) (fun k hk _=>hk.1) #[.int .i64 12,.int .i64 a0,.int .i64 0,.string s,.slice (some ⟨w5.heap.size,0,none⟩) 1 1,.slice none 0 0,.int .i64 0,.string ⟨#[]⟩,.int .i64 0,.slice none 0 0]
      have HBN:BL g B b (b + 1) e w (World.setRow (w5.alloc (Obj.cells #[.int .i64 x.f0,.int .i64 x.f1,.int .i64 x.f2,.string x.f3,.slice a4 x.f4.length ac4,.slice a5 x.f5.length ac5,.int .i64 x.f6.f0,.string x.f6.f1,.int .i64 x.f6.f2,.slice a9 x.f6.f3.length ac9] 27)) b #[.int .i64 12,.int .i64 a0,.int .i64 0,.string s,.slice (some ⟨w5.heap.size,0,none⟩) 1 1,.slice none 0 0,.int .i64 0,.string ⟨#[]⟩,.int .i64 0,.slice none 0 0]) (mkE 12 a0 0 s [x] []) (.agg #[.int .i64 12,.int .i64 a0,.int .i64 0,.string s,.slice (some ⟨w5.heap.size,0,none⟩) 1 1,.slice none 0 0,.int .i64 0,.string ⟨#[]⟩,.int .i64 0,.slice none 0 0]) l1:=⟨VN,⟨_,rfl,has_row HBL.out.box _⟩,has_row_other HBL.out.hr (by omega),HBL.out.ps.rowP HBL.out.box _,kept_row HBL.out.kp (by rw [HBW.out];omega) _⟩
      have HBN:=am HBN
      clear VN
      go_wp2
      go_roundg m
      case measure=>omega
      case rel=>exact ⟨by omega,⟨⟨_,_,_,HRR.out,HBN.out⟩⟩⟩
     ·refine .inr ⟨_,rfl, ?_⟩
      rw [hr] at hL
      have hL:PR.bad bb er = R:=hL
      rw [<- hQQ, <- hL]
      exact ⟨rfl,HBL.out.kp.then_ hk5,rfl⟩
    ·refine step_list (by rfl) ?_
     go_wp2
     have hR:=kids_lit (ok:=fun k=>k ≠ b /\ k ≠ b + 1) W B (by omega) (by omega) (xs:=[x]) (reps_one MX lX) (by simp)
     replace HBL:=am (HBL.out.below (below_alloc (Below.refl W.heap.size W) (Obj.cells #[.int .i64 x.f0,.int .i64 x.f1,.int .i64 x.f2,.string x.f3,.slice a4 x.f4.length ac4,.slice a5 x.f5.length ac5,.int .i64 x.f6.f0,.string x.f6.f1,.int .i64 x.f6.f2,.slice a9 x.f6.f3.length ac9] 27)))
     refine ⟨HBL.out.box, ?_⟩
     refine tree_1Q (i:=2) (by kernel_rfl) ?_
     refine step_callQ (by rfl) (by rfl) (by rfl) (ER.go (by go_simp;with_reducible exact ⟨rfl,rfl⟩)) ?_
     refine (name_said g l.tail e (W.alloc (Obj.cells #[.int .i64 x.f0,.int .i64 x.f1,.int .i64 x.f2,.string x.f3,.slice a4 x.f4.length ac4,.slice a5 x.f5.length ac5,.int .i64 x.f6.f0,.string x.f6.f1,.int .i64 x.f6.f2,.slice a9 x.f6.f3.length ac9] 27)) HBL.out.ps).mono ?_
     intro en w5 hq
     rcases hq.ways with ⟨v,s,l1,hr,rfl,hk5,rfl,hp5⟩ | ⟨bb,er,hr,rfl,hk5⟩
     ·replace hR:=R_kps hR HBL.out.ps hk5
      replace HBL:=am (HBL.out.step hbg hrg hk5 hp5)
      refine .inl ⟨.string s,rfl,HBL.out.box, ?_⟩
      simp only [sA,sB,sC]
      refine tqh hsure HBL.out.box 5 ?_
      apply Exists.intro
      apply And.intro
      ·rintro w' k1
       apply VR.mk
       go_simp
       with_reducible rfl
      simp only [sA,sB,sC]
      rw [hr] at hL
      have HRR:=am (show behindP e m d (mkE 12 a0 0 s [x] []) l1 = R from hL)
      rw [<- hQQ]
      refine tree_doneR (by kernel_rfl) ?_
      refine restQ_tree (fun _=>True) ?_
      clear hsure hS hQQ hL
      refine tree_1Q (i:=6) (by kernel_rfl) ?_
      refine step_list (by rfl) ?_
      go_wp2_with (((with_reducible refine gate_store (t:=27) (p:=4) rfl ?_);go_must (refine store_event (t:=27) (p:=4) (v:=.tmp 20) (w1:=World.setRow w5 b #[.int .i64 12,.int .i64 a0,.int .i64 0,.string s,.slice (some ⟨W.heap.size,0,none⟩) 1 1,.slice none 0 0,.int .i64 0,.string ⟨#[]⟩,.int .i64 0,.slice none 0 0]) ?hg ?ho ?hn ?hr ?_;(case ho=>rfl);(case hg=>rfl);(case hn=>rfl);(case hr=>exact store27 w5 b _ _ HBL.out.box rfl rfl (by first | kernel_rfl | (simp [Value.oneCell'])) _ _ _ _ rfl rfl rfl);intro w7 hw7;subst hw7)))
      refine ⟨trivial,tree_endQ (by kernel_rfl) ?_⟩
      have VN:=(VO.node 12 a0 0 s hR).rowO (g:=b) (fun k hk _=>hk.1) #[.int .i64 12,.int .i64 a0,.int .i64 0,.string s,.slice (some ⟨W.heap.size,0,none⟩) 1 1,.slice none 0 0,.int .i64 0,.string ⟨#[]⟩,.int .i64 0,.slice none 0 0]
      have HBN:BL g B b (b + 1) e w (World.setRow w5 b #[.int .i64 12,.int .i64 a0,.int .i64 0,.string s,.slice (some ⟨W.heap.size,0,none⟩) 1 1,.slice none 0 0,.int .i64 0,.string ⟨#[]⟩,.int .i64 0,.slice none 0 0]) (mkE 12 a0 0 s [x] []) (.agg #[.int .i64 12,.int .i64 a0,.int .i64 0,.string s,.slice (some ⟨W.heap.size,0,none⟩) 1 1,.slice none 0 0,.int .i64 0,.string ⟨#[]⟩,.int .i64 0,.slice none 0 0]) l1:=⟨VN,⟨_,rfl,has_row HBL.out.box _⟩,has_row_other HBL.out.hr (by omega),HBL.out.ps.rowP HBL.out.box _,kept_row HBL.out.kp (by rw [HBW.out];omega) _⟩
      have HBN:=am HBN
      clear VN
      go_wp2
      go_roundg m
      case measure=>omega
      case rel=>exact ⟨by omega,⟨⟨_,_,_,HRR.out,HBN.out⟩⟩⟩
     ·refine .inr ⟨_,rfl, ?_⟩
      rw [hr] at hL
      have hL:PR.bad bb er = R:=hL
      rw [<- hQQ, <- hL]
      exact ⟨rfl,HBL.out.kp.then_ hk5,rfl⟩
   | false =>
    rw [if_neg (by rw [hd];decide)] at hL
    have HD:=am hd
    clear hd
    cases hl:isP sLbra l with
    | true =>
     rw [if_pos hl] at hL
     have HLB:=am hl
     clear hl
     cases hr:climbP e m (d + 1) true 1 l.tail with
     | out=>rw [hr] at hL;exact absurd hL.symm HNE.out
     | bad a er =>
      rw [hr] at hL
      have HRR:=am (show PR.bad a er = R from hL)
      have HR:=am hr
      have HNO:=am (show climbP e m (d + 1) true 1 l.tail ≠ .out by rw [hr];exact PR.bad_ne _ _)
      clear hL hr
      go_wp2_with (first | (go_at_call 29;(with_reducible refine (at_ps HBL.out.ps).mono ?_);rintro en w3 ⟨he,hb3⟩;rw [HAT.out] at he;subst he;replace HBL:=am (HBL.out.below hb3)) | (go_at_call 41;(with_reducible refine (take_no sDot HBL.out.ps HD.out).mono ?_);rintro en w4 ⟨he,hk4,hp4⟩;subst he;replace HBL:=am (HBL.out.step hbg hrg hk4 hp4)) | (go_at_call 41;(with_reducible refine (take_yes sLbra HBL.out.ps HLB.out).mono ?_);rintro en w5 ⟨he,hk5,hp5⟩;subst he;replace HBL:=am (HBL.out.step hbg hrg hk5 hp5)) | (go_at_call 18;(with_reducible refine (HTR.out m (by omega) g e (d + 1) true l.tail _ (by omega) (by omega) HBL.out.ps HNO.out).mono ?_);rintro en w6 ⟨hk6,hq6⟩;rw [HR.out] at hq6;subst hq6))
      rw [<- HRR.out]
      exact ⟨rfl,HBL.out.kp.then_ hk6,rfl⟩
     | ok y l1 =>
      rw [hr] at hL
      have hL:((needP e sRbra l1).andThen fun _ l2=>behindP e m d (mkE 13 a0 0 ⟨#[]⟩ [x,y] []) l2) = R:=hL
      have HR:=am hr
      have HNO:=am (show climbP e m (d + 1) true 1 l.tail ≠ .out by rw [hr];exact PR.ok_ne _ _)
      clear hr
      cases hj:isP sRbra l1 with
      | false =>
       rw [needP,if_neg (by rw [hj];decide)] at hL
       have HRR:=am (show PR.bad (atP e l1) 30 = R from hL)
       have HJ:=am hj
       clear hL hj
       go_wp2_with (first | (go_at_call 29;(with_reducible refine (at_ps HBL.out.ps).mono ?_);rintro en w3 ⟨he,hb3⟩;rw [HAT.out] at he;subst he;replace HBL:=am (HBL.out.below hb3)) | (go_at_call 41;(with_reducible refine (take_no sDot HBL.out.ps HD.out).mono ?_);rintro en w4 ⟨he,hk4,hp4⟩;subst he;replace HBL:=am (HBL.out.step hbg hrg hk4 hp4)) | (go_at_call 41;(with_reducible refine (take_yes sLbra HBL.out.ps HLB.out).mono ?_);rintro en w5 ⟨he,hk5,hp5⟩;subst he;replace HBL:=am (HBL.out.step hbg hrg hk5 hp5)) | (go_at_call 18;(with_reducible refine (HTR.out m (by omega) g e (d + 1) true l.tail _ (by omega) (by omega) HBL.out.ps HNO.out).mono ?_);rintro en w6 ⟨hk6,hq6⟩;rw [HR.out] at hq6;obtain ⟨v6,rfl,hv6,hp6⟩:=hq6;obtain ⟨b4,bc4,b5,bc5,b9,bc9,rfl⟩:=hv6.form;have hz5:=HBL.out.hr.lt;have HV5:=am hv6.bound;have hz6:=hk6.size;replace HBL:=am (HBL.out.step hbg hrg hk6 hp6);have b6:=below_alloc (Below.refl w6.heap.size w6) (Obj.cells #[.int .i64 y.f0,.int .i64 y.f1,.int .i64 y.f2,.string y.f3,.slice b4 y.f4.length bc4,.slice b5 y.f5.length bc5,.int .i64 y.f6.f0,.string y.f6.f1,.int .i64 y.f6.f2,.slice b9 y.f6.f3.length bc9] 27);replace HBL:=am (HBL.out.below b6);have HY:=am (Has.new w6 #[.int .i64 y.f0,.int .i64 y.f1,.int .i64 y.f2,.string y.f3,.slice b4 y.f4.length bc4,.slice b5 y.f5.length bc5,.int .i64 y.f6.f0,.string y.f6.f1,.int .i64 y.f6.f2,.slice b9 y.f6.f3.length bc9] 27);have HV6:=am (HV5.out.below b6);have h6g:w6.heap.size ≠ g:=by (have:=hp6.glt;omega)) | (go_at_call 42;(with_reducible refine (need_no sRbra HBL.out.ps HJ.out).mono ?_);rintro en w8 ⟨rfl,hk8⟩))
       rw [<- HRR.out]
       exact ⟨rfl,HBL.out.kp.then_ hk8,rfl⟩
      | true =>
       rw [needP,if_pos hj] at hL
       have HRR:=am (show behindP e m d (mkE 13 a0 0 ⟨#[]⟩ [x,y] []) l1.tail = R from hL)
       have HJ:=am hj
       clear hL hj
       go_wp2_with (first | (go_at_call 29;(with_reducible refine (at_ps HBL.out.ps).mono ?_);rintro en w3 ⟨he,hb3⟩;rw [HAT.out] at he;subst he;replace HBL:=am (HBL.out.below hb3)) | (go_at_call 41;(with_reducible refine (take_no sDot HBL.out.ps HD.out).mono ?_);rintro en w4 ⟨he,hk4,hp4⟩;subst he;replace HBL:=am (HBL.out.step hbg hrg hk4 hp4)) | (go_at_call 41;(with_reducible refine (take_yes sLbra HBL.out.ps HLB.out).mono ?_);rintro en w5 ⟨he,hk5,hp5⟩;subst he;replace HBL:=am (HBL.out.step hbg hrg hk5 hp5)) | (go_at_call 18;(with_reducible refine (HTR.out m (by omega) g e (d + 1) true l.tail _ (by omega) (by omega) HBL.out.ps HNO.out).mono ?_);rintro en w6 ⟨hk6,hq6⟩;rw [HR.out] at hq6;obtain ⟨v6,rfl,hv6,hp6⟩:=hq6;obtain ⟨b4,bc4,b5,bc5,b9,bc9,rfl⟩:=hv6.form;have hz5:=HBL.out.hr.lt;have HV5:=am hv6.bound;have hz6:=hk6.size;replace HBL:=am (HBL.out.step hbg hrg hk6 hp6);have b6:=below_alloc (Below.refl w6.heap.size w6) (Obj.cells #[.int .i64 y.f0,.int .i64 y.f1,.int .i64 y.f2,.string y.f3,.slice b4 y.f4.length bc4,.slice b5 y.f5.length bc5,.int .i64 y.f6.f0,.string y.f6.f1,.int .i64 y.f6.f2,.slice b9 y.f6.f3.length bc9] 27);replace HBL:=am (HBL.out.below b6);have HY:=am (Has.new w6 #[.int .i64 y.f0,.int .i64 y.f1,.int .i64 y.f2,.string y.f3,.slice b4 y.f4.length bc4,.slice b5 y.f5.length bc5,.int .i64 y.f6.f0,.string y.f6.f1,.int .i64 y.f6.f2,.slice b9 y.f6.f3.length bc9] 27);have HV6:=am (HV5.out.below b6);have h6g:w6.heap.size ≠ g:=by (have:=hp6.glt;omega)) | (go_at_call 42;(with_reducible refine (need_yes sRbra HBL.out.ps HJ.out).mono ?_);rintro en w8 ⟨rfl,hk8,hp8⟩;have HV8:=am (HV6.out.kps HBL.out.ps hk8);replace HBL:=am (HBL.out.step hbg hrg hk8 hp8);replace HY:=am (Kept.has hk8 HY.out h6g)) | ((with_reducible refine gate_dst (N:=31) rfl ?_);go_must (refine Kd.event_run rfl (load27 w8 b #[.int .i64 x.f0,.int .i64 x.f1,.int .i64 x.f2,.string x.f3,.slice a4 x.f4.length ac4,.slice a5 x.f5.length ac5,.int .i64 x.f6.f0,.string x.f6.f1,.int .i64 x.f6.f2,.slice a9 x.f6.f3.length ac9] HBL.out.box rfl _ _ _ rfl rfl) ?_)) | ((with_reducible refine gate_dst (N:=32) rfl ?_);go_must (refine Kd.event_run rfl (load27 w8 w6.heap.size #[.int .i64 y.f0,.int .i64 y.f1,.int .i64 y.f2,.string y.f3,.slice b4 y.f4.length bc4,.slice b5 y.f5.length bc5,.int .i64 y.f6.f0,.string y.f6.f1,.int .i64 y.f6.f2,.slice b9 y.f6.f3.length bc9] HY.out rfl _ _ _ rfl rfl) ?_)) | ((with_reducible refine gate_store (t:=27) (p:=4) rfl ?_);go_must (refine store_event (t:=27) (p:=4) (v:=.tmp 34) (w1:=World.setRow (w8.alloc (Obj.cells #[.int .i64 x.f0,.int .i64 x.f1,.int .i64 x.f2,.string x.f3,.slice a4 x.f4.length ac4,.slice a5 x.f5.length ac5,.int .i64 x.f6.f0,.string x.f6.f1,.int .i64 x.f6.f2,.slice a9 x.f6.f3.length ac9,.int .i64 y.f0,.int .i64 y.f1,.int .i64 y.f2,.string y.f3,.slice b4 y.f4.length bc4,.slice b5 y.f5.length bc5,.int .i64 y.f6.f0,.string y.f6.f1,.int .i64 y.f6.f2,.slice b9 y.f6.f3.length bc9] 27)) b #[.int .i64 13,.int .i64 a0,.int .i64 0,.string ⟨#[]⟩,.slice (some ⟨w8.heap.size,0,none⟩) 2 2,.slice none 0 0,.int .i64 0,.string ⟨#[]⟩,.int .i64 0,.slice none 0 0]) ?hg ?ho ?hn ?hr ?_;(case ho=>rfl);(case hg=>rfl);(case hn=>rfl);(case hr=>exact store27 (w8.alloc (Obj.cells #[.int .i64 x.f0,.int .i64 x.f1,.int .i64 x.f2,.string x.f3,.slice a4 x.f4.length ac4,.slice a5 x.f5.length ac5,.int .i64 x.f6.f0,.string x.f6.f1,.int .i64 x.f6.f2,.slice a9 x.f6.f3.length ac9,.int .i64 y.f0,.int .i64 y.f1,.int .i64 y.f2,.string y.f3,.slice b4 y.f4.length bc4,.slice b5 y.f5.length bc5,.int .i64 y.f6.f0,.string y.f6.f1,.int .i64 y.f6.f2,.slice b9 y.f6.f3.length bc9] 27)) b _ _ (HBL.out.box.alloc _) rfl rfl (by first | kernel_rfl | (simp [Value.oneCell'])) _ _ _ _ rfl rfl rfl);intro w7 hw7;subst hw7)))
       have hBw:B <= b:=by rw [<- HBW.out];exact hB
       have hz8:=hk8.size
       have hz7:(w6.alloc (Obj.cells #[.int .i64 y.f0,.int .i64 y.f1,.int .i64 y.f2,.string y.f3,.slice b4 y.f4.length bc4,.slice b5 y.f5.length bc5,.int .i64 y.f6.f0,.string y.f6.f1,.int .i64 y.f6.f2,.slice b9 y.f6.f3.length bc9] 27)).heap.size = w6.heap.size + 1:=by simp
       have bK:=below_alloc (Below.refl w8.heap.size w8) (Obj.cells #[.int .i64 x.f0,.int .i64 x.f1,.int .i64 x.f2,.string x.f3,.slice a4 x.f4.length ac4,.slice a5 x.f5.length ac5,.int .i64 x.f6.f0,.string x.f6.f1,.int .i64 x.f6.f2,.slice a9 x.f6.f3.length ac9,.int .i64 y.f0,.int .i64 y.f1,.int .i64 y.f2,.string y.f3,.slice b4 y.f4.length bc4,.slice b5 y.f5.length bc5,.int .i64 y.f6.f0,.string y.f6.f1,.int .i64 y.f6.f2,.slice b9 y.f6.f3.length bc9] 27)
       have VY:=HV8.out.mono (ok':=fun k=>k ≠ b /\ k ≠ b + 1) fun k hk=>by have:=hk.2.1;omega
       obtain ⟨MX,lX⟩:=VO.lit (cs:=[.int .i64 x.f0,.int .i64 x.f1,.int .i64 x.f2,.string x.f3,.slice a4 x.f4.length ac4,.slice a5 x.f5.length ac5,.int .i64 x.f6.f0,.string x.f6.f1,.int .i64 x.f6.f2,.slice a9 x.f6.f3.length ac9]) HBL.out.vo
       obtain ⟨MY,lY⟩:=VO.lit (cs:=[.int .i64 y.f0,.int .i64 y.f1,.int .i64 y.f2,.string y.f3,.slice b4 y.f4.length bc4,.slice b5 y.f5.length bc5,.int .i64 y.f6.f0,.string y.f6.f1,.int .i64 y.f6.f2,.slice b9 y.f6.f3.length bc9]) (VY.lower (show B <= _ by omega))
       have hR:=kids_lit (ok:=fun k=>k ≠ b /\ k ≠ b + 1) w8 B (by omega) (by omega) (xs:=[x,y]) (reps_two MX lX MY lY) (by simp)
       have VN:=(VO.node 13 a0 0 ⟨#[]⟩ hR).rowO (g:=b) (fun k hk _=>hk.1) #[.int .i64 13,.int .i64 a0,.int .i64 0,.string ⟨#[]⟩,.slice (some ⟨w8.heap.size,0,none⟩) 2 2,.slice none 0 0,.int .i64 0,.string ⟨#[]⟩,.int .i64 0,.slice none 0 0]
       have HBN:BL g B b (b + 1) e w ((w8.alloc (Obj.cells #[.int .i64 x.f0,.int .i64 x.f1,.int .i64 x.f2,.string x.f3,.slice a4 x.f4.length ac4,.slice a5 x.f5.length ac5,.int .i64 x.f6.f0,.string x.f6.f1,.int .i64 x.f6.f2,.slice a9 x.f6.f3.length ac9,.int .i64 y.f0,.int .i64 y.f1,.int .i64 y.f2,.string y.f3,.slice b4 y.f4.length bc4,.slice b5 y.f5.length bc5,.int .i64 y.f6.f0,.string y.f6.f1,.int .i64 y.f6.f2,.slice b9 y.f6.f3.length bc9] 27)).setRow b #[.int .i64 13,.int .i64 a0,.int .i64 0,.string ⟨#[]⟩,.slice (some ⟨w8.heap.size,0,none⟩) 2 2,.slice none 0 0,.int .i64 0,.string ⟨#[]⟩,.int .i64 0,.slice none 0 0]) (mkE 13 a0 0 ⟨#[]⟩ [x,y] []) (.agg #[.int .i64 13,.int .i64 a0,.int .i64 0,.string ⟨#[]⟩,.slice (some ⟨w8.heap.size,0,none⟩) 2 2,.slice none 0 0,.int .i64 0,.string ⟨#[]⟩,.int .i64 0,.slice none 0 0]) l1.tail:=⟨VN,⟨_,rfl,has_row (HBL.out.box.alloc _) _⟩,has_row_other (HBL.out.hr.alloc _) (by omega),(HBL.out.ps.below bK).rowP (HBL.out.box.alloc _) _,kept_row (HBL.out.kp.below bK) (by rw [HBW.out];omega) _⟩
       have HBN:=am HBN
       clear VN hR VY MX MY lX lY bK
       go_roundg m
       case measure=>omega
       case rel=>exact ⟨by omega,⟨⟨_,_,_,HRR.out,HBN.out⟩⟩⟩
    | false =>
     rw [if_neg (by rw [hl];decide)] at hL
     have HLB:=am hl
     have HRR:=am hL
     clear hl hL
     go_wp2_with (first | (go_at_call 29;(with_reducible refine (at_ps HBL.out.ps).mono ?_);rintro en w3 ⟨he,hb3⟩;rw [HAT.out] at he;subst he;replace HBL:=am (HBL.out.below hb3)) | (go_at_call 41;(with_reducible refine (take_no sDot HBL.out.ps HD.out).mono ?_);rintro en w4 ⟨he,hk4,hp4⟩;subst he;replace HBL:=am (HBL.out.step hbg hrg hk4 hp4)) | (go_at_call 41;(with_reducible refine (take_no sLbra HBL.out.ps HLB.out).mono ?_);rintro en w5 ⟨he,hk5,hp5⟩;subst he;replace HBL:=am (HBL.out.step hbg hrg hk5 hp5)) | ((with_reducible refine gate_dst (N:=11) rfl ?_);go_must (refine Kd.event_run rfl (load27 w5 b #[.int .i64 x.f0,.int .i64 x.f1,.int .i64 x.f2,.string x.f3,.slice a4 x.f4.length ac4,.slice a5 x.f5.length ac5,.int .i64 x.f6.f0,.string x.f6.f1,.int .i64 x.f6.f2,.slice a9 x.f6.f3.length ac9] HBL.out.box rfl _ _ _ rfl rfl) ?_)) | ((with_reducible refine gate_store (t:=27) (p:=6) rfl ?_);go_must (refine store_event (t:=27) (p:=6) (v:=.tmp 11) (w1:=World.setRow w5 (b + 1) #[.int .i64 x.f0,.int .i64 x.f1,.int .i64 x.f2,.string x.f3,.slice a4 x.f4.length ac4,.slice a5 x.f5.length ac5,.int .i64 x.f6.f0,.string x.f6.f1,.int .i64 x.f6.f2,.slice a9 x.f6.f3.length ac9]) ?hg ?ho ?hn ?hr ?_;(case ho=>rfl);(case hg=>rfl);(case hn=>rfl);(case hr=>exact store27 w5 (b + 1) _ _ HBL.out.hr rfl rfl (by first | kernel_rfl | (simp [Value.oneCell'])) _ _ _ _ rfl rfl rfl);intro w7 hw7;subst hw7)))
     have HR7:=has_row HBL.out.hr #[.int .i64 x.f0,.int .i64 x.f1,.int .i64 x.f2,.string x.f3,.slice a4 x.f4.length ac4,.slice a5 x.f5.length ac5,.int .i64 x.f6.f0,.string x.f6.f1,.int .i64 x.f6.f2,.slice a9 x.f6.f3.length ac9]
     have HV7:VE B (w5.setRow (b + 1) #[.int .i64 x.f0,.int .i64 x.f1,.int .i64 x.f2,.string x.f3,.slice a4 x.f4.length ac4,.slice a5 x.f5.length ac5,.int .i64 x.f6.f0,.string x.f6.f1,.int .i64 x.f6.f2,.slice a9 x.f6.f3.length ac9]) (.agg #[.int .i64 x.f0,.int .i64 x.f1,.int .i64 x.f2,.string x.f3,.slice a4 x.f4.length ac4,.slice a5 x.f5.length ac5,.int .i64 x.f6.f0,.string x.f6.f1,.int .i64 x.f6.f2,.slice a9 x.f6.f3.length ac9]) x:=(HBL.out.vo.rowO (g:=b + 1) (fun k hk _=>hk.2) _).mono fun _ _=>trivial
     refine bodyPost_ret (results_cell_row rfl _ _ (b + 1) 27 #[.int .i64 x.f0,.int .i64 x.f1,.int .i64 x.f2,.string x.f3,.slice a4 x.f4.length ac4,.slice a5 x.f5.length ac5,.int .i64 x.f6.f0,.string x.f6.f1,.int .i64 x.f6.f2,.slice a9 x.f6.f3.length ac9] (0,0) _ rfl HR7 Tryd.underlying27 rfl (by rfl)) rfl ?_
     rw [<- HRR.out]
     exact ⟨kept_row HBL.out.kp (by rw [HBW.out];omega) _,_,rfl,HV7,HBL.out.ps.rowP HBL.out.hr _⟩
end Go.Proofs.YtngpgdmafmkddaaDoor.Par
end
section
namespace Go.Proofs.YtngpgdmafmkddaaDoor.Par
open Go.RowKit Go.Proofs.YtngpgdmafmkddaaDoorW.PrintWords Go.Proofs.YtngpgdmafmkddaaDoorW.PrintLast Go.Proofs.YtngpgdmafmkddaaDoorW.PrintMore
open Go.Proofs.YtngpgdmafmkddaaDoor.PParseBlanks (S35 S25 S27 k35 k25 k27 rd_T35 rd_T25 rd_T27 at_T35 at_T25 at_T27)
set_option linter.unusedVariables false
set_option linter.unusedSimpArgs false
def BlockOK (n:Nat):Prop := ∀ (g:Nat) (e d:Int) (l:List S35) (w:World),0 <= d -> d <= 1000 -> PS w g l e -> blockP e n d l ≠ .out ->
 Calls Tryd.prog 47 #[.pointer (some ⟨g,0,none⟩),.int .i64 d] w (PPost g e (VE w.heap.size) (blockP e n d l) w)
def ClosedOK (n:Nat):Prop := ∀ (g:Nat) (e d:Int) (l:List S35) (w:World),0 <= d -> d <= 1000 -> PS w g l e -> closedP e n d l ≠ .out ->
 Calls Tryd.prog 76 #[.pointer (some ⟨g,0,none⟩),.int .i64 d] w (PPost g e (VE w.heap.size) (closedP e n d l) w)
def StmtOK (n:Nat):Prop := ∀ (g:Nat) (e d:Int) (l:List S35) (w:World),0 <= d -> d < 60 -> PS w g l e -> stmtP e n d l ≠ .out ->
 Calls Tryd.prog 67 #[.pointer (some ⟨g,0,none⟩),.int .i64 d] w (PPost g e (fun w' v (x:S27 × Bool) => ∃ u,v = .tuple #[u,.bool x.2] /\ VE w.heap.size w' u x.1) (stmtP e n d l) w)
theorem PS.setC {w:World} {g b:Nat} {l:List S35} {e:Int} {old:Array Value} (h:PS w g l e) (hr:Has w b old 27) (i:Nat) (u:Value):PS (w.setCell ⟨b,i,none⟩ u) g l e:=by
 obtain ⟨A,c,HP⟩:=h
 exact ⟨A,c,HP.has.other (HP.has.ne hr (by decide)) u,HP.le,C_far HP.toks (HP.row.ne hr (by decide)) u,HP.row.set (HP.row.ne hr (by decide)) u⟩
theorem info27:(Tryd.prog.info? 27).map (fun i=>(i.zero,i.size,i.bytes)) = some (some (.agg #[.int .i64 0,.int .i64 0,.int .i64 0,.string ⟨#[]⟩,.slice none 0 0,.slice none 0 0,.int .i64 0,.string ⟨#[]⟩,.int .i64 0,.slice none 0 0]),10,144):=by kernel_rfl
def PlainlyOK (n:Nat):Prop := ∀ (g:Nat) (e d:Int) (l:List S35) (w:World),0 <= d -> d < 60 -> PS w g l e -> plainlyP e n d l ≠ .out ->
 Calls Tryd.prog 77 #[.pointer (some ⟨g,0,none⟩),.int .i64 d] w (PPost g e (fun w' v (x:S27 × Bool) => ∃ u,v = .tuple #[u,.bool x.2] /\ VE w.heap.size w' u x.1) (plainlyP e n d l) w)
theorem append27 {P:Program} {ops:Array Oper} {rest:List Oper} {o:Oper} {a:Act} {Q:Exit -> Act -> World -> Prop} {W:World} (hP:P.underlying 22 = some (.slice 27)) (hI:(P.info? 27).map (fun i=>(i.zero,i.size,i.bytes)) = some (some (.agg #[.int .i64 0,.int .i64 0,.int .i64 0,.string ⟨#[]⟩,.slice none 0 0,.slice none 0 0,.int .i64 0,.string ⟨#[]⟩,.int .i64 0,.slice none 0 0]),10,144)) (B B2:Nat) (hgd:o.guard = none) (s x:Operand)
  (ho:o.op = .call { callee:=.builtin .append,args:=#[s,x],argTypes:=#[22,22] }) (v:Value) (xs ys:List S27) (A:Option Addr) (m c:Nat) (hs:a.eval s = v) (hx:a.eval x = .slice A m c)
  (HO:k27.R 27 W B Any v xs) (HY:k27.R 27 W B2 Any (.slice A m c) ys) (hB:B <= B2) (hsep:∀ k,v.ownBlock = some k -> k < B2) (hl:xs.length + ys.length <= 2000000) (hbase:B <= W.heap.size)
  (h:∀ v1 w1,k27.R 27 w1 B Any v1 (xs ++ ys) -> W.grownBy w1 v.ownBlock -> wpList P ops Q rest (a.put o.dst v1) w1):wpList P ops Q (o :: rest) a W:=by
 obtain ⟨A',c',e,_,hr⟩:=OwnRow.reads HY.2
 injection e with e1 e2 e3
 subst e1 e2 e3
 refine Kd.R_append_rows k27 (w0:=W) B hgd s x 22 27 (.agg #[.int .i64 0,.int .i64 0,.int .i64 0,.string ⟨#[]⟩,.slice none 0 0,.slice none 0 0,.int .i64 0,.string ⟨#[]⟩,.int .i64 0,.slice none 0 0]) 144 ho hP hI rfl (by decide) (by decide) v xs ys A ys.length c Any (fun k=>B2 <= k) hs hx HO hr (fun x cs h=>k27.M_lower hB (k27.M_mono (fun k hk=>hk.2.1) (k27.M_bound h))) (fun k hk=>⟨trivial,fun e=>by have:=hsep k e.symm;omega⟩) (fun _ _=>trivial) (Below.refl _ _) hbase (by omega) ?_
 intro v1 w1 h1 _ h3 _
 exact h v1 w1 h1 h3
theorem Kept.setCellX {S:Nat -> Prop} {w w1:World} (h:Kept S w w1) {a:Addr} (ha:S a.block \/ w.heap.size <= a.block) (v:Value):Kept S w (w1.setCell a v):=ha.elim (fun h1=>h.setCell h1 v) fun h1=>h.setCellG h1 v
theorem kept_rowX {S:Nat -> Prop} {w w1:World} (h:Kept S w w1) {g:Nat} (hg:S g \/ w.heap.size <= g) (cs:Array Value):Kept S w (w1.setRow g cs):=
 ⟨h.os,h.tape,h.output,by rw [row_size];exact h.size,fun k hk hn=>(row_block w1 g k cs (fun e=>by subst e;rcases hg with h1 | h1;exact hn h1;omega)).trans (h.block k hk hn)⟩
theorem R_far {ok:Nat -> Prop} {B:Nat} {w w' : World} {v:Value} {xs:List S27} (h:k27.R 27 w B ok v xs) (hm:∀ k,B <= k -> k < w.heap.size -> w'.heap[k]? = w.heap[k]?):k27.R 27 w' B ok v xs:=Kd.R_mono (Kd.R_step (Kd.R_bound h) fun k hk1 hk2=>hm k hk1.2.1 hk2) fun _ h=>h.1
theorem kidA {B:Nat} {W:World} {x:S27} {cs:List Value} (h:VO Any B W (.agg (List.toArray cs)) x) (hB:B <= W.heap.size):k27.R 27 (W.alloc (.cells (List.toArray cs) 27)) B Any (.slice (some ⟨W.heap.size,0,none⟩) 1 1) [x]:=by
 obtain ⟨hM,hl⟩:=h.lit
 exact kids_lit W B hB trivial (xs:=[x]) (reps_one hM hl) (by simp)
theorem C_blk {w w' : World} {A:Option Addr} {l:List S35} (h:Kd.C k35 w A l.length l) (hp:∀ ad,A = some ad -> w'.heap[ad.block]? = w.heap[ad.block]?):Kd.C k35 w' A l.length l:=by
 obtain ⟨h1,h2,h3⟩:=h
 refine ⟨h1,h2,fun h0 => ?_⟩
 obtain ⟨ad,e,hc⟩:=h3 h0
 refine ⟨ad,e,fun j q hj => ?_⟩
 obtain ⟨c,hl,hr,hcell⟩:=hc j q hj
 refine ⟨c,hl,hr,fun i v hi => ?_⟩
 have hb:(ad.add (j * k35.sz + i)).block = ad.block:=by unfold Addr.add;split <;> rfl
 have:=hcell i v hi
 unfold World.cell? at this ⊢
 rw [hb,hp ad e, <- hb];exact this
theorem PS.grown {w w' : World} {g:Nat} {l:List S35} {e:Int} {row:Option Nat} (h:PS w g l e) (hG:w.grownBy w' row) (hr:∀ k,row = some k -> ∃ cs,Has w k cs 27):PS w' g l e:=by
 obtain ⟨A,c,H⟩:=h
 have hb:∀ ad,A = some ad -> w'.heap[ad.block]? = w.heap[ad.block]?:=fun ad ea=>by
  obtain ⟨cs',h35⟩:=H.row ad ea
  exact hG.block _ h35.lt fun he=>by
   obtain ⟨cs,h27⟩:=hr _ he.symm
   exact h35.ne h27 (by decide) rfl
 refine ⟨A,c,H.has.of_block (hG.block _ H.has.lt fun he => ?_),H.le,C_blk H.toks hb,H.row.of hb⟩
 obtain ⟨cs,h27⟩:=hr _ he.symm
 exact H.has.ne h27 (by decide) rfl
theorem R_own27 {w:World} {base:Nat} {ok:Nat -> Prop} {v:Value} {xs:List S27} (h:k27.R 27 w base ok v xs):∀ k,v.ownBlock = some k -> ∃ cs,Has w k cs 27:=fun k hk=>by
 obtain ⟨_,inner,hown,_⟩:=h
 exact own_typed hown k hk
end Go.Proofs.YtngpgdmafmkddaaDoor.Par
end
section
namespace Go.Proofs.YtngpgdmafmkddaaDoor.Par
open Go.RowKit Go.Proofs.YtngpgdmafmkddaaDoorW.PrintWords Go.Proofs.YtngpgdmafmkddaaDoorW.PrintLast Go.Proofs.YtngpgdmafmkddaaDoorW.PrintMore
open Go.Proofs.YtngpgdmafmkddaaDoor.PParseBlanks (S35 S25 S27 k35 k25 k27 rd_T35 rd_T25 rd_T27 at_T35 at_T25 at_T27)
set_option linter.unusedVariables false
set_option linter.unusedSimpArgs false
structure BK (g r0 b:Nat) (e a0 z:Int) (w wr:World) (xs:List S27) (v:Value) (l:List S35):Prop where
 hr:Has wr r0 #[.int .i64 0,.int .i64 0,.int .i64 0,.string ⟨#[]⟩,.slice none 0 0,.slice none 0 0,.int .i64 0,.string ⟨#[]⟩,.int .i64 0,.slice none 0 0] 27
 hx:Has wr b #[.int .i64 19,.int .i64 a0,.int .i64 z,.string ⟨#[]⟩,v,.slice none 0 0,.int .i64 0,.string ⟨#[]⟩,.int .i64 0,.slice none 0 0] 27
 rr:k27.R 27 wr (b + 1) Any v xs
 ps:PS wr g l e
 kp:KeptG g w wr
section
variable {g r0 b:Nat} {e a0 z:Int} {w wr w' : World} {xs:List S27} {v:Value} {l l' : List S35}
theorem BK.below (H:BK g r0 b e a0 z w wr xs v l) (hb:Below wr.heap.size wr w'):BK g r0 b e a0 z w w' xs v l:=⟨H.hr.belowS hb,H.hx.belowS hb,Kd.R_below H.rr hb,H.ps.below hb,H.kp.below hb⟩
theorem BK.step (H:BK g r0 b e a0 z w wr xs v l) (h1:r0 ≠ g) (h2:b ≠ g) (hk:KeptG g wr w') (hp:PS w' g l' e):BK g r0 b e a0 z w w' xs v l':=⟨Kept.has hk H.hr h1,Kept.has hk H.hx h2,R_kps H.rr H.ps hk,hp,H.kp.then_ hk⟩
theorem BK.own (H:BK g r0 b e a0 z w wr xs v l) (h1:r0 < b):some r0 ≠ v.ownBlock /\ some b ≠ v.ownBlock /\ ∀ k,v.ownBlock = some k -> b + 1 <= k /\ k < wr.heap.size:=
 ⟨fun h=>by have:=((Kd.R_bound H.rr).1 r0 h.symm).2.1;omega,fun h=>by have:=((Kd.R_bound H.rr).1 b h.symm).2.1;omega,fun k hk=>⟨((Kd.R_bound H.rr).1 k hk).2.1,((Kd.R_bound H.rr).1 k hk).2.2.1⟩⟩
theorem BK.hx_grown (H:BK g r0 b e a0 z w wr xs v l) (h1:r0 < b) (hG:wr.grownBy w' v.ownBlock):Has w' b #[.int .i64 19,.int .i64 a0,.int .i64 z,.string ⟨#[]⟩,v,.slice none 0 0,.int .i64 0,.string ⟨#[]⟩,.int .i64 0,.slice none 0 0] 27:=H.hx.of_block (hG.block b H.hx.lt (H.own h1).2.1)
theorem BK.push {ys:List S27} {v1:Value} (H:BK g r0 b e a0 z w wr xs v l) (h1:r0 < b) (h2:w.heap.size <= b) (hG:wr.grownBy w' v.ownBlock) (hR:k27.R 27 w' (b + 1) Any v1 ys):BK g r0 b e a0 z w (w'.setCell ⟨b,4,none⟩ v1) ys v1 l:=
 ⟨(H.hr.of_block (hG.block r0 H.hr.lt (H.own h1).1)).other (by show r0 ≠ b;omega) v1,(H.hx_grown h1 hG).set_ 4 v1,R_far hR (fun k hk _=>Below.heap_setCell _ ⟨b,4,none⟩ v1 k (by show k ≠ b;omega)),
  (H.ps.grown hG (fun k hk=>R_own27 H.rr k hk)).setC (H.hx_grown h1 hG) 4 v1,(Kept.grown H.kp hG (fun k hk=>.inr ⟨by have:=((H.own h1).2.2 k hk).1;omega,((H.own h1).2.2 k hk).2⟩)).setCellG h2 v1⟩
theorem BK.one (H:BK g r0 b e a0 z w wr xs v l) (h1:r0 < b) (h2:w.heap.size <= b) (u:Int):BK g r0 b e a0 u w (wr.setCell ⟨b,2,none⟩ (.int .i64 u)) xs v l:=
 ⟨H.hr.other (by show r0 ≠ b;omega) _,H.hx.set_ 2 _,R_far H.rr (fun k hk _=>Below.heap_setCell _ ⟨b,2,none⟩ _ k (by show k ≠ b;omega)),H.ps.setC H.hx 2 _,H.kp.setCellG h2 _⟩
end
set_option maxRecDepth 100000 in
set_option maxHeartbeats 8000000 in
theorem block_ok {n:Nat} (HS:∀ m,m < n + 1 -> StmtOK m):BlockOK (n + 1):=by
 intro g e d l w h0 h1 HP hne
 unfold StmtOK at HS
 have HS:=am HS
 have hu27:=Tryd.underlying27
 have HNE:=am hne
 have HEQ' : blockP e (n + 1) d l = if isP sLbrace l = false then .bad (atP e l) 30 else if d >= 60 then .bad (atP e l) 31 else blockL e n d (atP e l) [] l.tail:=by simp only [blockP]
 obtain ⟨R,hR⟩:∃ R,blockP e (n + 1) d l = R:=⟨_,rfl⟩
 rw [hR] at HNE HEQ' ⊢
 obtain ⟨a0,ha0⟩:∃ a,atP e l = a:=⟨_,rfl⟩
 rw [ha0] at HEQ'
 have HAT:=am ha0
 have HEQ:=am HEQ'
 have hgw:=HP.glt
 have B0:=am (below_alloc (Below.refl w.heap.size w) (Obj.cells #[.int .i64 0,.int .i64 0,.int .i64 0,.string ⟨#[]⟩,.slice none 0 0,.slice none 0 0,.int .i64 0,.string ⟨#[]⟩,.int .i64 0,.slice none 0 0] 27))
 have HZ:=am (Has.new w #[.int .i64 0,.int .i64 0,.int .i64 0,.string ⟨#[]⟩,.slice none 0 0,.slice none 0 0,.int .i64 0,.string ⟨#[]⟩,.int .i64 0,.slice none 0 0] 27)
 have HPS:=am (HP.below B0.out)
 have HK:=am ((Kept.refl (fun b=>b = g) w).below B0.out)
 clear HEQ' hne hR ha0 HP
 cases hi:isP sLbrace l with
 | false =>
  have HI:=am hi
  have HE:Aside0 (R = .bad a0 30):=⟨HEQ.out.trans (if_pos hi)⟩
  clear hi HEQ
  go_enter Tryd.func47,Tryd.ntmps47
  go_wp2_with (first | (go_at_call 29;(with_reducible refine (at_ps HPS.out).mono ?_);rintro en w1 ⟨he,hb1⟩;rw [HAT.out] at he;subst he;replace HPS:=am (HPS.out.below hb1);replace HK:=am (HK.out.below hb1);replace HZ:=am (HZ.out.belowS hb1);have hz1:=HZ.out.lt;have bX:=below_alloc (Below.refl w1.heap.size w1) (Obj.cells #[.int .i64 19,.int .i64 a0,.int .i64 0,.string ⟨#[]⟩,.slice none 0 0,.slice none 0 0,.int .i64 0,.string ⟨#[]⟩,.int .i64 0,.slice none 0 0] 27);replace HPS:=am (HPS.out.below bX);replace HK:=am (HK.out.below bX);replace HZ:=am (HZ.out.belowS bX);have HX:=am (Has.new w1 #[.int .i64 19,.int .i64 a0,.int .i64 0,.string ⟨#[]⟩,.slice none 0 0,.slice none 0 0,.int .i64 0,.string ⟨#[]⟩,.int .i64 0,.slice none 0 0] 27)) | (go_at_call 60;(with_reducible refine (is_ps sLbrace HPS.out).mono ?_);rintro en w2 ⟨he,hb2⟩;rw [HI.out] at he;subst he;replace HPS:=am (HPS.out.below hb2);replace HK:=am (HK.out.below hb2);replace HZ:=am (HZ.out.belowS hb2);replace HX:=am (HX.out.belowS hb2)) | (go_at_call 20;(with_reducible refine (fail_ps 30 HPS.out).mono ?_);rintro en w3 ⟨he,hb3⟩;subst he))
  rw [HE.out]
  exact ⟨rfl,HK.out.below hb3,by rw [HAT.out]⟩
 | true =>
  have HI:=am hi
  have HEQ2:=am (HEQ.out.trans (if_neg (by rw [hi];decide)))
  clear hi HEQ
  by_cases hd:d >= 60
  ·have HE:Aside0 (R = .bad a0 31):=⟨HEQ2.out.trans (if_pos hd)⟩
   clear HEQ2
   go_enter Tryd.func47,Tryd.ntmps47
   go_wp2_with (first | (go_at_call 29;(with_reducible refine (at_ps HPS.out).mono ?_);rintro en w1 ⟨he,hb1⟩;rw [HAT.out] at he;subst he;replace HPS:=am (HPS.out.below hb1);replace HK:=am (HK.out.below hb1);replace HZ:=am (HZ.out.belowS hb1);have hz1:=HZ.out.lt;have bX:=below_alloc (Below.refl w1.heap.size w1) (Obj.cells #[.int .i64 19,.int .i64 a0,.int .i64 0,.string ⟨#[]⟩,.slice none 0 0,.slice none 0 0,.int .i64 0,.string ⟨#[]⟩,.int .i64 0,.slice none 0 0] 27);replace HPS:=am (HPS.out.below bX);replace HK:=am (HK.out.below bX);replace HZ:=am (HZ.out.belowS bX);have HX:=am (Has.new w1 #[.int .i64 19,.int .i64 a0,.int .i64 0,.string ⟨#[]⟩,.slice none 0 0,.slice none 0 0,.int .i64 0,.string ⟨#[]⟩,.int .i64 0,.slice none 0 0] 27)) | (go_at_call 60;(with_reducible refine (is_ps sLbrace HPS.out).mono ?_);rintro en w2 ⟨he,hb2⟩;rw [HI.out] at he;subst he;replace HPS:=am (HPS.out.below hb2);replace HK:=am (HK.out.below hb2);replace HZ:=am (HZ.out.belowS hb2);replace HX:=am (HX.out.belowS hb2)) | (go_at_call 62;(with_reducible refine (deep_bad g l e d _ HPS.out hd).mono ?_);rintro en w4 ⟨he,hk4⟩;subst he))
   rw [HE.out]
   exact ⟨rfl,HK.out.then_ hk4,by rw [HAT.out]⟩
  ·have HE:=am (HEQ2.out.trans (if_neg hd))
   replace hd:d < 60:=by omega
   have HNL:Aside0 (l ≠ []):=⟨by rintro rfl;exact Bool.noConfusion HI.out⟩
   clear HEQ2
   go_enter Tryd.func47,Tryd.ntmps47
   go_wp2_with (first | (go_at_call 29;(with_reducible refine (at_ps HPS.out).mono ?_);rintro en w1 ⟨he,hb1⟩;rw [HAT.out] at he;subst he;replace HPS:=am (HPS.out.below hb1);replace HK:=am (HK.out.below hb1);replace HZ:=am (HZ.out.belowS hb1);have hz1:=HZ.out.lt;have bX:=below_alloc (Below.refl w1.heap.size w1) (Obj.cells #[.int .i64 19,.int .i64 a0,.int .i64 0,.string ⟨#[]⟩,.slice none 0 0,.slice none 0 0,.int .i64 0,.string ⟨#[]⟩,.int .i64 0,.slice none 0 0] 27);replace HPS:=am (HPS.out.below bX);replace HK:=am (HK.out.below bX);replace HZ:=am (HZ.out.belowS bX);have HX:=am (Has.new w1 #[.int .i64 19,.int .i64 a0,.int .i64 0,.string ⟨#[]⟩,.slice none 0 0,.slice none 0 0,.int .i64 0,.string ⟨#[]⟩,.int .i64 0,.slice none 0 0] 27)) | (go_at_call 60;(with_reducible refine (is_ps sLbrace HPS.out).mono ?_);rintro en w2 ⟨he,hb2⟩;rw [HI.out] at he;subst he;replace HPS:=am (HPS.out.below hb2);replace HK:=am (HK.out.below hb2);replace HZ:=am (HZ.out.belowS hb2);replace HX:=am (HX.out.belowS hb2)) | (go_at_call 62;(with_reducible refine (deep_ok g l e d _ HPS.out hd).mono ?_);rintro en w4 ⟨he,hk4,hp4⟩;subst he;have hxg:w1.heap.size ≠ g:=(by omega);have hzg:w.heap.size ≠ g:=(by omega);replace HK:=am (HK.out.then_ hk4);replace HZ:=am (Kept.has hk4 HZ.out hzg);replace HX:=am (Kept.has hk4 HX.out hxg);replace HPS:=am hp4) | (go_at_call 54;(with_reducible refine Calls.mono (next_ps HPS.out HNL.out) ?_);rintro en w5 ⟨⟨_,_,_,rfl⟩,hk5,hp5⟩;replace HK:=am (HK.out.then_ hk5);replace HZ:=am (Kept.has hk5 HZ.out hzg);replace HX:=am (Kept.has hk5 HX.out hxg);replace HPS:=am hp5))
   have HBK:BK g w.heap.size w1.heap.size e a0 0 w w5 [] (.slice none 0 0) l.tail:=⟨HZ.out,HX.out,Kd.R_nil _ _ _ _ _,HPS.out,HK.out⟩
   have HST:=am (show ∃ xs v l',blockL e n d a0 xs l' = R /\ BK g w.heap.size w1.heap.size e a0 0 w w5 xs v l' from ⟨[],_,_,HE.out.symm,HBK⟩)
   clear HBK HE HZ HX HPS HK hk4 hp4 hk5 hp5 hb1 hb2 bX
   have hwb:w.heap.size < w1.heap.size:=by omega
   generalize w1.heap.size = b at *
   go_loopg [6,7] n (fun m v6 v7 wr=>m <= n /\ Aside0 (∃ xs v l',blockL e m d a0 xs l' = R /\ BK g w.heap.size b e a0 0 w wr xs v l'))
   case atStart=>exact ⟨Nat.le_refl _,HST⟩
   case round =>
    clear HST
    obtain ⟨hmn,HQ⟩:=hrel
    cases gk with
    | zero =>
     obtain ⟨xs,v,l',hL,H⟩:=HQ.out
     exact absurd hL.symm HNE.out
    | succ m =>
     obtain ⟨xs,v,l',hL,H⟩:=HQ.out
     clear HQ
     simp only [blockL] at hL
     have HBK:=am H
     clear H
     cases hj:isP sRbrace l' with
     | true =>
      rw [if_pos hj] at hL
      have HJ:=am hj
      have HRR:=am hL
      clear hj hL
      obtain ⟨A,c,rfl⟩:=Kd.R_slice HBK.out.rr
      go_wp2_with (first | (go_at_call 60;(with_reducible refine (is_ps sRbrace HBK.out.ps).mono ?_);rintro en w8 ⟨he,hb8⟩;rw [HJ.out] at he;subst he;replace HBK:=am (HBK.out.below hb8)) | (go_at_call 42;(with_reducible refine (need_yes sRbrace HBK.out.ps HJ.out).mono ?_);rintro en w9 ⟨he,hk9,hp9⟩;subst he;replace HBK:=am (HBK.out.step hzg hxg hk9 hp9)) | ((with_reducible refine gate_dst (N:=40) rfl ?_);go_must (refine Kd.event_run rfl (load27 w9 (b) #[.int .i64 19,.int .i64 a0,.int .i64 0,.string ⟨#[]⟩,.slice A xs.length c,.slice none 0 0,.int .i64 0,.string ⟨#[]⟩,.int .i64 0,.slice none 0 0] HBK.out.hx rfl _ _ _ rfl rfl) ?_)) | ((with_reducible refine gate_store (t:=27) (p:=4) rfl ?_);go_must (refine store_event (t:=27) (p:=4) (v:=.tmp 40) (w1:=World.setRow w9 (w.heap.size) #[.int .i64 19,.int .i64 a0,.int .i64 0,.string ⟨#[]⟩,.slice A xs.length c,.slice none 0 0,.int .i64 0,.string ⟨#[]⟩,.int .i64 0,.slice none 0 0]) ?hg ?ho ?hn ?hr ?_;(case ho=>rfl);(case hg=>rfl);(case hn=>rfl);(case hr=>exact store27 w9 (w.heap.size) _ _ HBK.out.hr rfl rfl (by first | kernel_rfl | (simp [Value.oneCell'])) _ _ _ _ rfl rfl rfl);intro w7 hw7;subst hw7)))
      have VN:VE w.heap.size (World.setRow w9 w.heap.size #[.int .i64 19,.int .i64 a0,.int .i64 0,.string ⟨#[]⟩,.slice A xs.length c,.slice none 0 0,.int .i64 0,.string ⟨#[]⟩,.int .i64 0,.slice none 0 0]) (.agg #[.int .i64 19,.int .i64 a0,.int .i64 0,.string ⟨#[]⟩,.slice A xs.length c,.slice none 0 0,.int .i64 0,.string ⟨#[]⟩,.int .i64 0,.slice none 0 0]) (mkE 19 a0 0 ⟨#[]⟩ xs []):=((VO.node 19 a0 0 ⟨#[]⟩ HBK.out.rr).row (by omega) _).lower (by omega)
      refine bodyPost_ret (results_cell_row rfl _ _ w.heap.size 27 #[.int .i64 19,.int .i64 a0,.int .i64 0,.string ⟨#[]⟩,.slice A xs.length c,.slice none 0 0,.int .i64 0,.string ⟨#[]⟩,.int .i64 0,.slice none 0 0] (0,0) _ rfl (has_row HBK.out.hr _) Tryd.underlying27 rfl (by rfl)) rfl ?_
      rw [<- HRR.out]
      exact ⟨kept_row HBK.out.kp (Nat.le_refl _) _,_,rfl,VN,HBK.out.ps.rowP HBK.out.hr _⟩
     | false =>
      rw [if_neg (by rw [hj];decide)] at hL
      have HJ:=am hj
      clear hj
      by_cases hx9:xs.length >= 1000000
      ·rw [if_pos hx9] at hL
       exact absurd hL.symm HNE.out
      rw [if_neg hx9] at hL
      obtain ⟨A,c,rfl⟩:=Kd.R_slice HBK.out.rr
      cases hr:stmtP e m d l' with
      | out=>rw [hr] at hL;exact absurd hL.symm HNE.out
      | bad aa er =>
       rw [hr] at hL
       have HRR:=am (show PR.bad aa er = R from hL)
       have HR:=am hr
       have HNO:=am (show stmtP e m d l' ≠ .out by rw [hr];exact PR.bad_ne _ _)
       clear hL hr
       go_wp2_with (first | (go_at_call 60;(with_reducible refine (is_ps sRbrace HBK.out.ps).mono ?_);rintro en w8 ⟨he,hb8⟩;rw [HJ.out] at he;subst he;replace HBK:=am (HBK.out.below hb8)) | (go_at_call 67;(with_reducible refine Calls.mono (HS.out m (by omega) g e d _ _ h0 hd HBK.out.ps HNO.out) ?_);rintro en w9 ⟨hk9,hq9⟩;rw [HR.out] at hq9;subst hq9))
       rw [<- HRR.out]
       exact ⟨rfl,HBK.out.kp.then_ hk9,rfl⟩
      | ok xv l1 =>
       obtain ⟨x,vb⟩:=xv
       rw [hr] at hL
       have HR:=am hr
       have HNO:=am (show stmtP e m d l' ≠ .out by rw [hr];exact PR.ok_ne _ _)
       clear hr
       have hrb:∀ k,(Value.ownBlock (.slice A xs.length c)) = some k -> b + 1 <= k /\ k < wr.heap.size:=fun k hk=>⟨((Kd.R_bound HBK.out.rr).1 k hk).2.1,((Kd.R_bound HBK.out.rr).1 k hk).2.2.1⟩
       have hbw:=HBK.out.hx.lt
       cases vb with
       | false =>
        have HRR:=am (show blockL e m d a0 (xs ++ [x]) l1 = R from hL)
        clear hL
        go_wp2_with (first | (go_at_call 60;(with_reducible refine (is_ps sRbrace HBK.out.ps).mono ?_);rintro en w8 ⟨he,hb8⟩;rw [HJ.out] at he;subst he;replace HBK:=am (HBK.out.below hb8)) | (go_at_call 67;(with_reducible refine Calls.mono (HS.out m (by omega) g e d _ _ h0 hd HBK.out.ps HNO.out) ?_);rintro en w9 ⟨hk9,hq9⟩;rw [HR.out] at hq9;obtain ⟨v9,rfl,⟨u,rfl,hv9⟩,hp9⟩:=hq9;obtain ⟨a4,ac4,a5,ac5,a9,ac9,rfl⟩:=hv9.form;have hz8:=hb8.size;have hz9:=hk9.size;replace HBK:=am (HBK.out.step hzg hxg hk9 hp9);have b9:=below_alloc (Below.refl w9.heap.size w9) (Obj.cells #[.int .i64 x.f0,.int .i64 x.f1,.int .i64 x.f2,.string x.f3,.slice a4 x.f4.length ac4,.slice a5 x.f5.length ac5,.int .i64 x.f6.f0,.string x.f6.f1,.int .i64 x.f6.f2,.slice a9 x.f6.f3.length ac9] 27);have HV:=am (hv9.below b9);replace HBK:=am (HBK.out.below b9);have HY:=am (Has.new w9 #[.int .i64 x.f0,.int .i64 x.f1,.int .i64 x.f2,.string x.f3,.slice a4 x.f4.length ac4,.slice a5 x.f5.length ac5,.int .i64 x.f6.f0,.string x.f6.f1,.int .i64 x.f6.f2,.slice a9 x.f6.f3.length ac9] 27);have c4:=hci HBK.out.hx 4 rfl;have HKD:Aside0 (k27.R 27 ((w9.alloc (Obj.cells #[.int .i64 x.f0,.int .i64 x.f1,.int .i64 x.f2,.string x.f3,.slice a4 x.f4.length ac4,.slice a5 x.f5.length ac5,.int .i64 x.f6.f0,.string x.f6.f1,.int .i64 x.f6.f2,.slice a9 x.f6.f3.length ac9] 27)).alloc (Obj.cells #[.int .i64 x.f0,.int .i64 x.f1,.int .i64 x.f2,.string x.f3,.slice a4 x.f4.length ac4,.slice a5 x.f5.length ac5,.int .i64 x.f6.f0,.string x.f6.f1,.int .i64 x.f6.f2,.slice a9 x.f6.f3.length ac9] 27)) w8.heap.size Any (.slice (some ⟨w9.heap.size + 1,0,none⟩) 1 1) [x]):=(by have h:=kidA (cs:=[.int .i64 x.f0,.int .i64 x.f1,.int .i64 x.f2,.string x.f3,.slice a4 x.f4.length ac4,.slice a5 x.f5.length ac5,.int .i64 x.f6.f0,.string x.f6.f1,.int .i64 x.f6.f2,.slice a9 x.f6.f3.length ac9]) HV.out (by simp;omega);rw [show (w9.alloc (Obj.cells #[.int .i64 x.f0,.int .i64 x.f1,.int .i64 x.f2,.string x.f3,.slice a4 x.f4.length ac4,.slice a5 x.f5.length ac5,.int .i64 x.f6.f0,.string x.f6.f1,.int .i64 x.f6.f2,.slice a9 x.f6.f3.length ac9] 27)).heap.size = w9.heap.size + 1 by simp] at h;exact ⟨h⟩);have bK:=below_alloc (Below.refl (w9.alloc (Obj.cells #[.int .i64 x.f0,.int .i64 x.f1,.int .i64 x.f2,.string x.f3,.slice a4 x.f4.length ac4,.slice a5 x.f5.length ac5,.int .i64 x.f6.f0,.string x.f6.f1,.int .i64 x.f6.f2,.slice a9 x.f6.f3.length ac9] 27)).heap.size (w9.alloc (Obj.cells #[.int .i64 x.f0,.int .i64 x.f1,.int .i64 x.f2,.string x.f3,.slice a4 x.f4.length ac4,.slice a5 x.f5.length ac5,.int .i64 x.f6.f0,.string x.f6.f1,.int .i64 x.f6.f2,.slice a9 x.f6.f3.length ac9] 27))) (Obj.cells #[.int .i64 x.f0,.int .i64 x.f1,.int .i64 x.f2,.string x.f3,.slice a4 x.f4.length ac4,.slice a5 x.f5.length ac5,.int .i64 x.f6.f0,.string x.f6.f1,.int .i64 x.f6.f2,.slice a9 x.f6.f3.length ac9] 27);have HBK9:=am (HBK.out.below bK)) | ((with_reducible refine gate_dst (N:=32) rfl ?_);go_must (refine Kd.event_run rfl (load27 (w9.alloc (Obj.cells #[.int .i64 x.f0,.int .i64 x.f1,.int .i64 x.f2,.string x.f3,.slice a4 x.f4.length ac4,.slice a5 x.f5.length ac5,.int .i64 x.f6.f0,.string x.f6.f1,.int .i64 x.f6.f2,.slice a9 x.f6.f3.length ac9] 27)) (w9.heap.size) #[.int .i64 x.f0,.int .i64 x.f1,.int .i64 x.f2,.string x.f3,.slice a4 x.f4.length ac4,.slice a5 x.f5.length ac5,.int .i64 x.f6.f0,.string x.f6.f1,.int .i64 x.f6.f2,.slice a9 x.f6.f3.length ac9] HY.out rfl _ _ _ rfl rfl) ?_)) | (refine append27 Tryd.underlying22 info27 (b + 1) w8.heap.size rfl (.tmp 31) (.tmp 33) rfl (.slice A xs.length c) xs [x] (some ⟨w9.heap.size + 1,0,none⟩) 1 1 (by rfl) (by rfl) HBK9.out.rr HKD.out (by omega) (fun kk hkk=>by have:=(hrb kk hkk).2;omega) (by simp;omega) (by simp;omega) ?_;intro v1 w10 hR10 hG10;obtain ⟨A10,c10,rfl⟩:=Kd.R_slice hR10;rw [show (xs ++ [x]).length = xs.length + 1 by simp] at hR10;have c4:=(HBK9.out.hx_grown hwb hG10).cell 4;simp only [List.getElem?_toArray,List.getElem?_cons_zero,List.getElem?_cons_succ] at c4;have f4:=(HBK9.out.hx_grown hwb hG10).frozen 4;have HB11:=am (HBK9.out.push hwb (by omega) hG10 hR10);have c2:=hci HB11.out.hx 2 rfl;have f2:=(HBK9.out.hx_grown hwb hG10).frozen 2;have c2x:=(HBK9.out.hx_grown hwb hG10).cell 2;simp only [List.getElem?_toArray,List.getElem?_cons_zero,List.getElem?_cons_succ] at c2x;clear hR10 hG10 HBK9 HKD))
        go_roundg m
        case measure=>omega
        case rel=>exact ⟨by omega,⟨⟨_,_,_,HRR.out,HB11.out⟩⟩⟩
       | true =>
        have HRR:=am (show (if isP sRbrace l1 = true then PR.ok (mkE 19 a0 1 ⟨#[]⟩ (xs ++ [x]) []) l1.tail else .bad (atP e l1) 30) = R from hL)
        clear hL
        cases hq:isP sRbrace l1 with
        | false =>
         have HQ:=am hq
         have HR2:=am (HRR.out.symm.trans (if_neg (by rw [hq];decide)))
         clear hq HRR
         go_wp2_with (first | (go_at_call 60;(with_reducible refine (is_ps sRbrace HBK.out.ps).mono ?_);rintro en w8 ⟨he,hb8⟩;rw [HJ.out] at he;subst he;replace HBK:=am (HBK.out.below hb8)) | (go_at_call 67;(with_reducible refine Calls.mono (HS.out m (by omega) g e d _ _ h0 hd HBK.out.ps HNO.out) ?_);rintro en w9 ⟨hk9,hq9⟩;rw [HR.out] at hq9;obtain ⟨v9,rfl,⟨u,rfl,hv9⟩,hp9⟩:=hq9;obtain ⟨a4,ac4,a5,ac5,a9,ac9,rfl⟩:=hv9.form;have hz8:=hb8.size;have hz9:=hk9.size;replace HBK:=am (HBK.out.step hzg hxg hk9 hp9);have b9:=below_alloc (Below.refl w9.heap.size w9) (Obj.cells #[.int .i64 x.f0,.int .i64 x.f1,.int .i64 x.f2,.string x.f3,.slice a4 x.f4.length ac4,.slice a5 x.f5.length ac5,.int .i64 x.f6.f0,.string x.f6.f1,.int .i64 x.f6.f2,.slice a9 x.f6.f3.length ac9] 27);have HV:=am (hv9.below b9);replace HBK:=am (HBK.out.below b9);have HY:=am (Has.new w9 #[.int .i64 x.f0,.int .i64 x.f1,.int .i64 x.f2,.string x.f3,.slice a4 x.f4.length ac4,.slice a5 x.f5.length ac5,.int .i64 x.f6.f0,.string x.f6.f1,.int .i64 x.f6.f2,.slice a9 x.f6.f3.length ac9] 27);have c4:=hci HBK.out.hx 4 rfl;have HKD:Aside0 (k27.R 27 ((w9.alloc (Obj.cells #[.int .i64 x.f0,.int .i64 x.f1,.int .i64 x.f2,.string x.f3,.slice a4 x.f4.length ac4,.slice a5 x.f5.length ac5,.int .i64 x.f6.f0,.string x.f6.f1,.int .i64 x.f6.f2,.slice a9 x.f6.f3.length ac9] 27)).alloc (Obj.cells #[.int .i64 x.f0,.int .i64 x.f1,.int .i64 x.f2,.string x.f3,.slice a4 x.f4.length ac4,.slice a5 x.f5.length ac5,.int .i64 x.f6.f0,.string x.f6.f1,.int .i64 x.f6.f2,.slice a9 x.f6.f3.length ac9] 27)) w8.heap.size Any (.slice (some ⟨w9.heap.size + 1,0,none⟩) 1 1) [x]):=(by have h:=kidA (cs:=[.int .i64 x.f0,.int .i64 x.f1,.int .i64 x.f2,.string x.f3,.slice a4 x.f4.length ac4,.slice a5 x.f5.length ac5,.int .i64 x.f6.f0,.string x.f6.f1,.int .i64 x.f6.f2,.slice a9 x.f6.f3.length ac9]) HV.out (by simp;omega);rw [show (w9.alloc (Obj.cells #[.int .i64 x.f0,.int .i64 x.f1,.int .i64 x.f2,.string x.f3,.slice a4 x.f4.length ac4,.slice a5 x.f5.length ac5,.int .i64 x.f6.f0,.string x.f6.f1,.int .i64 x.f6.f2,.slice a9 x.f6.f3.length ac9] 27)).heap.size = w9.heap.size + 1 by simp] at h;exact ⟨h⟩);have bK:=below_alloc (Below.refl (w9.alloc (Obj.cells #[.int .i64 x.f0,.int .i64 x.f1,.int .i64 x.f2,.string x.f3,.slice a4 x.f4.length ac4,.slice a5 x.f5.length ac5,.int .i64 x.f6.f0,.string x.f6.f1,.int .i64 x.f6.f2,.slice a9 x.f6.f3.length ac9] 27)).heap.size (w9.alloc (Obj.cells #[.int .i64 x.f0,.int .i64 x.f1,.int .i64 x.f2,.string x.f3,.slice a4 x.f4.length ac4,.slice a5 x.f5.length ac5,.int .i64 x.f6.f0,.string x.f6.f1,.int .i64 x.f6.f2,.slice a9 x.f6.f3.length ac9] 27))) (Obj.cells #[.int .i64 x.f0,.int .i64 x.f1,.int .i64 x.f2,.string x.f3,.slice a4 x.f4.length ac4,.slice a5 x.f5.length ac5,.int .i64 x.f6.f0,.string x.f6.f1,.int .i64 x.f6.f2,.slice a9 x.f6.f3.length ac9] 27);have HBK9:=am (HBK.out.below bK)) | ((with_reducible refine gate_dst (N:=32) rfl ?_);go_must (refine Kd.event_run rfl (load27 (w9.alloc (Obj.cells #[.int .i64 x.f0,.int .i64 x.f1,.int .i64 x.f2,.string x.f3,.slice a4 x.f4.length ac4,.slice a5 x.f5.length ac5,.int .i64 x.f6.f0,.string x.f6.f1,.int .i64 x.f6.f2,.slice a9 x.f6.f3.length ac9] 27)) (w9.heap.size) #[.int .i64 x.f0,.int .i64 x.f1,.int .i64 x.f2,.string x.f3,.slice a4 x.f4.length ac4,.slice a5 x.f5.length ac5,.int .i64 x.f6.f0,.string x.f6.f1,.int .i64 x.f6.f2,.slice a9 x.f6.f3.length ac9] HY.out rfl _ _ _ rfl rfl) ?_)) | (refine append27 Tryd.underlying22 info27 (b + 1) w8.heap.size rfl (.tmp 31) (.tmp 33) rfl (.slice A xs.length c) xs [x] (some ⟨w9.heap.size + 1,0,none⟩) 1 1 (by rfl) (by rfl) HBK9.out.rr HKD.out (by omega) (fun kk hkk=>by have:=(hrb kk hkk).2;omega) (by simp;omega) (by simp;omega) ?_;intro v1 w10 hR10 hG10;obtain ⟨A10,c10,rfl⟩:=Kd.R_slice hR10;rw [show (xs ++ [x]).length = xs.length + 1 by simp] at hR10;have c4:=(HBK9.out.hx_grown hwb hG10).cell 4;simp only [List.getElem?_toArray,List.getElem?_cons_zero,List.getElem?_cons_succ] at c4;have f4:=(HBK9.out.hx_grown hwb hG10).frozen 4;have HB11:=am (HBK9.out.push hwb (by omega) hG10 hR10);have c2:=hci HB11.out.hx 2 rfl;have f2:=(HBK9.out.hx_grown hwb hG10).frozen 2;have c2x:=(HBK9.out.hx_grown hwb hG10).cell 2;simp only [List.getElem?_toArray,List.getElem?_cons_zero,List.getElem?_cons_succ] at c2x;clear hR10 hG10 HBK9 HKD) | (go_at_call 42;have HB12:=am (HB11.out.one hwb (by omega) 1);(with_reducible refine (need_no sRbrace HB12.out.ps HQ.out).mono ?_);rintro en w13 ⟨he,hk13⟩;subst he))
         rw [HR2.out]
         exact ⟨rfl,HB12.out.kp.then_ hk13,rfl⟩
        | true =>
         have HQ:=am hq
         have HR2:=am (HRR.out.symm.trans (if_pos hq))
         clear hq HRR
         go_wp2_with (first | (go_at_call 60;(with_reducible refine (is_ps sRbrace HBK.out.ps).mono ?_);rintro en w8 ⟨he,hb8⟩;rw [HJ.out] at he;subst he;replace HBK:=am (HBK.out.below hb8)) | (go_at_call 67;(with_reducible refine Calls.mono (HS.out m (by omega) g e d _ _ h0 hd HBK.out.ps HNO.out) ?_);rintro en w9 ⟨hk9,hq9⟩;rw [HR.out] at hq9;obtain ⟨v9,rfl,⟨u,rfl,hv9⟩,hp9⟩:=hq9;obtain ⟨a4,ac4,a5,ac5,a9,ac9,rfl⟩:=hv9.form;have hz8:=hb8.size;have hz9:=hk9.size;replace HBK:=am (HBK.out.step hzg hxg hk9 hp9);have b9:=below_alloc (Below.refl w9.heap.size w9) (Obj.cells #[.int .i64 x.f0,.int .i64 x.f1,.int .i64 x.f2,.string x.f3,.slice a4 x.f4.length ac4,.slice a5 x.f5.length ac5,.int .i64 x.f6.f0,.string x.f6.f1,.int .i64 x.f6.f2,.slice a9 x.f6.f3.length ac9] 27);have HV:=am (hv9.below b9);replace HBK:=am (HBK.out.below b9);have HY:=am (Has.new w9 #[.int .i64 x.f0,.int .i64 x.f1,.int .i64 x.f2,.string x.f3,.slice a4 x.f4.length ac4,.slice a5 x.f5.length ac5,.int .i64 x.f6.f0,.string x.f6.f1,.int .i64 x.f6.f2,.slice a9 x.f6.f3.length ac9] 27);have c4:=hci HBK.out.hx 4 rfl;have HKD:Aside0 (k27.R 27 ((w9.alloc (Obj.cells #[.int .i64 x.f0,.int .i64 x.f1,.int .i64 x.f2,.string x.f3,.slice a4 x.f4.length ac4,.slice a5 x.f5.length ac5,.int .i64 x.f6.f0,.string x.f6.f1,.int .i64 x.f6.f2,.slice a9 x.f6.f3.length ac9] 27)).alloc (Obj.cells #[.int .i64 x.f0,.int .i64 x.f1,.int .i64 x.f2,.string x.f3,.slice a4 x.f4.length ac4,.slice a5 x.f5.length ac5,.int .i64 x.f6.f0,.string x.f6.f1,.int .i64 x.f6.f2,.slice a9 x.f6.f3.length ac9] 27)) w8.heap.size Any (.slice (some ⟨w9.heap.size + 1,0,none⟩) 1 1) [x]):=(by have h:=kidA (cs:=[.int .i64 x.f0,.int .i64 x.f1,.int .i64 x.f2,.string x.f3,.slice a4 x.f4.length ac4,.slice a5 x.f5.length ac5,.int .i64 x.f6.f0,.string x.f6.f1,.int .i64 x.f6.f2,.slice a9 x.f6.f3.length ac9]) HV.out (by simp;omega);rw [show (w9.alloc (Obj.cells #[.int .i64 x.f0,.int .i64 x.f1,.int .i64 x.f2,.string x.f3,.slice a4 x.f4.length ac4,.slice a5 x.f5.length ac5,.int .i64 x.f6.f0,.string x.f6.f1,.int .i64 x.f6.f2,.slice a9 x.f6.f3.length ac9] 27)).heap.size = w9.heap.size + 1 by simp] at h;exact ⟨h⟩);have bK:=below_alloc (Below.refl (w9.alloc (Obj.cells #[.int .i64 x.f0,.int .i64 x.f1,.int .i64 x.f2,.string x.f3,.slice a4 x.f4.length ac4,.slice a5 x.f5.length ac5,.int .i64 x.f6.f0,.string x.f6.f1,.int .i64 x.f6.f2,.slice a9 x.f6.f3.length ac9] 27)).heap.size (w9.alloc (Obj.cells #[.int .i64 x.f0,.int .i64 x.f1,.int .i64 x.f2,.string x.f3,.slice a4 x.f4.length ac4,.slice a5 x.f5.length ac5,.int .i64 x.f6.f0,.string x.f6.f1,.int .i64 x.f6.f2,.slice a9 x.f6.f3.length ac9] 27))) (Obj.cells #[.int .i64 x.f0,.int .i64 x.f1,.int .i64 x.f2,.string x.f3,.slice a4 x.f4.length ac4,.slice a5 x.f5.length ac5,.int .i64 x.f6.f0,.string x.f6.f1,.int .i64 x.f6.f2,.slice a9 x.f6.f3.length ac9] 27);have HBK9:=am (HBK.out.below bK)) | ((with_reducible refine gate_dst (N:=32) rfl ?_);go_must (refine Kd.event_run rfl (load27 (w9.alloc (Obj.cells #[.int .i64 x.f0,.int .i64 x.f1,.int .i64 x.f2,.string x.f3,.slice a4 x.f4.length ac4,.slice a5 x.f5.length ac5,.int .i64 x.f6.f0,.string x.f6.f1,.int .i64 x.f6.f2,.slice a9 x.f6.f3.length ac9] 27)) (w9.heap.size) #[.int .i64 x.f0,.int .i64 x.f1,.int .i64 x.f2,.string x.f3,.slice a4 x.f4.length ac4,.slice a5 x.f5.length ac5,.int .i64 x.f6.f0,.string x.f6.f1,.int .i64 x.f6.f2,.slice a9 x.f6.f3.length ac9] HY.out rfl _ _ _ rfl rfl) ?_)) | (refine append27 Tryd.underlying22 info27 (b + 1) w8.heap.size rfl (.tmp 31) (.tmp 33) rfl (.slice A xs.length c) xs [x] (some ⟨w9.heap.size + 1,0,none⟩) 1 1 (by rfl) (by rfl) HBK9.out.rr HKD.out (by omega) (fun kk hkk=>by have:=(hrb kk hkk).2;omega) (by simp;omega) (by simp;omega) ?_;intro v1 w10 hR10 hG10;obtain ⟨A10,c10,rfl⟩:=Kd.R_slice hR10;rw [show (xs ++ [x]).length = xs.length + 1 by simp] at hR10;have c4:=(HBK9.out.hx_grown hwb hG10).cell 4;simp only [List.getElem?_toArray,List.getElem?_cons_zero,List.getElem?_cons_succ] at c4;have f4:=(HBK9.out.hx_grown hwb hG10).frozen 4;have HB11:=am (HBK9.out.push hwb (by omega) hG10 hR10);have c2:=hci HB11.out.hx 2 rfl;have f2:=(HBK9.out.hx_grown hwb hG10).frozen 2;have c2x:=(HBK9.out.hx_grown hwb hG10).cell 2;simp only [List.getElem?_toArray,List.getElem?_cons_zero,List.getElem?_cons_succ] at c2x;clear hR10 hG10 HBK9 HKD) | (go_at_call 42;have HB12:=am (HB11.out.one hwb (by omega) 1);(with_reducible refine (need_yes sRbrace HB12.out.ps HQ.out).mono ?_);rintro en w13 ⟨he,hk13,hp13⟩;subst he;replace HB12:=am (HB12.out.step hzg hxg hk13 hp13)) | ((with_reducible refine gate_dst (N:=40) rfl ?_);go_must (refine Kd.event_run rfl (load27 w13 (b) #[.int .i64 19,.int .i64 a0,.int .i64 1,.string ⟨#[]⟩,.slice A10 (xs.length + 1) c10,.slice none 0 0,.int .i64 0,.string ⟨#[]⟩,.int .i64 0,.slice none 0 0] HB12.out.hx rfl _ _ _ rfl rfl) ?_)) | ((with_reducible refine gate_store (t:=27) (p:=4) rfl ?_);go_must (refine store_event (t:=27) (p:=4) (v:=.tmp 40) (w1:=World.setRow w13 (w.heap.size) #[.int .i64 19,.int .i64 a0,.int .i64 1,.string ⟨#[]⟩,.slice A10 (xs.length + 1) c10,.slice none 0 0,.int .i64 0,.string ⟨#[]⟩,.int .i64 0,.slice none 0 0]) ?hg ?ho ?hn ?hr ?_;(case ho=>rfl);(case hg=>rfl);(case hn=>rfl);(case hr=>exact store27 w13 (w.heap.size) _ _ HB12.out.hr rfl rfl (by first | kernel_rfl | (simp [Value.oneCell'])) _ _ _ _ rfl rfl rfl);intro w7 hw7;subst hw7)))
         have VN:VE w.heap.size (World.setRow w13 w.heap.size #[.int .i64 19,.int .i64 a0,.int .i64 1,.string ⟨#[]⟩,.slice A10 (xs.length + 1) c10,.slice none 0 0,.int .i64 0,.string ⟨#[]⟩,.int .i64 0,.slice none 0 0]) (.agg #[.int .i64 19,.int .i64 a0,.int .i64 1,.string ⟨#[]⟩,.slice A10 (xs.length + 1) c10,.slice none 0 0,.int .i64 0,.string ⟨#[]⟩,.int .i64 0,.slice none 0 0]) (mkE 19 a0 1 ⟨#[]⟩ (xs ++ [x]) []):=((VO.node 19 a0 1 ⟨#[]⟩ HB12.out.rr).row (by omega) _).lower (by omega)
         refine bodyPost_ret (results_cell_row rfl _ _ w.heap.size 27 #[.int .i64 19,.int .i64 a0,.int .i64 1,.string ⟨#[]⟩,.slice A10 (xs.length + 1) c10,.slice none 0 0,.int .i64 0,.string ⟨#[]⟩,.int .i64 0,.slice none 0 0] (0,0) _ rfl (has_row HB12.out.hr _) Tryd.underlying27 rfl (by rfl)) rfl ?_
         rw [HR2.out]
         exact ⟨kept_row HB12.out.kp (Nat.le_refl _) _,_,rfl,VN,HB12.out.ps.rowP HB12.out.hr _⟩
end Go.Proofs.YtngpgdmafmkddaaDoor.Par
end
