/- Steps toward the laws of the parser (B), merged from several texts (some of them began as the kit's print). No condition. -/
import Derived.Deep.DeepCutAuto
import Derived.Test.YtngpgdmafmkddaaDoorZB5
section
namespace Go.Proofs.YtngpgdmafmkddaaDoor.Par
open Go.Proofs.YtngpgdmafmkddaaDoor.Calm Go.RowKit Go.Proofs.YtngpgdmafmkddaaDoorW.PrintWords Go.Proofs.YtngpgdmafmkddaaDoorW.PrintLast Go.Proofs.YtngpgdmafmkddaaDoorW.PrintMore
open Go.Proofs.YtngpgdmafmkddaaDoor.PParseBlanks (S35 S25 S27 k35 k25 k27 rd_T35 rd_T25 rd_T27 at_T35 at_T25 at_T27)
set_option linter.unusedVariables false
set_option linter.unusedSimpArgs false
def IB (g:Nat) (b bx:Nat) (a0:Int) (tx:ByteArray) (w:World) (xs:List S27):Prop:=
 ∃ v,Has w b #[.pointer (some ⟨g,0,none⟩)] 52 /\ Has w bx #[.int .i64 26,.int .i64 a0,.int .i64 0,.string tx,v,.slice none 0 0,.int .i64 0,.string ⟨#[]⟩,.int .i64 0,.slice none 0 0] 27 /\ k27.R 27 w (bx + 1) Any v xs
theorem IB.of {g b bx:Nat} {a0:Int} {tx:ByteArray} {w:World} {xs:List S27} {v:Value} (h1:Has w b #[.pointer (some ⟨g,0,none⟩)] 52) (h2:Has w bx #[.int .i64 26,.int .i64 a0,.int .i64 0,.string tx,v,.slice none 0 0,.int .i64 0,.string ⟨#[]⟩,.int .i64 0,.slice none 0 0] 27) (h3:k27.R 27 w (bx + 1) Any v xs):IB g b bx a0 tx w xs:=⟨v,h1,h2,h3⟩
theorem IB.kept {g b bx:Nat} {a0:Int} {tx:ByteArray} {w w' : World} {xs:List S27} (hgb:g < b) (hbx:b < bx) (h:IB g b bx a0 tx w xs) (hk:KeptG g w w'):IB g b bx a0 tx w' xs:=by
 obtain ⟨v,h1,h3,h4⟩:=h
 refine ⟨v,Kept.has hk h1 (by omega),Kept.has hk h3 (by omega),Kd.R_mono (Kd.R_step (Kd.R_bound h4) fun k hk1 hk2=>hk.block k hk2 (by have:=hk1.2.1;omega)) fun _ _=>trivial⟩
set_option maxRecDepth 100000 in
set_option maxHeartbeats 8000000 in
theorem binds_rd (g:Nat) (e:Int) (b bx:Nat) (hgb:g < b) (hbx:b < bx) (a0:Int) (tx:ByteArray) (xs:List S27) (l:List S35) (w:World) (HI:IB g b bx a0 tx w xs) (HP:PS w g l e) (hne:bindP e xs l ≠ .out) :
  Calls Tryd.prog 87 #[.pointer (some ⟨bx,0,none⟩),.pointer (some ⟨b,0,none⟩)] w (LPost g e (fun k=>k = g \/ bx <= k) (IB g b bx a0 tx) (bindP e xs l) w):=by
 have hu27:=Tryd.underlying27
 obtain ⟨R,hR⟩:∃ R,bindP e xs l = R:=⟨_,rfl⟩
 have hE:=hR
 unfold bindP at hE
 rw [hR] at hne ⊢
 obtain ⟨a1,ha1⟩:∃ a,atP e l = a:=⟨_,rfl⟩
 rw [ha1] at hE
 have HAT:=am ha1
 have HEQ:=am hE.symm
 have HNE:=am hne
 have hgw:=HP.glt
 obtain ⟨v,hb0,hb2,hRW⟩:=HI
 obtain ⟨A,c,rfl⟩:=Kd.R_slice hRW
 have hsl:=fun k hk=>(R_ownb hRW k hk).2
 have hRW0:=am hRW
 have HB0:=am hb0
 have HX:=am hb2
 have hbw:=hb2.lt
 have HK:Aside0 (KeptG g w w):=⟨Kept.refl _ w⟩
 have HP0:=am HP
 have HP:=am HP
 clear hR hne hE ha1 hb0 hb2 hRW
 go_enter Tryd.func87,Tryd.ntmps87
 go_wp2_with fail
 have hD:=below_drew (Below.refl (w).heap.size (w))
 replace HK:=am (Kept.below HK.out hD)
 replace HP:=am (HP.out.below hD)
 replace HB0:=am (HB0.out.belowS hD)
 replace HX:=am (HX.out.belowS hD)
 clear hD
 obtain ⟨W1,hW1⟩:∃ W,(w).drew = W:=⟨_,rfl⟩
 rw [hW1] at HK HP HB0 HX
 have hzW1:(w).heap.size <= W1.heap.size:=by rw [<- hW1];exact Nat.le_refl _
 try simp at hzW1
 refine region_treeR 9 (by kernel_rfl) (by kernel_rfl) (fun w' => Has w' (b) #[.pointer (some ⟨g,0,none⟩)] 52 /\ Has w' (bx) #[.int .i64 26,.int .i64 a0,.int .i64 0,.string tx,.slice A xs.length c,.slice none 0 0,.int .i64 0,.string ⟨#[]⟩,.int .i64 0,.slice none 0 0] 27) (hW1 ▸ ⟨HB0.out,HX.out⟩) fun hS => ?_
 rw [hW1] at hS ⊢
 clear hW1
 simp only [List.take_succ_cons,List.take_zero]
 generalize hQQ:tailK _ _ = QQ
 have hsure:Sure QQ:=by
  rw [<- hQQ]
  intro c a a' w1 hd h
  simp +zetaDelta only [tailK,Exit.then,Exit.inBlock,bodyPost] at h ⊢
  simpa [hd] using h
 refine tqh hsure hS 0 ?_
 apply Exists.intro
 apply And.intro
 ·rintro w' ⟨k1,k2⟩
  apply VR.mk
  go_simp
  with_reducible rfl
 try simp only [sA,sB,sC]
 refine tqh hsure hS 1 ?_
 apply Exists.intro
 apply And.intro
 ·rintro w' ⟨k1,k2⟩
  have cc1:=hci k2 4 rfl
  apply VR.mk
  go_simp
  with_reducible rfl
 try simp only [sA,sB,sC]
 refine tqh hsure hS 2 ?_
 apply Exists.intro
 apply And.intro
 ·rintro w' ⟨k1,k2⟩
  have cc0:=hci k1 0 rfl
  apply VR.mk
  go_simp
  with_reducible rfl
 try simp only [sA,sB,sC]
 refine tqh hsure hS 4 ?_
 apply Exists.intro
 apply And.intro
 ·rintro w' ⟨k1,k2⟩
  have cc0:=hci k1 0 rfl
  apply VR.mk
  go_simp
  with_reducible rfl
 try simp only [sA,sB,sC]
 refine tqh hsure hS 7 ?_
 apply Exists.intro
 apply And.intro
 ·rintro w' ⟨k1,k2⟩
  apply VR.mk
  go_simp
  with_reducible rfl
 try simp only [sA,sB,sC]
 refine tree_2Q (i:=3) (k:=8) (by kernel_rfl) ?_ ?_
 ·skip
  refine step_callQ (by rfl) (by rfl) (by rfl) (ER.go (by go_simp;with_reducible exact ⟨rfl,rfl⟩)) ?_
  refine (at_ps HP.out).mono ?_
  rintro en w1 ⟨he1,hb1⟩
  rw [HAT.out] at he1
  subst he1
  replace HK:=am (Kept.below HK.out hb1)
  replace HP:=am (HP.out.below hb1)
  replace HB0:=am (HB0.out.belowS hb1)
  replace HX:=am (HX.out.belowS hb1)
  have hs1:=Below.size hb1
  try simp at hs1
  refine .inl ⟨_,rfl,⟨HB0.out,HX.out⟩, ?_⟩
  simp only [sA,sB,sC]
  refine tree_2Q (i:=5) (k:=8) (by kernel_rfl) ?_ ?_
  ·skip
   refine step_callQ (by rfl) (by rfl) (by rfl) (ER.go (by go_simp;with_reducible exact ⟨rfl,rfl⟩)) ?_
   refine (name_said g l e _ HP.out).mono ?_
   intro en w2 hq
   rcases hq.ways with ⟨v,s,l1,hr,rfl,hk,rfl,hp⟩ | ⟨bb,er,hr,rfl,hk⟩
   ·have HA:=am hr
    by_cases hx9:xs.length >= 1000000
    ·exact absurd (by rw [HEQ.out];simp [PR.andThen,addP,HA.out,hx9]) HNE.out
    have hx8 : ¬ 1000000 <= xs.length:=hx9
    replace HK:=am (Kept.then_ HK.out hk)
    replace HB0:=am (Kept.has hk HB0.out (by omega))
    replace HX:=am (Kept.has hk HX.out (by omega))
    replace HP:=am hp
    have hs2:=Kept.size hk
    try simp at hs2
    clear hr hk
    refine .inl ⟨_,rfl,⟨HB0.out,HX.out⟩, ?_⟩
    simp only [sA,sB,sC]
    refine tqh hsure ⟨HB0.out,HX.out⟩ 6 ?_
    apply Exists.intro
    apply And.intro
    ·rintro w' ⟨k1,k2⟩
     apply VR.mk
     go_simp
     with_reducible rfl
    try simp only [sA,sB,sC]
    refine tree_1Q (i:=8) (by kernel_rfl) ?_
    refine step_list (by rfl) ?_
    go_wp2
    have ba1:=below_alloc (Below.refl (w2).heap.size (w2)) (Obj.cells #[.int .i64 0,.int .i64 0,.int .i64 0,.string ⟨#[]⟩,.slice none 0 0,.slice none 0 0,.int .i64 0,.string ⟨#[]⟩,.int .i64 0,.slice none 0 0] 27)
    replace HK:=am (Kept.below HK.out ba1)
    replace HP:=am (HP.out.below ba1)
    replace HB0:=am (HB0.out.belowS ba1)
    replace HX:=am (HX.out.belowS ba1)
    clear ba1
    have HZ:=am (Has.new (w2) #[.int .i64 0,.int .i64 0,.int .i64 0,.string ⟨#[]⟩,.slice none 0 0,.slice none 0 0,.int .i64 0,.string ⟨#[]⟩,.int .i64 0,.slice none 0 0] 27)
    refine ⟨⟨HB0.out,HX.out⟩, ?_⟩
    rw [<- hQQ]
    refine tree_doneR (by kernel_rfl) ?_
    refine restQ_tree (fun _=>True) ?_
    clear hsure hS hQQ
    have HRW:=am (R_kps hRW0.out HP0.out HK.out)
    replace HK:=am (HK.out.mono (S':=fun k=>k = g \/ bx <= k) fun k h=>.inl h)
    have hszk:=HK.out.size
    refine tree_1Q (i:=9) (by kernel_rfl) ?_
    refine step_list (by rfl) ?_
    have st1:=tt
    go_wp2_with ((
          refine append0 Tryd.underlying22 info27 (bx + 1) rfl (.tmp 3) (.tmp 10) _ (by rfl) rfl A c ((w2).heap.size) xs (by rfl) (by rfl) HRW.out HZ.out (by first | omega | simp) (by omega) ?_
          clear st1
          go_must (
           intro g7 cap7 w70 hR10 hb7 hlt7 hat7 hG10
           have hown:=R_ownb HRW.out
           have V2:=am (V_app (B:=bx + 1) (VO.leaf _ ((w2).heap.size + 1) _ 27 a1 0 s) hG10 (fun k hk=>by have:=hsl k hk;have:=HZ.out.lt;omega) hat7 (by omega))
           replace HK:=am (Kept.grown HK.out hG10 (fun k hk=>.inl (.inr (by have:=(hown k hk).1;omega))))
           replace HP:=am (HP.out.grown hG10 (fun k hk=>R_own27 HRW.out k hk))
           replace HB0:=am (HB0.out.of_block (hG10.block _ HB0.out.lt (fun h=>by have:=hown _ h.symm;omega)))
           replace HX:=am (HX.out.of_block (hG10.block _ HX.out.lt (fun h=>by have:=hown _ h.symm;omega)))
           have HRN:Aside0 (k27.R 27 w70 (bx + 1) Any (.slice (some ⟨g7,0,none⟩) ((xs).length + 1) cap7) (xs ++ [Z0])):=⟨hR10⟩
           clear hR10 hG10
           have st2:=tt)))
    clear st2
    try refine ⟨trivial, ?_⟩
    try simp only [Act.put,sA,sB,sC]
    have hi0:(0:Int) <= ((xs).length:Int):=by omega
    have hi1:((xs).length:Int) < ((((xs).length + 1):Nat):Int):=by omega
    have hwr:IntKind.i64.wrap ((xs).length:Int) = (xs).length:=IntWalk.i64_in _ (by omega)
    refine tqh (by intro c a a' w1 hd h;simp +zetaDelta only [Exit.then,Exit.inBlock,bodyPost] at h ⊢; simpa [hd] using h) trivial 10 ?_
    refine ⟨.pointer (some ⟨g7,(xs).length * 10,none⟩), ?_, ?_⟩
    ·rintro w' -
     apply VR.mk
     go_simp
     try (intro hbad;omega)
    try simp only [Act.put,sA,sB,sC]
    refine tqh (by intro c a a' w1 hd h;simp +zetaDelta only [Exit.then,Exit.inBlock,bodyPost] at h ⊢; simpa [hd] using h) trivial 12 ?_
    apply Exists.intro
    apply And.intro
    ·rintro w' -
     apply VR.mk
     go_simp
     with_reducible rfl
    try simp only [Act.put,sA,sB,sC]
    have hown7:∀ k,some g7 = some k -> bx + 1 <= k /\ k < w70.heap.size:=fun k hk=>by obtain rfl:=Option.some.inj hk;exact ⟨hb7,hlt7⟩
    refine tree_2Q (i:=11) (k:=13) (by kernel_rfl) ?_ ?_
    ·refine step_list (by rfl) ?_
     have st3:=tt
     go_wp2_with ((
           refine storeN i27 (bx + 1) rfl rfl (.tmp 12) (.tmp 8) rfl g7 cap7 xs (mkE 27 a1 0 s [] []) [.int .i64 27,.int .i64 a1,.int .i64 0,.string s,.slice none 0 0,.slice none 0 0,.int .i64 0,.string ⟨#[]⟩,.int .i64 0,.slice none 0 0] (by rfl) (by rfl) HRN.out V2.out ?_
           clear st3
           go_must (
            intro w71 hR11 hG11
            replace HK:=am (Kept.grown HK.out hG11 (fun k hk=>.inl (.inr (by have:=(hown7 k hk).1;omega))))
            replace HP:=am (HP.out.grown hG11 (fun k hk=>R_own27 HRN.out k hk))
            replace HB0:=am (HB0.out.of_block (hG11.block _ HB0.out.lt (fun h=>by have:=hown7 _ h.symm;omega)))
            replace HX:=am (HX.out.of_block (hG11.block _ HX.out.lt (fun h=>by have:=hown7 _ h.symm;omega)))
            have HRM:=am hR11
            clear hR11 hG11
            have st4:=tt)))
     clear st4
     try refine ⟨trivial, ?_⟩
     refine tree_1Q (i:=13) (by kernel_rfl) ?_
     refine step_list (by rfl) ?_
     have c3:=hci HX.out 4 rfl
     have f3:=Has.frozen HX.out 4
     go_wp2
     clear c3 f3
     replace HK:=am (Kept.setCellX HK.out (a:=⟨bx,4,none⟩) (.inl (.inr (by show bx <= bx;omega))) (.slice (some ⟨g7,0,none⟩) ((xs).length + 1) cap7))
     replace HP:=am (PS.setT HP.out HX.out (by decide) (by decide) 4 (.slice (some ⟨g7,0,none⟩) ((xs).length + 1) cap7))
     replace HB0:=am (Has.other HB0.out (a:=⟨bx,4,none⟩) (by show b ≠ bx;omega) (.slice (some ⟨g7,0,none⟩) ((xs).length + 1) cap7))
     replace HRM:=am (R_far HRM.out (fun kk h1 _=>Below.heap_setCell _ ⟨bx,4,none⟩ (.slice (some ⟨g7,0,none⟩) ((xs).length + 1) cap7) kk (by show kk ≠ bx;omega)))
     replace HX:Aside0 (Has (w71.setCell ⟨bx,4,none⟩ (.slice (some ⟨g7,0,none⟩) ((xs).length + 1) cap7)) (bx) #[.int .i64 26,.int .i64 a0,.int .i64 0,.string tx,(.slice (some ⟨g7,0,none⟩) ((xs).length + 1) cap7),.slice none 0 0,.int .i64 0,.string ⟨#[]⟩,.int .i64 0,.slice none 0 0] 27):=⟨by have h:=Has.set_ HX.out 4 (.slice (some ⟨g7,0,none⟩) ((xs).length + 1) cap7);exact h⟩
     first | refine ⟨trivial,tree_endQ (by kernel_rfl) ?_⟩ | refine tree_endQ (by kernel_rfl) ?_
     have HE:Aside0 (R = .ok (xs ++ [mkE 27 a1 0 s [] []]) l1):=⟨by rw [HEQ.out];simp [needP,PR.andThen,HA.out,addP,hx8]⟩
     refine bodyPost_end (results_none rfl _ _ _) rfl ?_
     rw [HE.out]
     exact ⟨HK.out,rfl,⟨_,HB0.out,HX.out,HRM.out⟩,HP.out⟩
    ·refine step_list (by rfl) ?_
     have c3:=hci HX.out 4 rfl
     have f3:=Has.frozen HX.out 4
     go_wp2
     clear c3 f3
     replace HK:=am (Kept.setCellX HK.out (a:=⟨bx,4,none⟩) (.inl (.inr (by show bx <= bx;omega))) (.slice (some ⟨g7,0,none⟩) ((xs).length + 1) cap7))
     replace HP:=am (PS.setT HP.out HX.out (by decide) (by decide) 4 (.slice (some ⟨g7,0,none⟩) ((xs).length + 1) cap7))
     replace HB0:=am (Has.other HB0.out (a:=⟨bx,4,none⟩) (by show b ≠ bx;omega) (.slice (some ⟨g7,0,none⟩) ((xs).length + 1) cap7))
     replace HRN:=am (R_far HRN.out (fun kk h1 _=>Below.heap_setCell _ ⟨bx,4,none⟩ (.slice (some ⟨g7,0,none⟩) ((xs).length + 1) cap7) kk (by show kk ≠ bx;omega)))
     replace V2:=am (VO.setO V2.out (a:=⟨bx,4,none⟩) (fun kk h1 h2=>by show kk ≠ bx;omega) (.slice (some ⟨g7,0,none⟩) ((xs).length + 1) cap7))
     replace HX:Aside0 (Has (w70.setCell ⟨bx,4,none⟩ (.slice (some ⟨g7,0,none⟩) ((xs).length + 1) cap7)) (bx) #[.int .i64 26,.int .i64 a0,.int .i64 0,.string tx,(.slice (some ⟨g7,0,none⟩) ((xs).length + 1) cap7),.slice none 0 0,.int .i64 0,.string ⟨#[]⟩,.int .i64 0,.slice none 0 0] 27):=⟨by have h:=Has.set_ HX.out 4 (.slice (some ⟨g7,0,none⟩) ((xs).length + 1) cap7);exact h⟩
     refine ⟨trivial, ?_⟩
     replace hown7:∀ k,some g7 = some k -> bx + 1 <= k /\ k < ((w70.setCell ⟨bx,4,none⟩ (.slice (some ⟨g7,0,none⟩) ((xs).length + 1) cap7))).heap.size:=fun k hk=>by have:=hown7 k hk;simpa using this
     refine tree_1Q (i:=11) (by kernel_rfl) ?_
     refine step_list (by rfl) ?_
     have st3:=tt
     go_wp2_with ((
           refine storeN i27 (bx + 1) rfl rfl (.tmp 12) (.tmp 8) rfl g7 cap7 xs (mkE 27 a1 0 s [] []) [.int .i64 27,.int .i64 a1,.int .i64 0,.string s,.slice none 0 0,.slice none 0 0,.int .i64 0,.string ⟨#[]⟩,.int .i64 0,.slice none 0 0] (by rfl) (by rfl) HRN.out V2.out ?_
           clear st3
           go_must (
            intro w71 hR11 hG11
            replace HK:=am (Kept.grown HK.out hG11 (fun k hk=>.inl (.inr (by have:=(hown7 k hk).1;omega))))
            replace HP:=am (HP.out.grown hG11 (fun k hk=>R_own27 HRN.out k hk))
            replace HB0:=am (HB0.out.of_block (hG11.block _ HB0.out.lt (fun h=>by have:=hown7 _ h.symm;omega)))
            replace HX:=am (HX.out.of_block (hG11.block _ HX.out.lt (fun h=>by have:=hown7 _ h.symm;omega)))
            have HRM:=am hR11
            clear hR11 hG11
            have st4:=tt)))
     clear st4
     first | refine ⟨trivial,tree_endQ (by kernel_rfl) ?_⟩ | refine tree_endQ (by kernel_rfl) ?_
     have HE:Aside0 (R = .ok (xs ++ [mkE 27 a1 0 s [] []]) l1):=⟨by rw [HEQ.out];simp [needP,PR.andThen,HA.out,addP,hx8]⟩
     refine bodyPost_end (results_none rfl _ _ _) rfl ?_
     rw [HE.out]
     exact ⟨HK.out,rfl,⟨_,HB0.out,HX.out,HRM.out⟩,HP.out⟩
   ·have HA:=am hr
    refine .inr ⟨_,rfl, ?_⟩
    replace HK:=am (Kept.then_ HK.out hk)
    replace HB0:=am (Kept.has hk HB0.out (by omega))
    replace HX:=am (Kept.has hk HX.out (by omega))
    have hs2:=Kept.size hk
    try simp at hs2
    rw [<- hQQ]
    have HE:Aside0 (R = .bad bb er):=⟨by rw [HEQ.out];simp [needP,PR.andThen,HA.out]⟩
    have he:=HE.out
    subst he
    exact ⟨rfl,HK.out.mono fun k h=>.inl h,rfl⟩
  ·refine step_list (by rfl) ?_
   go_wp2
   have ba1:=below_alloc (Below.refl (w1).heap.size (w1)) (Obj.cells #[.int .i64 0,.int .i64 0,.int .i64 0,.string ⟨#[]⟩,.slice none 0 0,.slice none 0 0,.int .i64 0,.string ⟨#[]⟩,.int .i64 0,.slice none 0 0] 27)
   replace HK:=am (Kept.below HK.out ba1)
   replace HP:=am (HP.out.below ba1)
   replace HB0:=am (HB0.out.belowS ba1)
   replace HX:=am (HX.out.belowS ba1)
   clear ba1
   have HZ:=am (Has.new (w1) #[.int .i64 0,.int .i64 0,.int .i64 0,.string ⟨#[]⟩,.slice none 0 0,.slice none 0 0,.int .i64 0,.string ⟨#[]⟩,.int .i64 0,.slice none 0 0] 27)
   refine ⟨⟨HB0.out,HX.out⟩, ?_⟩
   refine tree_1Q (i:=5) (by kernel_rfl) ?_
   refine step_callQ (by rfl) (by rfl) (by rfl) (ER.go (by go_simp;with_reducible exact ⟨rfl,rfl⟩)) ?_
   refine (name_said g l e _ HP.out).mono ?_
   intro en w2 hq
   rcases hq.ways with ⟨v,s,l1,hr,rfl,hk,rfl,hp⟩ | ⟨bb,er,hr,rfl,hk⟩
   ·have HA:=am hr
    by_cases hx9:xs.length >= 1000000
    ·exact absurd (by rw [HEQ.out];simp [PR.andThen,addP,HA.out,hx9]) HNE.out
    have hx8 : ¬ 1000000 <= xs.length:=hx9
    replace HK:=am (Kept.then_ HK.out hk)
    replace HB0:=am (Kept.has hk HB0.out (by omega))
    replace HX:=am (Kept.has hk HX.out (by omega))
    replace HZ:=am (Kept.has hk HZ.out (by omega))
    replace HP:=am hp
    have hs2:=Kept.size hk
    try simp at hs2
    clear hr hk
    refine .inl ⟨_,rfl,⟨HB0.out,HX.out⟩, ?_⟩
    simp only [sA,sB,sC]
    refine tqh hsure ⟨HB0.out,HX.out⟩ 6 ?_
    apply Exists.intro
    apply And.intro
    ·rintro w' ⟨k1,k2⟩
     apply VR.mk
     go_simp
     with_reducible rfl
    try simp only [sA,sB,sC]
    rw [<- hQQ]
    refine tree_doneR (by kernel_rfl) ?_
    refine restQ_tree (fun _=>True) ?_
    clear hsure hS hQQ
    have HRW:=am (R_kps hRW0.out HP0.out HK.out)
    replace HK:=am (HK.out.mono (S':=fun k=>k = g \/ bx <= k) fun k h=>.inl h)
    have hszk:=HK.out.size
    refine tree_1Q (i:=9) (by kernel_rfl) ?_
    refine step_list (by rfl) ?_
    have st1:=tt
    go_wp2_with ((
          refine append0 Tryd.underlying22 info27 (bx + 1) rfl (.tmp 3) (.tmp 10) _ (by rfl) rfl A c ((w1).heap.size) xs (by rfl) (by rfl) HRW.out HZ.out (by first | omega | simp) (by omega) ?_
          clear st1
          go_must (
           intro g7 cap7 w70 hR10 hb7 hlt7 hat7 hG10
           have hown:=R_ownb HRW.out
           have V2:=am (V_app (B:=bx + 1) (VO.leaf _ ((w1).heap.size + 1) _ 27 a1 0 s) hG10 (fun k hk=>by have:=hsl k hk;have:=HZ.out.lt;omega) hat7 (by omega))
           replace HK:=am (Kept.grown HK.out hG10 (fun k hk=>.inl (.inr (by have:=(hown k hk).1;omega))))
           replace HP:=am (HP.out.grown hG10 (fun k hk=>R_own27 HRW.out k hk))
           replace HB0:=am (HB0.out.of_block (hG10.block _ HB0.out.lt (fun h=>by have:=hown _ h.symm;omega)))
           replace HX:=am (HX.out.of_block (hG10.block _ HX.out.lt (fun h=>by have:=hown _ h.symm;omega)))
           have HRN:Aside0 (k27.R 27 w70 (bx + 1) Any (.slice (some ⟨g7,0,none⟩) ((xs).length + 1) cap7) (xs ++ [Z0])):=⟨hR10⟩
           clear hR10 hG10
           have st2:=tt)))
    clear st2
    try refine ⟨trivial, ?_⟩
    try simp only [Act.put,sA,sB,sC]
    have hi0:(0:Int) <= ((xs).length:Int):=by omega
    have hi1:((xs).length:Int) < ((((xs).length + 1):Nat):Int):=by omega
    have hwr:IntKind.i64.wrap ((xs).length:Int) = (xs).length:=IntWalk.i64_in _ (by omega)
    refine tqh (by intro c a a' w1 hd h;simp +zetaDelta only [Exit.then,Exit.inBlock,bodyPost] at h ⊢; simpa [hd] using h) trivial 10 ?_
    refine ⟨.pointer (some ⟨g7,(xs).length * 10,none⟩), ?_, ?_⟩
    ·rintro w' -
     apply VR.mk
     go_simp
     try (intro hbad;omega)
    try simp only [Act.put,sA,sB,sC]
    refine tqh (by intro c a a' w1 hd h;simp +zetaDelta only [Exit.then,Exit.inBlock,bodyPost] at h ⊢; simpa [hd] using h) trivial 12 ?_
    apply Exists.intro
    apply And.intro
    ·rintro w' -
     apply VR.mk
     go_simp
     with_reducible rfl
    try simp only [Act.put,sA,sB,sC]
    have hown7:∀ k,some g7 = some k -> bx + 1 <= k /\ k < w70.heap.size:=fun k hk=>by obtain rfl:=Option.some.inj hk;exact ⟨hb7,hlt7⟩
    refine tree_2Q (i:=11) (k:=13) (by kernel_rfl) ?_ ?_
    ·refine step_list (by rfl) ?_
     have st3:=tt
     go_wp2_with ((
           refine storeN i27 (bx + 1) rfl rfl (.tmp 12) (.tmp 8) rfl g7 cap7 xs (mkE 27 a1 0 s [] []) [.int .i64 27,.int .i64 a1,.int .i64 0,.string s,.slice none 0 0,.slice none 0 0,.int .i64 0,.string ⟨#[]⟩,.int .i64 0,.slice none 0 0] (by rfl) (by rfl) HRN.out V2.out ?_
           clear st3
           go_must (
            intro w71 hR11 hG11
            replace HK:=am (Kept.grown HK.out hG11 (fun k hk=>.inl (.inr (by have:=(hown7 k hk).1;omega))))
            replace HP:=am (HP.out.grown hG11 (fun k hk=>R_own27 HRN.out k hk))
            replace HB0:=am (HB0.out.of_block (hG11.block _ HB0.out.lt (fun h=>by have:=hown7 _ h.symm;omega)))
            replace HX:=am (HX.out.of_block (hG11.block _ HX.out.lt (fun h=>by have:=hown7 _ h.symm;omega)))
            have HRM:=am hR11
            clear hR11 hG11
            have st4:=tt)))
     clear st4
     try refine ⟨trivial, ?_⟩
     refine tree_1Q (i:=13) (by kernel_rfl) ?_
     refine step_list (by rfl) ?_
     have c3:=hci HX.out 4 rfl
     have f3:=Has.frozen HX.out 4
     go_wp2
     clear c3 f3
     replace HK:=am (Kept.setCellX HK.out (a:=⟨bx,4,none⟩) (.inl (.inr (by show bx <= bx;omega))) (.slice (some ⟨g7,0,none⟩) ((xs).length + 1) cap7))
     replace HP:=am (PS.setT HP.out HX.out (by decide) (by decide) 4 (.slice (some ⟨g7,0,none⟩) ((xs).length + 1) cap7))
     replace HB0:=am (Has.other HB0.out (a:=⟨bx,4,none⟩) (by show b ≠ bx;omega) (.slice (some ⟨g7,0,none⟩) ((xs).length + 1) cap7))
     replace HRM:=am (R_far HRM.out (fun kk h1 _=>Below.heap_setCell _ ⟨bx,4,none⟩ (.slice (some ⟨g7,0,none⟩) ((xs).length + 1) cap7) kk (by show kk ≠ bx;omega)))
     replace HX:Aside0 (Has (w71.setCell ⟨bx,4,none⟩ (.slice (some ⟨g7,0,none⟩) ((xs).length + 1) cap7)) (bx) #[.int .i64 26,.int .i64 a0,.int .i64 0,.string tx,(.slice (some ⟨g7,0,none⟩) ((xs).length + 1) cap7),.slice none 0 0,.int .i64 0,.string ⟨#[]⟩,.int .i64 0,.slice none 0 0] 27):=⟨by have h:=Has.set_ HX.out 4 (.slice (some ⟨g7,0,none⟩) ((xs).length + 1) cap7);exact h⟩
     first | refine ⟨trivial,tree_endQ (by kernel_rfl) ?_⟩ | refine tree_endQ (by kernel_rfl) ?_
     have HE:Aside0 (R = .ok (xs ++ [mkE 27 a1 0 s [] []]) l1):=⟨by rw [HEQ.out];simp [needP,PR.andThen,HA.out,addP,hx8]⟩
     refine bodyPost_end (results_none rfl _ _ _) rfl ?_
     rw [HE.out]
     exact ⟨HK.out,rfl,⟨_,HB0.out,HX.out,HRM.out⟩,HP.out⟩
    ·refine step_list (by rfl) ?_
     have c3:=hci HX.out 4 rfl
     have f3:=Has.frozen HX.out 4
     go_wp2
     clear c3 f3
     replace HK:=am (Kept.setCellX HK.out (a:=⟨bx,4,none⟩) (.inl (.inr (by show bx <= bx;omega))) (.slice (some ⟨g7,0,none⟩) ((xs).length + 1) cap7))
     replace HP:=am (PS.setT HP.out HX.out (by decide) (by decide) 4 (.slice (some ⟨g7,0,none⟩) ((xs).length + 1) cap7))
     replace HB0:=am (Has.other HB0.out (a:=⟨bx,4,none⟩) (by show b ≠ bx;omega) (.slice (some ⟨g7,0,none⟩) ((xs).length + 1) cap7))
     replace HRN:=am (R_far HRN.out (fun kk h1 _=>Below.heap_setCell _ ⟨bx,4,none⟩ (.slice (some ⟨g7,0,none⟩) ((xs).length + 1) cap7) kk (by show kk ≠ bx;omega)))
     replace V2:=am (VO.setO V2.out (a:=⟨bx,4,none⟩) (fun kk h1 h2=>by show kk ≠ bx;omega) (.slice (some ⟨g7,0,none⟩) ((xs).length + 1) cap7))
     replace HX:Aside0 (Has (w70.setCell ⟨bx,4,none⟩ (.slice (some ⟨g7,0,none⟩) ((xs).length + 1) cap7)) (bx) #[.int .i64 26,.int .i64 a0,.int .i64 0,.string tx,(.slice (some ⟨g7,0,none⟩) ((xs).length + 1) cap7),.slice none 0 0,.int .i64 0,.string ⟨#[]⟩,.int .i64 0,.slice none 0 0] 27):=⟨by have h:=Has.set_ HX.out 4 (.slice (some ⟨g7,0,none⟩) ((xs).length + 1) cap7);exact h⟩
     refine ⟨trivial, ?_⟩
     replace hown7:∀ k,some g7 = some k -> bx + 1 <= k /\ k < ((w70.setCell ⟨bx,4,none⟩ (.slice (some ⟨g7,0,none⟩) ((xs).length + 1) cap7))).heap.size:=fun k hk=>by have:=hown7 k hk;simpa using this
     refine tree_1Q (i:=11) (by kernel_rfl) ?_
     refine step_list (by rfl) ?_
     have st3:=tt
     go_wp2_with ((
           refine storeN i27 (bx + 1) rfl rfl (.tmp 12) (.tmp 8) rfl g7 cap7 xs (mkE 27 a1 0 s [] []) [.int .i64 27,.int .i64 a1,.int .i64 0,.string s,.slice none 0 0,.slice none 0 0,.int .i64 0,.string ⟨#[]⟩,.int .i64 0,.slice none 0 0] (by rfl) (by rfl) HRN.out V2.out ?_
           clear st3
           go_must (
            intro w71 hR11 hG11
            replace HK:=am (Kept.grown HK.out hG11 (fun k hk=>.inl (.inr (by have:=(hown7 k hk).1;omega))))
            replace HP:=am (HP.out.grown hG11 (fun k hk=>R_own27 HRN.out k hk))
            replace HB0:=am (HB0.out.of_block (hG11.block _ HB0.out.lt (fun h=>by have:=hown7 _ h.symm;omega)))
            replace HX:=am (HX.out.of_block (hG11.block _ HX.out.lt (fun h=>by have:=hown7 _ h.symm;omega)))
            have HRM:=am hR11
            clear hR11 hG11
            have st4:=tt)))
     clear st4
     first | refine ⟨trivial,tree_endQ (by kernel_rfl) ?_⟩ | refine tree_endQ (by kernel_rfl) ?_
     have HE:Aside0 (R = .ok (xs ++ [mkE 27 a1 0 s [] []]) l1):=⟨by rw [HEQ.out];simp [needP,PR.andThen,HA.out,addP,hx8]⟩
     refine bodyPost_end (results_none rfl _ _ _) rfl ?_
     rw [HE.out]
     exact ⟨HK.out,rfl,⟨_,HB0.out,HX.out,HRM.out⟩,HP.out⟩
   ·have HA:=am hr
    refine .inr ⟨_,rfl, ?_⟩
    replace HK:=am (Kept.then_ HK.out hk)
    replace HB0:=am (Kept.has hk HB0.out (by omega))
    replace HX:=am (Kept.has hk HX.out (by omega))
    replace HZ:=am (Kept.has hk HZ.out (by omega))
    have hs2:=Kept.size hk
    try simp at hs2
    rw [<- hQQ]
    have HE:Aside0 (R = .bad bb er):=⟨by rw [HEQ.out];simp [needP,PR.andThen,HA.out]⟩
    have he:=HE.out
    subst he
    exact ⟨rfl,HK.out.mono fun k h=>.inl h,rfl⟩
 ·refine step_list (by rfl) ?_
  go_wp2
  have ba1:=below_alloc (Below.refl (W1).heap.size (W1)) (Obj.cells #[.int .i64 0,.int .i64 0,.int .i64 0,.string ⟨#[]⟩,.slice none 0 0,.slice none 0 0,.int .i64 0,.string ⟨#[]⟩,.int .i64 0,.slice none 0 0] 27)
  replace HK:=am (Kept.below HK.out ba1)
  replace HP:=am (HP.out.below ba1)
  replace HB0:=am (HB0.out.belowS ba1)
  replace HX:=am (HX.out.belowS ba1)
  clear ba1
  have HZ:=am (Has.new (W1) #[.int .i64 0,.int .i64 0,.int .i64 0,.string ⟨#[]⟩,.slice none 0 0,.slice none 0 0,.int .i64 0,.string ⟨#[]⟩,.int .i64 0,.slice none 0 0] 27)
  refine ⟨⟨HB0.out,HX.out⟩, ?_⟩
  refine tree_1Q (i:=3) (by kernel_rfl) ?_
  refine step_callQ (by rfl) (by rfl) (by rfl) (ER.go (by go_simp;with_reducible exact ⟨rfl,rfl⟩)) ?_
  refine (at_ps HP.out).mono ?_
  rintro en w1 ⟨he1,hb1⟩
  rw [HAT.out] at he1
  subst he1
  replace HK:=am (Kept.below HK.out hb1)
  replace HP:=am (HP.out.below hb1)
  replace HB0:=am (HB0.out.belowS hb1)
  replace HX:=am (HX.out.belowS hb1)
  replace HZ:=am (HZ.out.belowS hb1)
  have hs1:=Below.size hb1
  try simp at hs1
  refine .inl ⟨_,rfl,⟨HB0.out,HX.out⟩, ?_⟩
  simp only [sA,sB,sC]
  refine tree_1Q (i:=5) (by kernel_rfl) ?_
  refine step_callQ (by rfl) (by rfl) (by rfl) (ER.go (by go_simp;with_reducible exact ⟨rfl,rfl⟩)) ?_
  refine (name_said g l e _ HP.out).mono ?_
  intro en w2 hq
  rcases hq.ways with ⟨v,s,l1,hr,rfl,hk,rfl,hp⟩ | ⟨bb,er,hr,rfl,hk⟩
  ·have HA:=am hr
   by_cases hx9:xs.length >= 1000000
   ·exact absurd (by rw [HEQ.out];simp [PR.andThen,addP,HA.out,hx9]) HNE.out
   have hx8 : ¬ 1000000 <= xs.length:=hx9
   replace HK:=am (Kept.then_ HK.out hk)
   replace HB0:=am (Kept.has hk HB0.out (by omega))
   replace HX:=am (Kept.has hk HX.out (by omega))
   replace HZ:=am (Kept.has hk HZ.out (by omega))
   replace HP:=am hp
   have hs2:=Kept.size hk
   try simp at hs2
   clear hr hk
   refine .inl ⟨_,rfl,⟨HB0.out,HX.out⟩, ?_⟩
   simp only [sA,sB,sC]
   refine tqh hsure ⟨HB0.out,HX.out⟩ 6 ?_
   apply Exists.intro
   apply And.intro
   ·rintro w' ⟨k1,k2⟩
    apply VR.mk
    go_simp
    with_reducible rfl
   try simp only [sA,sB,sC]
   rw [<- hQQ]
   refine tree_doneR (by kernel_rfl) ?_
   refine restQ_tree (fun _=>True) ?_
   clear hsure hS hQQ
   have HRW:=am (R_kps hRW0.out HP0.out HK.out)
   replace HK:=am (HK.out.mono (S':=fun k=>k = g \/ bx <= k) fun k h=>.inl h)
   have hszk:=HK.out.size
   refine tree_1Q (i:=9) (by kernel_rfl) ?_
   refine step_list (by rfl) ?_
   have st1:=tt
   go_wp2_with ((
         refine append0 Tryd.underlying22 info27 (bx + 1) rfl (.tmp 3) (.tmp 10) _ (by rfl) rfl A c ((W1).heap.size) xs (by rfl) (by rfl) HRW.out HZ.out (by first | omega | simp) (by omega) ?_
         clear st1
         go_must (
          intro g7 cap7 w70 hR10 hb7 hlt7 hat7 hG10
          have hown:=R_ownb HRW.out
          have V2:=am (V_app (B:=bx + 1) (VO.leaf _ ((W1).heap.size + 1) _ 27 a1 0 s) hG10 (fun k hk=>by have:=hsl k hk;have:=HZ.out.lt;omega) hat7 (by omega))
          replace HK:=am (Kept.grown HK.out hG10 (fun k hk=>.inl (.inr (by have:=(hown k hk).1;omega))))
          replace HP:=am (HP.out.grown hG10 (fun k hk=>R_own27 HRW.out k hk))
          replace HB0:=am (HB0.out.of_block (hG10.block _ HB0.out.lt (fun h=>by have:=hown _ h.symm;omega)))
          replace HX:=am (HX.out.of_block (hG10.block _ HX.out.lt (fun h=>by have:=hown _ h.symm;omega)))
          have HRN:Aside0 (k27.R 27 w70 (bx + 1) Any (.slice (some ⟨g7,0,none⟩) ((xs).length + 1) cap7) (xs ++ [Z0])):=⟨hR10⟩
          clear hR10 hG10
          have st2:=tt)))
   clear st2
   try refine ⟨trivial, ?_⟩
   try simp only [Act.put,sA,sB,sC]
   have hi0:(0:Int) <= ((xs).length:Int):=by omega
   have hi1:((xs).length:Int) < ((((xs).length + 1):Nat):Int):=by omega
   have hwr:IntKind.i64.wrap ((xs).length:Int) = (xs).length:=IntWalk.i64_in _ (by omega)
   refine tqh (by intro c a a' w1 hd h;simp +zetaDelta only [Exit.then,Exit.inBlock,bodyPost] at h ⊢; simpa [hd] using h) trivial 10 ?_
   refine ⟨.pointer (some ⟨g7,(xs).length * 10,none⟩), ?_, ?_⟩
   ·rintro w' -
    apply VR.mk
    go_simp
    try (intro hbad;omega)
   try simp only [Act.put,sA,sB,sC]
   refine tqh (by intro c a a' w1 hd h;simp +zetaDelta only [Exit.then,Exit.inBlock,bodyPost] at h ⊢; simpa [hd] using h) trivial 12 ?_
   apply Exists.intro
   apply And.intro
   ·rintro w' -
    apply VR.mk
    go_simp
    with_reducible rfl
   try simp only [Act.put,sA,sB,sC]
   have hown7:∀ k,some g7 = some k -> bx + 1 <= k /\ k < w70.heap.size:=fun k hk=>by obtain rfl:=Option.some.inj hk;exact ⟨hb7,hlt7⟩
   refine tree_2Q (i:=11) (k:=13) (by kernel_rfl) ?_ ?_
   ·refine step_list (by rfl) ?_
    have st3:=tt
    go_wp2_with ((
          refine storeN i27 (bx + 1) rfl rfl (.tmp 12) (.tmp 8) rfl g7 cap7 xs (mkE 27 a1 0 s [] []) [.int .i64 27,.int .i64 a1,.int .i64 0,.string s,.slice none 0 0,.slice none 0 0,.int .i64 0,.string ⟨#[]⟩,.int .i64 0,.slice none 0 0] (by rfl) (by rfl) HRN.out V2.out ?_
          clear st3
          go_must (
           intro w71 hR11 hG11
           replace HK:=am (Kept.grown HK.out hG11 (fun k hk=>.inl (.inr (by have:=(hown7 k hk).1;omega))))
           replace HP:=am (HP.out.grown hG11 (fun k hk=>R_own27 HRN.out k hk))
           replace HB0:=am (HB0.out.of_block (hG11.block _ HB0.out.lt (fun h=>by have:=hown7 _ h.symm;omega)))
           replace HX:=am (HX.out.of_block (hG11.block _ HX.out.lt (fun h=>by have:=hown7 _ h.symm;omega)))
           have HRM:=am hR11
           clear hR11 hG11
           have st4:=tt)))
    clear st4
    try refine ⟨trivial, ?_⟩
    refine tree_1Q (i:=13) (by kernel_rfl) ?_
    refine step_list (by rfl) ?_
    have c3:=hci HX.out 4 rfl
    have f3:=Has.frozen HX.out 4
    go_wp2
    clear c3 f3
    replace HK:=am (Kept.setCellX HK.out (a:=⟨bx,4,none⟩) (.inl (.inr (by show bx <= bx;omega))) (.slice (some ⟨g7,0,none⟩) ((xs).length + 1) cap7))
    replace HP:=am (PS.setT HP.out HX.out (by decide) (by decide) 4 (.slice (some ⟨g7,0,none⟩) ((xs).length + 1) cap7))
    replace HB0:=am (Has.other HB0.out (a:=⟨bx,4,none⟩) (by show b ≠ bx;omega) (.slice (some ⟨g7,0,none⟩) ((xs).length + 1) cap7))
    replace HRM:=am (R_far HRM.out (fun kk h1 _=>Below.heap_setCell _ ⟨bx,4,none⟩ (.slice (some ⟨g7,0,none⟩) ((xs).length + 1) cap7) kk (by show kk ≠ bx;omega)))
    replace HX:Aside0 (Has (w71.setCell ⟨bx,4,none⟩ (.slice (some ⟨g7,0,none⟩) ((xs).length + 1) cap7)) (bx) #[.int .i64 26,.int .i64 a0,.int .i64 0,.string tx,(.slice (some ⟨g7,0,none⟩) ((xs).length + 1) cap7),.slice none 0 0,.int .i64 0,.string ⟨#[]⟩,.int .i64 0,.slice none 0 0] 27):=⟨by have h:=Has.set_ HX.out 4 (.slice (some ⟨g7,0,none⟩) ((xs).length + 1) cap7);exact h⟩
    first | refine ⟨trivial,tree_endQ (by kernel_rfl) ?_⟩ | refine tree_endQ (by kernel_rfl) ?_
    have HE:Aside0 (R = .ok (xs ++ [mkE 27 a1 0 s [] []]) l1):=⟨by rw [HEQ.out];simp [needP,PR.andThen,HA.out,addP,hx8]⟩
    refine bodyPost_end (results_none rfl _ _ _) rfl ?_
    rw [HE.out]
    exact ⟨HK.out,rfl,⟨_,HB0.out,HX.out,HRM.out⟩,HP.out⟩
   ·refine step_list (by rfl) ?_
    have c3:=hci HX.out 4 rfl
    have f3:=Has.frozen HX.out 4
    go_wp2
    clear c3 f3
    replace HK:=am (Kept.setCellX HK.out (a:=⟨bx,4,none⟩) (.inl (.inr (by show bx <= bx;omega))) (.slice (some ⟨g7,0,none⟩) ((xs).length + 1) cap7))
    replace HP:=am (PS.setT HP.out HX.out (by decide) (by decide) 4 (.slice (some ⟨g7,0,none⟩) ((xs).length + 1) cap7))
    replace HB0:=am (Has.other HB0.out (a:=⟨bx,4,none⟩) (by show b ≠ bx;omega) (.slice (some ⟨g7,0,none⟩) ((xs).length + 1) cap7))
    replace HRN:=am (R_far HRN.out (fun kk h1 _=>Below.heap_setCell _ ⟨bx,4,none⟩ (.slice (some ⟨g7,0,none⟩) ((xs).length + 1) cap7) kk (by show kk ≠ bx;omega)))
    replace V2:=am (VO.setO V2.out (a:=⟨bx,4,none⟩) (fun kk h1 h2=>by show kk ≠ bx;omega) (.slice (some ⟨g7,0,none⟩) ((xs).length + 1) cap7))
    replace HX:Aside0 (Has (w70.setCell ⟨bx,4,none⟩ (.slice (some ⟨g7,0,none⟩) ((xs).length + 1) cap7)) (bx) #[.int .i64 26,.int .i64 a0,.int .i64 0,.string tx,(.slice (some ⟨g7,0,none⟩) ((xs).length + 1) cap7),.slice none 0 0,.int .i64 0,.string ⟨#[]⟩,.int .i64 0,.slice none 0 0] 27):=⟨by have h:=Has.set_ HX.out 4 (.slice (some ⟨g7,0,none⟩) ((xs).length + 1) cap7);exact h⟩
    refine ⟨trivial, ?_⟩
    replace hown7:∀ k,some g7 = some k -> bx + 1 <= k /\ k < ((w70.setCell ⟨bx,4,none⟩ (.slice (some ⟨g7,0,none⟩) ((xs).length + 1) cap7))).heap.size:=fun k hk=>by have:=hown7 k hk;simpa using this
    refine tree_1Q (i:=11) (by kernel_rfl) ?_
    refine step_list (by rfl) ?_
    have st3:=tt
    go_wp2_with ((
          refine storeN i27 (bx + 1) rfl rfl (.tmp 12) (.tmp 8) rfl g7 cap7 xs (mkE 27 a1 0 s [] []) [.int .i64 27,.int .i64 a1,.int .i64 0,.string s,.slice none 0 0,.slice none 0 0,.int .i64 0,.string ⟨#[]⟩,.int .i64 0,.slice none 0 0] (by rfl) (by rfl) HRN.out V2.out ?_
          clear st3
          go_must (
           intro w71 hR11 hG11
           replace HK:=am (Kept.grown HK.out hG11 (fun k hk=>.inl (.inr (by have:=(hown7 k hk).1;omega))))
           replace HP:=am (HP.out.grown hG11 (fun k hk=>R_own27 HRN.out k hk))
           replace HB0:=am (HB0.out.of_block (hG11.block _ HB0.out.lt (fun h=>by have:=hown7 _ h.symm;omega)))
           replace HX:=am (HX.out.of_block (hG11.block _ HX.out.lt (fun h=>by have:=hown7 _ h.symm;omega)))
           have HRM:=am hR11
           clear hR11 hG11
           have st4:=tt)))
    clear st4
    first | refine ⟨trivial,tree_endQ (by kernel_rfl) ?_⟩ | refine tree_endQ (by kernel_rfl) ?_
    have HE:Aside0 (R = .ok (xs ++ [mkE 27 a1 0 s [] []]) l1):=⟨by rw [HEQ.out];simp [needP,PR.andThen,HA.out,addP,hx8]⟩
    refine bodyPost_end (results_none rfl _ _ _) rfl ?_
    rw [HE.out]
    exact ⟨HK.out,rfl,⟨_,HB0.out,HX.out,HRM.out⟩,HP.out⟩
  ·have HA:=am hr
   refine .inr ⟨_,rfl, ?_⟩
   replace HK:=am (Kept.then_ HK.out hk)
   replace HB0:=am (Kept.has hk HB0.out (by omega))
   replace HX:=am (Kept.has hk HX.out (by omega))
   replace HZ:=am (Kept.has hk HZ.out (by omega))
   have hs2:=Kept.size hk
   try simp at hs2
   rw [<- hQQ]
   have HE:Aside0 (R = .bad bb er):=⟨by rw [HEQ.out];simp [needP,PR.andThen,HA.out]⟩
   have he:=HE.out
   subst he
   exact ⟨rfl,HK.out.mono fun k h=>.inl h,rfl⟩
end Go.Proofs.YtngpgdmafmkddaaDoor.Par
end
section
namespace Go.Proofs.YtngpgdmafmkddaaDoor.Par
open Go.Proofs.YtngpgdmafmkddaaDoor.Calm Go.RowKit Go.Proofs.YtngpgdmafmkddaaDoorW.PrintWords Go.Proofs.YtngpgdmafmkddaaDoorW.PrintLast Go.Proofs.YtngpgdmafmkddaaDoorW.PrintMore
open Go.Proofs.YtngpgdmafmkddaaDoor.PParseBlanks (S35 S25 S27 k35 k25 k27 rd_T35 rd_T25 rd_T27 at_T35 at_T25 at_T27)
set_option linter.unusedVariables false
set_option linter.unusedSimpArgs false
theorem digN_dig (t:ByteArray):∀ k i:Nat,(∀ j:Nat,j < i -> isDig (bt t j) = true) -> ∀ j:Nat,j < digN t k i -> isDig (bt t j) = true
 | 0,i,h=>by simpa only [digN] using h
 | k + 1,i,h=>by
  unfold digN
  by_cases hc:i < t.size /\ isDig (bt t i) = true
  ·rw [if_pos hc]
   refine digN_dig t k (i + 1) fun j hj => ?_
   by_cases e:j = i
   ·subst e;exact hc.2
   ·exact h j (by omega)
  ·rw [if_neg hc];exact h
theorem numP_rng (t:ByteArray):0 <= (numP t).1 /\ (numP t).1 <= 4294967295:=by
 unfold numP
 split
 ·decide
 ·rename_i h
  split
  ·split
   ·decide
   ·have hd:∀ j:Nat,j < digits t -> isDig (bt t j) = true:=digN_dig t t.size 0 (fun j hj=>absurd hj (Nat.not_lt_zero j))
    have:=valN_ten (t:=t) (n:=digits t) (by omega) hd
    constructor <;> simp <;> omega
  ·decide
theorem plain_rng {e v:Int} {l l1:List S35} (h:plainP e l = .ok v l1):0 <= v /\ v <= 4294967295:=by
 cases l with
 | nil=>cases h
 | cons t r =>
  simp only [plainP] at h
  split at h
  ·split at h
   ·split at h
    ·injection h with h1 h2
     subst h1
     exact numP_rng t.f1
    ·cases h
   ·cases h
  ·cases h
theorem name_size2 {w:World} {g:Nat} {e:Int} {l l1:List S35} {s:ByteArray} (H:PS w g l e) (h:nameP e l = .ok s l1):s.size < 4611686018427387904:=by
 obtain ⟨A,c,HP⟩:=H
 cases l with
 | nil=>cases h
 | cons t r =>
  simp only [nameP] at h
  split at h
  ·injection h with h1 h2
   subst h1
   have:=HP.le.2 t (List.mem_cons_self ..)
   omega
  ·cases h
theorem Kept.wide {g B:Nat} {w w1 w2:World} (h:KeptG g w w1) (hB:w.heap.size <= B) (hk:Kept (fun k=>k = g \/ B <= k) w1 w2):KeptG g w w2:=
 ⟨hk.os.trans h.os,hk.tape.trans h.tape,hk.output.trans h.output,Nat.le_trans h.size hk.size,fun k h1 h2=>(hk.block k (Nat.lt_of_lt_of_le h1 h.size) (fun h=>h.elim h2 (fun h=>by omega))).trans (h.block k h1 h2)⟩
set_option maxRecDepth 100000 in
set_option maxHeartbeats 8000000 in
theorem pat_ok (n:Nat):PatOK n:=by
 intro g e l w HP hne
 have hu27:=Tryd.underlying27
 obtain ⟨R,hR⟩:∃ R,patP e n l = R:=⟨_,rfl⟩
 have hE:=hR
 unfold patP at hE
 rw [hR] at hne ⊢
 obtain ⟨a0,ha0⟩:∃ a,atP e l = a:=⟨_,rfl⟩
 rw [ha0] at hE
 have HAT:=am ha0
 have HEQ:=am hE.symm
 have HNE:=am hne
 have hgw:=HP.glt
 have HK:Aside0 (KeptG g w w):=⟨Kept.refl _ w⟩
 have HP:=am HP
 clear hR hne hE ha0
 have ba1:=below_alloc (Below.refl (w).heap.size (w)) (Obj.cells #[.pointer (some ⟨g,0,none⟩)] 52)
 replace HK:=am (Kept.below HK.out ba1)
 replace HP:=am (HP.out.below ba1)
 clear ba1
 have HB0:=am (Has.new (w) #[.pointer (some ⟨g,0,none⟩)] 52)
 have ba2:=below_alloc (Below.refl ((w.alloc (Obj.cells #[.pointer (some ⟨g,0,none⟩)] 52))).heap.size ((w.alloc (Obj.cells #[.pointer (some ⟨g,0,none⟩)] 52)))) (Obj.cells #[.int .i64 0,.int .i64 0,.int .i64 0,.string ⟨#[]⟩,.slice none 0 0,.slice none 0 0,.int .i64 0,.string ⟨#[]⟩,.int .i64 0,.slice none 0 0] 27)
 replace HK:=am (Kept.below HK.out ba2)
 replace HP:=am (HP.out.below ba2)
 replace HB0:=am (HB0.out.belowS ba2)
 clear ba2
 have HR:Aside0 (Has (((w.alloc (Obj.cells #[.pointer (some ⟨g,0,none⟩)] 52))).alloc (Obj.cells #[.int .i64 0,.int .i64 0,.int .i64 0,.string ⟨#[]⟩,.slice none 0 0,.slice none 0 0,.int .i64 0,.string ⟨#[]⟩,.int .i64 0,.slice none 0 0] 27)) (w.heap.size + 1) #[.int .i64 0,.int .i64 0,.int .i64 0,.string ⟨#[]⟩,.slice none 0 0,.slice none 0 0,.int .i64 0,.string ⟨#[]⟩,.int .i64 0,.slice none 0 0] 27):=⟨by have h:=Has.new ((w.alloc (Obj.cells #[.pointer (some ⟨g,0,none⟩)] 52))) #[.int .i64 0,.int .i64 0,.int .i64 0,.string ⟨#[]⟩,.slice none 0 0,.slice none 0 0,.int .i64 0,.string ⟨#[]⟩,.int .i64 0,.slice none 0 0] 27;first | exact h | (simpa using h)⟩
 have hrz:=HR.out.lt
 have cw_HB0_0:=hci HB0.out 0 rfl
 go_enter Tryd.func84,Tryd.ntmps84
 have st1:=tt
 go_wp2_with ((
       go_at_call 29
       clear st1
       go_must (
        (with_reducible refine Calls.mono (at_ps HP.out) ?_)
        rintro en w1 ⟨he1,hb1⟩
        rw [HAT.out] at he1
        subst he1
        replace HK:=am (Kept.below HK.out hb1)
        replace HP:=am (HP.out.below hb1)
        replace HB0:=am (HB0.out.belowS hb1)
        replace HR:=am (HR.out.belowS hb1)
        have hs1:=Below.size hb1
        try simp at hs1
        clear cw_HB0_0
        have cw_HB0_0:=hci HB0.out 0 rfl
        have ba3:=below_alloc (Below.refl (w1).heap.size (w1)) (Obj.cells #[.int .i64 24,.int .i64 a0,.int .i64 0,.string ⟨#[]⟩,.slice none 0 0,.slice none 0 0,.int .i64 0,.string ⟨#[]⟩,.int .i64 0,.slice none 0 0] 27)
        replace HK:=am (Kept.below HK.out ba3)
        replace HP:=am (HP.out.below ba3)
        replace HB0:=am (HB0.out.belowS ba3)
        replace HR:=am (HR.out.belowS ba3)
        clear ba3
        have HX:=am (Has.new (w1) #[.int .i64 24,.int .i64 a0,.int .i64 0,.string ⟨#[]⟩,.slice none 0 0,.slice none 0 0,.int .i64 0,.string ⟨#[]⟩,.int .i64 0,.slice none 0 0] 27)
        clear cw_HB0_0
        have cw_HB0_0:=hci HB0.out 0 rfl
        have st2:=tt)))
 clear st2
 have hbx:w.heap.size + 1 < w1.heap.size:=by have:=HX.out.lt;have:=HR.out.lt;simp at hrz;omega
 have hxg:w1.heap.size ≠ g:=by omega
 cases hHT1:isP sTrue l with
 | true =>
  have HT1:=am hHT1
  clear hHT1
  have st3:=tt
  go_wp2_with (first
    | (
     go_at_call 41
     clear st3
     go_must (
      (with_reducible refine Calls.mono (take_yes sTrue HP.out HT1.out) ?_)
      rintro en w2 ⟨he2,hk2,hp2⟩
      subst he2
      replace HK:=am (Kept.then_ HK.out hk2)
      replace HB0:=am (Kept.has hk2 HB0.out (by omega))
      replace HR:=am (Kept.has hk2 HR.out (by omega))
      replace HX:=am (Kept.has hk2 HX.out (by omega))
      replace HP:=am hp2
      have hs2:=Kept.size hk2
      try simp at hs2
      clear cw_HB0_0
      have cw_HB0_0:=hci HB0.out 0 rfl
      have c3:=hci HX.out 2 rfl
      have f3:=Has.frozen HX.out 2
      have cy4:=hci (Has.other (HB0.out) (a:=⟨w1.heap.size,2,none⟩) (by show w.heap.size ≠ w1.heap.size;omega) (.int .i64 1)) 0 rfl
      have st4:=tt))
    | (
     (with_reducible refine gate_dst (N:=55) rfl ?_)
     clear st4
     go_must (
      clear c3 f3 cy4
      replace HK:=am (Kept.setCellX HK.out (a:=⟨w1.heap.size,2,none⟩) (.inr (by show w.heap.size <= w1.heap.size;omega)) (.int .i64 1))
      replace HP:=am (PS.setT HP.out HX.out (by decide) (by decide) 2 (.int .i64 1))
      replace HB0:=am (Has.other HB0.out (a:=⟨w1.heap.size,2,none⟩) (by show w.heap.size ≠ w1.heap.size;omega) (.int .i64 1))
      replace HR:=am (Has.other HR.out (a:=⟨w1.heap.size,2,none⟩) (by show w.heap.size + 1 ≠ w1.heap.size;omega) (.int .i64 1))
      replace HX:Aside0 (Has (w2.setCell ⟨w1.heap.size,2,none⟩ (.int .i64 1)) (w1.heap.size) #[.int .i64 24,.int .i64 a0,.int .i64 1,.string ⟨#[]⟩,.slice none 0 0,.slice none 0 0,.int .i64 0,.string ⟨#[]⟩,.int .i64 0,.slice none 0 0] 27):=⟨by have h:=Has.set_ HX.out 2 (.int .i64 1);exact h⟩
      clear cw_HB0_0
      have cw_HB0_0:=hci HB0.out 0 rfl
      refine Kd.event_run rfl (load27 (w2.setCell ⟨w1.heap.size,2,none⟩ (.int .i64 1)) (w1.heap.size) #[.int .i64 24,.int .i64 a0,.int .i64 1,.string ⟨#[]⟩,.slice none 0 0,.slice none 0 0,.int .i64 0,.string ⟨#[]⟩,.int .i64 0,.slice none 0 0] HX.out rfl _ _ _ rfl rfl) ?_
      have st5:=tt))
    | (
     (with_reducible refine gate_store (t:=27) (p:=2) rfl ?_)
     clear st5
     go_must (
      refine store_event (t:=27) (p:=2) (v:=.tmp 55) (w1:=World.setRow (w2.setCell ⟨w1.heap.size,2,none⟩ (.int .i64 1)) (w.heap.size + 1) #[.int .i64 24,.int .i64 a0,.int .i64 1,.string ⟨#[]⟩,.slice none 0 0,.slice none 0 0,.int .i64 0,.string ⟨#[]⟩,.int .i64 0,.slice none 0 0]) ?hg ?ho ?hn ?hr ?_
      (case ho=>rfl)
      (case hg=>rfl)
      (case hn=>rfl)
      (case hr=>exact store27 (w2.setCell ⟨w1.heap.size,2,none⟩ (.int .i64 1)) (w.heap.size + 1) _ _ HR.out rfl rfl (by first | kernel_rfl | (simp [Value.oneCell'])) _ _ _ _ rfl rfl rfl)
      intro w75 hw75
      subst hw75
      have st6:=tt)))
  clear st6
  replace HK:=am (kept_rowX HK.out (g:=w.heap.size + 1) (.inr (by show w.heap.size <= w.heap.size + 1;omega)) #[.int .i64 24,.int .i64 a0,.int .i64 1,.string ⟨#[]⟩,.slice none 0 0,.slice none 0 0,.int .i64 0,.string ⟨#[]⟩,.int .i64 0,.slice none 0 0])
  replace HP:=am (PS.rowP HP.out HR.out #[.int .i64 24,.int .i64 a0,.int .i64 1,.string ⟨#[]⟩,.slice none 0 0,.slice none 0 0,.int .i64 0,.string ⟨#[]⟩,.int .i64 0,.slice none 0 0])
  replace HB0:=am (has_row_other HB0.out (g:=w.heap.size + 1) (cs':=#[.int .i64 24,.int .i64 a0,.int .i64 1,.string ⟨#[]⟩,.slice none 0 0,.slice none 0 0,.int .i64 0,.string ⟨#[]⟩,.int .i64 0,.slice none 0 0]) (by omega))
  replace HX:=am (has_row_other HX.out (g:=w.heap.size + 1) (cs':=#[.int .i64 24,.int .i64 a0,.int .i64 1,.string ⟨#[]⟩,.slice none 0 0,.slice none 0 0,.int .i64 0,.string ⟨#[]⟩,.int .i64 0,.slice none 0 0]) (by omega))
  replace HR:=am (has_row HR.out #[.int .i64 24,.int .i64 a0,.int .i64 1,.string ⟨#[]⟩,.slice none 0 0,.slice none 0 0,.int .i64 0,.string ⟨#[]⟩,.int .i64 0,.slice none 0 0])
  clear cw_HB0_0
  have cw_HB0_0:=hci HB0.out 0 rfl
  have HE:Aside0 (R = .ok (mkE 24 a0 1 ⟨#[]⟩ [] []) l.tail):=⟨by rw [HEQ.out];simp [needP,PR.andThen,HT1.out]⟩
  refine bodyPost_ret (results_cell_row rfl _ _ (w.heap.size + 1) 27 #[.int .i64 24,.int .i64 a0,.int .i64 1,.string ⟨#[]⟩,.slice none 0 0,.slice none 0 0,.int .i64 0,.string ⟨#[]⟩,.int .i64 0,.slice none 0 0] (0,0) _ rfl HR.out Tryd.underlying27 rfl (by rfl)) rfl ?_
  rw [HE.out]
  exact ⟨HK.out,_,rfl,(VO.leaf _ _ _ 24 a0 1 ⟨#[]⟩),HP.out⟩
 | false =>
 have HT1:=am hHT1
 clear hHT1
 have st3:=tt
 go_wp2_with ((
       go_at_call 41
       clear st3
       go_must (
        (with_reducible refine Calls.mono (take_no sTrue HP.out HT1.out) ?_)
        rintro en w2 ⟨he2,hk2,hp2⟩
        subst he2
        replace HK:=am (Kept.then_ HK.out hk2)
        replace HB0:=am (Kept.has hk2 HB0.out (by omega))
        replace HR:=am (Kept.has hk2 HR.out (by omega))
        replace HX:=am (Kept.has hk2 HX.out (by omega))
        replace HP:=am hp2
        have hs2:=Kept.size hk2
        try simp at hs2
        clear cw_HB0_0
        have cw_HB0_0:=hci HB0.out 0 rfl
        have st4:=tt)))
 clear st4
 cases hHT2:isP sFalse l with
 | true =>
  have HT2:=am hHT2
  clear hHT2
  have st5:=tt
  go_wp2_with (first
    | (
     go_at_call 41
     clear st5
     go_must (
      (with_reducible refine Calls.mono (take_yes sFalse HP.out HT2.out) ?_)
      rintro en w3 ⟨he3,hk3,hp3⟩
      subst he3
      replace HK:=am (Kept.then_ HK.out hk3)
      replace HB0:=am (Kept.has hk3 HB0.out (by omega))
      replace HR:=am (Kept.has hk3 HR.out (by omega))
      replace HX:=am (Kept.has hk3 HX.out (by omega))
      replace HP:=am hp3
      have hs3:=Kept.size hk3
      try simp at hs3
      clear cw_HB0_0
      have cw_HB0_0:=hci HB0.out 0 rfl
      have st6:=tt))
    | (
     (with_reducible refine gate_dst (N:=55) rfl ?_)
     clear st6
     go_must (
      refine Kd.event_run rfl (load27 w3 (w1.heap.size) #[.int .i64 24,.int .i64 a0,.int .i64 0,.string ⟨#[]⟩,.slice none 0 0,.slice none 0 0,.int .i64 0,.string ⟨#[]⟩,.int .i64 0,.slice none 0 0] HX.out rfl _ _ _ rfl rfl) ?_
      have st7:=tt))
    | (
     (with_reducible refine gate_store (t:=27) (p:=2) rfl ?_)
     clear st7
     go_must (
      refine store_event (t:=27) (p:=2) (v:=.tmp 55) (w1:=World.setRow w3 (w.heap.size + 1) #[.int .i64 24,.int .i64 a0,.int .i64 0,.string ⟨#[]⟩,.slice none 0 0,.slice none 0 0,.int .i64 0,.string ⟨#[]⟩,.int .i64 0,.slice none 0 0]) ?hg ?ho ?hn ?hr ?_
      (case ho=>rfl)
      (case hg=>rfl)
      (case hn=>rfl)
      (case hr=>exact store27 w3 (w.heap.size + 1) _ _ HR.out rfl rfl (by first | kernel_rfl | (simp [Value.oneCell'])) _ _ _ _ rfl rfl rfl)
      intro w74 hw74
      subst hw74
      have st8:=tt)))
  clear st8
  replace HK:=am (kept_rowX HK.out (g:=w.heap.size + 1) (.inr (by show w.heap.size <= w.heap.size + 1;omega)) #[.int .i64 24,.int .i64 a0,.int .i64 0,.string ⟨#[]⟩,.slice none 0 0,.slice none 0 0,.int .i64 0,.string ⟨#[]⟩,.int .i64 0,.slice none 0 0])
  replace HP:=am (PS.rowP HP.out HR.out #[.int .i64 24,.int .i64 a0,.int .i64 0,.string ⟨#[]⟩,.slice none 0 0,.slice none 0 0,.int .i64 0,.string ⟨#[]⟩,.int .i64 0,.slice none 0 0])
  replace HB0:=am (has_row_other HB0.out (g:=w.heap.size + 1) (cs':=#[.int .i64 24,.int .i64 a0,.int .i64 0,.string ⟨#[]⟩,.slice none 0 0,.slice none 0 0,.int .i64 0,.string ⟨#[]⟩,.int .i64 0,.slice none 0 0]) (by omega))
  replace HX:=am (has_row_other HX.out (g:=w.heap.size + 1) (cs':=#[.int .i64 24,.int .i64 a0,.int .i64 0,.string ⟨#[]⟩,.slice none 0 0,.slice none 0 0,.int .i64 0,.string ⟨#[]⟩,.int .i64 0,.slice none 0 0]) (by omega))
  replace HR:=am (has_row HR.out #[.int .i64 24,.int .i64 a0,.int .i64 0,.string ⟨#[]⟩,.slice none 0 0,.slice none 0 0,.int .i64 0,.string ⟨#[]⟩,.int .i64 0,.slice none 0 0])
  clear cw_HB0_0
  have cw_HB0_0:=hci HB0.out 0 rfl
  have HE:Aside0 (R = .ok (mkE 24 a0 0 ⟨#[]⟩ [] []) l.tail):=⟨by rw [HEQ.out];simp [needP,PR.andThen,HT1.out,HT2.out]⟩
  refine bodyPost_ret (results_cell_row rfl _ _ (w.heap.size + 1) 27 #[.int .i64 24,.int .i64 a0,.int .i64 0,.string ⟨#[]⟩,.slice none 0 0,.slice none 0 0,.int .i64 0,.string ⟨#[]⟩,.int .i64 0,.slice none 0 0] (0,0) _ rfl HR.out Tryd.underlying27 rfl (by rfl)) rfl ?_
  rw [HE.out]
  exact ⟨HK.out,_,rfl,(VO.leaf _ _ _ 24 a0 0 ⟨#[]⟩),HP.out⟩
 | false =>
 have HT2:=am hHT2
 clear hHT2
 have st5:=tt
 go_wp2_with ((
       go_at_call 41
       clear st5
       go_must (
        (with_reducible refine Calls.mono (take_no sFalse HP.out HT2.out) ?_)
        rintro en w3 ⟨he3,hk3,hp3⟩
        subst he3
        replace HK:=am (Kept.then_ HK.out hk3)
        replace HB0:=am (Kept.has hk3 HB0.out (by omega))
        replace HR:=am (Kept.has hk3 HR.out (by omega))
        replace HX:=am (Kept.has hk3 HX.out (by omega))
        replace HP:=am hp3
        have hs3:=Kept.size hk3
        try simp at hs3
        clear cw_HB0_0
        have cw_HB0_0:=hci HB0.out 0 rfl
        have st6:=tt)))
 clear st6
 cases hHT3:isP sMinus l with
 | true =>
  have HT3:=am hHT3
  clear hHT3
  have st7:=tt
  go_wp2_with ((
        go_at_call 41
        clear st7
        go_must (
         (with_reducible refine Calls.mono (take_yes sMinus HP.out HT3.out) ?_)
         rintro en w4 ⟨he4,hk4,hp4⟩
         subst he4
         replace HK:=am (Kept.then_ HK.out hk4)
         replace HB0:=am (Kept.has hk4 HB0.out (by omega))
         replace HR:=am (Kept.has hk4 HR.out (by omega))
         replace HX:=am (Kept.has hk4 HX.out (by omega))
         replace HP:=am hp4
         have hs4:=Kept.size hk4
         try simp at hs4
         clear cw_HB0_0
         have cw_HB0_0:=hci HB0.out 0 rfl
         have st8:=tt)))
  clear st8
  cases hHA:plainP e l.tail with
  | out=>exact absurd (by rw [HEQ.out];simp [needP,PR.andThen,HT1.out,HT2.out,HT3.out,hHA]) HNE.out
  | bad bb er =>
   have HA:=am hHA
   have HAN:=am (show plainP e l.tail ≠ .out by rw [hHA];exact PR.bad_ne _ _)
   clear hHA
   have st9:=tt
   go_wp2_with ((
         go_at_call 51
         clear st9
         go_must (
          (with_reducible refine Calls.mono (plain_said g l.tail e _ HP.out HAN.out) ?_)
          rintro en w5 ⟨hk5,he5⟩
          rw [HA.out] at he5
          subst he5
          replace HK:=am (Kept.then_ HK.out hk5)
          replace HB0:=am (Kept.has hk5 HB0.out (by omega))
          replace HR:=am (Kept.has hk5 HR.out (by omega))
          replace HX:=am (Kept.has hk5 HX.out (by omega))
          have hs5:=Kept.size hk5
          try simp at hs5
          clear cw_HB0_0
          have cw_HB0_0:=hci HB0.out 0 rfl
          have st10:=tt)))
   clear st10
   have HE:Aside0 (R = .bad bb er):=⟨by rw [HEQ.out];simp [needP,PR.andThen,HT1.out,HT2.out,HT3.out,HA.out]⟩
   rw [HE.out]
   exact ⟨rfl,HK.out,rfl⟩
  | ok v l1 =>
  have HA:=am hHA
  have HAN:=am (show plainP e l.tail ≠ .out by rw [hHA];exact PR.ok_ne _ _)
  clear hHA
  have hrg:=plain_rng HA.out
  have kw:IntKind.i64.wrap (- v) = - v:=IntWalk.i64_in _ (by omega)
  have st9:=tt
  go_wp2_with (first
    | (
     go_at_call 51
     clear st9
     go_must (
      (with_reducible refine Calls.mono (plain_said g l.tail e _ HP.out HAN.out) ?_)
      rintro en w5 ⟨hk5,he5⟩
      rw [HA.out] at he5
      obtain ⟨v5,rfl,hv5,hp5⟩:=he5
      obtain rfl:=hv5
      replace HK:=am (Kept.then_ HK.out hk5)
      replace HB0:=am (Kept.has hk5 HB0.out (by omega))
      replace HR:=am (Kept.has hk5 HR.out (by omega))
      replace HX:=am (Kept.has hk5 HX.out (by omega))
      replace HP:=am hp5
      have hs5:=Kept.size hk5
      try simp at hs5
      clear cw_HB0_0
      have cw_HB0_0:=hci HB0.out 0 rfl
      have c6:=hci HX.out 0 rfl
      have f6:=Has.frozen HX.out 0
      have c7:=hci HX.out 2 rfl
      have f7:=Has.frozen HX.out 2
      have q7:Has (World.setCell (w5) ⟨w1.heap.size,0,none⟩ (.int .i64 23)) (w1.heap.size) #[.int .i64 23,.int .i64 a0,.int .i64 0,.string ⟨#[]⟩,.slice none 0 0,.slice none 0 0,.int .i64 0,.string ⟨#[]⟩,.int .i64 0,.slice none 0 0] 27:=Has.set_ (HX.out) 0 (.int .i64 23)
      have cc7:=hci q7 2 rfl
      have ff7:=q7.frozen 2
      clear q7
      have cy8:=Has.cell (Has.other ((Has.other (HB0.out) (a:=⟨w1.heap.size,0,none⟩) (by show w.heap.size ≠ w1.heap.size;omega) (.int .i64 23))) (a:=⟨w1.heap.size,2,none⟩) (by show w.heap.size ≠ w1.heap.size;omega) (.int .i64 (- v))) 0
      simp only [List.getElem?_toArray,List.getElem?_cons_zero,List.getElem?_cons_succ] at cy8
      have st10:=tt))
    | (
     (with_reducible refine gate_dst (N:=55) rfl ?_)
     clear st10
     go_must (
      clear c6 f6 c7 f7 cc7 ff7 cy8
      replace HK:=am (Kept.setCellX HK.out (a:=⟨w1.heap.size,0,none⟩) (.inr (by show w.heap.size <= w1.heap.size;omega)) (.int .i64 23))
      replace HP:=am (PS.setT HP.out HX.out (by decide) (by decide) 0 (.int .i64 23))
      replace HB0:=am (Has.other HB0.out (a:=⟨w1.heap.size,0,none⟩) (by show w.heap.size ≠ w1.heap.size;omega) (.int .i64 23))
      replace HR:=am (Has.other HR.out (a:=⟨w1.heap.size,0,none⟩) (by show w.heap.size + 1 ≠ w1.heap.size;omega) (.int .i64 23))
      replace HX:Aside0 (Has (w5.setCell ⟨w1.heap.size,0,none⟩ (.int .i64 23)) (w1.heap.size) #[.int .i64 23,.int .i64 a0,.int .i64 0,.string ⟨#[]⟩,.slice none 0 0,.slice none 0 0,.int .i64 0,.string ⟨#[]⟩,.int .i64 0,.slice none 0 0] 27):=⟨by have h:=Has.set_ HX.out 0 (.int .i64 23);exact h⟩
      replace HK:=am (Kept.setCellX HK.out (a:=⟨w1.heap.size,2,none⟩) (.inr (by show w.heap.size <= w1.heap.size;omega)) (.int .i64 (- v)))
      replace HP:=am (PS.setT HP.out HX.out (by decide) (by decide) 2 (.int .i64 (- v)))
      replace HB0:=am (Has.other HB0.out (a:=⟨w1.heap.size,2,none⟩) (by show w.heap.size ≠ w1.heap.size;omega) (.int .i64 (- v)))
      replace HR:=am (Has.other HR.out (a:=⟨w1.heap.size,2,none⟩) (by show w.heap.size + 1 ≠ w1.heap.size;omega) (.int .i64 (- v)))
      replace HX:Aside0 (Has (((w5.setCell ⟨w1.heap.size,0,none⟩ (.int .i64 23))).setCell ⟨w1.heap.size,2,none⟩ (.int .i64 (- v))) (w1.heap.size) #[.int .i64 23,.int .i64 a0,.int .i64 (- v),.string ⟨#[]⟩,.slice none 0 0,.slice none 0 0,.int .i64 0,.string ⟨#[]⟩,.int .i64 0,.slice none 0 0] 27):=⟨by have h:=Has.set_ HX.out 2 (.int .i64 (- v));exact h⟩
      clear cw_HB0_0
      have cw_HB0_0:=hci HB0.out 0 rfl
      refine Kd.event_run rfl (load27 (((w5.setCell ⟨w1.heap.size,0,none⟩ (.int .i64 23))).setCell ⟨w1.heap.size,2,none⟩ (.int .i64 (- v))) (w1.heap.size) #[.int .i64 23,.int .i64 a0,.int .i64 (- v),.string ⟨#[]⟩,.slice none 0 0,.slice none 0 0,.int .i64 0,.string ⟨#[]⟩,.int .i64 0,.slice none 0 0] HX.out rfl _ _ _ rfl rfl) ?_
      have st11:=tt))
    | (
     (with_reducible refine gate_store (t:=27) (p:=2) rfl ?_)
     clear st11
     go_must (
      refine store_event (t:=27) (p:=2) (v:=.tmp 55) (w1:=World.setRow (((w5.setCell ⟨w1.heap.size,0,none⟩ (.int .i64 23))).setCell ⟨w1.heap.size,2,none⟩ (.int .i64 (- v))) (w.heap.size + 1) #[.int .i64 23,.int .i64 a0,.int .i64 (- v),.string ⟨#[]⟩,.slice none 0 0,.slice none 0 0,.int .i64 0,.string ⟨#[]⟩,.int .i64 0,.slice none 0 0]) ?hg ?ho ?hn ?hr ?_
      (case ho=>rfl)
      (case hg=>rfl)
      (case hn=>rfl)
      (case hr=>exact store27 (((w5.setCell ⟨w1.heap.size,0,none⟩ (.int .i64 23))).setCell ⟨w1.heap.size,2,none⟩ (.int .i64 (- v))) (w.heap.size + 1) _ _ HR.out rfl rfl (by first | kernel_rfl | (simp [Value.oneCell'])) _ _ _ _ rfl rfl rfl)
      intro w79 hw79
      subst hw79
      have st12:=tt)))
  clear st12
  replace HK:=am (kept_rowX HK.out (g:=w.heap.size + 1) (.inr (by show w.heap.size <= w.heap.size + 1;omega)) #[.int .i64 23,.int .i64 a0,.int .i64 (- v),.string ⟨#[]⟩,.slice none 0 0,.slice none 0 0,.int .i64 0,.string ⟨#[]⟩,.int .i64 0,.slice none 0 0])
  replace HP:=am (PS.rowP HP.out HR.out #[.int .i64 23,.int .i64 a0,.int .i64 (- v),.string ⟨#[]⟩,.slice none 0 0,.slice none 0 0,.int .i64 0,.string ⟨#[]⟩,.int .i64 0,.slice none 0 0])
  replace HB0:=am (has_row_other HB0.out (g:=w.heap.size + 1) (cs':=#[.int .i64 23,.int .i64 a0,.int .i64 (- v),.string ⟨#[]⟩,.slice none 0 0,.slice none 0 0,.int .i64 0,.string ⟨#[]⟩,.int .i64 0,.slice none 0 0]) (by omega))
  replace HX:=am (has_row_other HX.out (g:=w.heap.size + 1) (cs':=#[.int .i64 23,.int .i64 a0,.int .i64 (- v),.string ⟨#[]⟩,.slice none 0 0,.slice none 0 0,.int .i64 0,.string ⟨#[]⟩,.int .i64 0,.slice none 0 0]) (by omega))
  replace HR:=am (has_row HR.out #[.int .i64 23,.int .i64 a0,.int .i64 (- v),.string ⟨#[]⟩,.slice none 0 0,.slice none 0 0,.int .i64 0,.string ⟨#[]⟩,.int .i64 0,.slice none 0 0])
  clear cw_HB0_0
  have cw_HB0_0:=hci HB0.out 0 rfl
  have HE:Aside0 (R = .ok (mkE 23 a0 (- v) ⟨#[]⟩ [] []) l1):=⟨by rw [HEQ.out];simp [needP,PR.andThen,HT1.out,HT2.out,HT3.out,HA.out]⟩
  refine bodyPost_ret (results_cell_row rfl _ _ (w.heap.size + 1) 27 #[.int .i64 23,.int .i64 a0,.int .i64 (- v),.string ⟨#[]⟩,.slice none 0 0,.slice none 0 0,.int .i64 0,.string ⟨#[]⟩,.int .i64 0,.slice none 0 0] (0,0) _ rfl HR.out Tryd.underlying27 rfl (by rfl)) rfl ?_
  rw [HE.out]
  exact ⟨HK.out,_,rfl,(VO.leaf _ _ _ 23 a0 (- v) ⟨#[]⟩),HP.out⟩
 | false =>
 have HT3:=am hHT3
 clear hHT3
 have st7:=tt
 go_wp2_with ((
       go_at_call 41
       clear st7
       go_must (
        (with_reducible refine Calls.mono (take_no sMinus HP.out HT3.out) ?_)
        rintro en w4 ⟨he4,hk4,hp4⟩
        subst he4
        replace HK:=am (Kept.then_ HK.out hk4)
        replace HB0:=am (Kept.has hk4 HB0.out (by omega))
        replace HR:=am (Kept.has hk4 HR.out (by omega))
        replace HX:=am (Kept.has hk4 HX.out (by omega))
        replace HP:=am hp4
        have hs4:=Kept.size hk4
        try simp at hs4
        clear cw_HB0_0
        have cw_HB0_0:=hci HB0.out 0 rfl
        have st8:=tt)))
 clear st8
 obtain ⟨q,hq⟩:∃ q,kindP l = q:=⟨_,rfl⟩
 have HQ:=am hq
 clear hq
 by_cases k2:q = 2
 ·have b2:(q == 2) = true:=by simp [k2]
  have HK2:Aside0 (kindP l = 2):=⟨HQ.out.trans k2⟩
  clear k2
  have st9:=tt
  go_wp2_with ((
        go_at_call 19
        clear st9
        go_must (
         (with_reducible refine Calls.mono (kind_ps HP.out) ?_)
         rintro en w5 ⟨he5,hb5⟩
         rw [HQ.out] at he5
         subst he5
         replace HK:=am (Kept.below HK.out hb5)
         replace HP:=am (HP.out.below hb5)
         replace HB0:=am (HB0.out.belowS hb5)
         replace HR:=am (HR.out.belowS hb5)
         replace HX:=am (HX.out.belowS hb5)
         have hs5:=Below.size hb5
         try simp at hs5
         clear cw_HB0_0
         have cw_HB0_0:=hci HB0.out 0 rfl
         have st10:=tt)))
  clear st10
  cases hHA:plainP e l with
  | out=>exact absurd (by rw [HEQ.out];simp [needP,PR.andThen,HT1.out,HT2.out,HT3.out,HK2.out,hHA]) HNE.out
  | bad bb er =>
   have HA:=am hHA
   have HAN:=am (show plainP e l ≠ .out by rw [hHA];exact PR.bad_ne _ _)
   clear hHA
   have st11:=tt
   go_wp2_with ((
         go_at_call 51
         clear st11
         go_must (
          (with_reducible refine Calls.mono (plain_said g l e _ HP.out HAN.out) ?_)
          rintro en w6 ⟨hk6,he6⟩
          rw [HA.out] at he6
          subst he6
          replace HK:=am (Kept.then_ HK.out hk6)
          replace HB0:=am (Kept.has hk6 HB0.out (by omega))
          replace HR:=am (Kept.has hk6 HR.out (by omega))
          replace HX:=am (Kept.has hk6 HX.out (by omega))
          have hs6:=Kept.size hk6
          try simp at hs6
          clear cw_HB0_0
          have cw_HB0_0:=hci HB0.out 0 rfl
          have st12:=tt)))
   clear st12
   have HE:Aside0 (R = .bad bb er):=⟨by rw [HEQ.out];simp [needP,PR.andThen,HT1.out,HT2.out,HT3.out,HK2.out,HA.out]⟩
   rw [HE.out]
   exact ⟨rfl,HK.out,rfl⟩
  | ok v l1 =>
  have HA:=am hHA
  have HAN:=am (show plainP e l ≠ .out by rw [hHA];exact PR.ok_ne _ _)
  clear hHA
  have hrg:=plain_rng HA.out
  have st11:=tt
  go_wp2_with (first
    | (
     go_at_call 51
     clear st11
     go_must (
      (with_reducible refine Calls.mono (plain_said g l e _ HP.out HAN.out) ?_)
      rintro en w6 ⟨hk6,he6⟩
      rw [HA.out] at he6
      obtain ⟨v6,rfl,hv6,hp6⟩:=he6
      obtain rfl:=hv6
      replace HK:=am (Kept.then_ HK.out hk6)
      replace HB0:=am (Kept.has hk6 HB0.out (by omega))
      replace HR:=am (Kept.has hk6 HR.out (by omega))
      replace HX:=am (Kept.has hk6 HX.out (by omega))
      replace HP:=am hp6
      have hs6:=Kept.size hk6
      try simp at hs6
      clear cw_HB0_0
      have cw_HB0_0:=hci HB0.out 0 rfl
      have c7:=hci HX.out 0 rfl
      have f7:=Has.frozen HX.out 0
      have c8:=hci HX.out 2 rfl
      have f8:=Has.frozen HX.out 2
      have q8:Has (World.setCell (w6) ⟨w1.heap.size,0,none⟩ (.int .i64 23)) (w1.heap.size) #[.int .i64 23,.int .i64 a0,.int .i64 0,.string ⟨#[]⟩,.slice none 0 0,.slice none 0 0,.int .i64 0,.string ⟨#[]⟩,.int .i64 0,.slice none 0 0] 27:=Has.set_ (HX.out) 0 (.int .i64 23)
      have cc8:=hci q8 2 rfl
      have ff8:=q8.frozen 2
      clear q8
      have cy9:=Has.cell (Has.other ((Has.other (HB0.out) (a:=⟨w1.heap.size,0,none⟩) (by show w.heap.size ≠ w1.heap.size;omega) (.int .i64 23))) (a:=⟨w1.heap.size,2,none⟩) (by show w.heap.size ≠ w1.heap.size;omega) (.int .i64 v)) 0
      simp only [List.getElem?_toArray,List.getElem?_cons_zero,List.getElem?_cons_succ] at cy9
      have st12:=tt))
    | (
     (with_reducible refine gate_dst (N:=55) rfl ?_)
     clear st12
     go_must (
      clear c7 f7 c8 f8 cc8 ff8 cy9
      replace HK:=am (Kept.setCellX HK.out (a:=⟨w1.heap.size,0,none⟩) (.inr (by show w.heap.size <= w1.heap.size;omega)) (.int .i64 23))
      replace HP:=am (PS.setT HP.out HX.out (by decide) (by decide) 0 (.int .i64 23))
      replace HB0:=am (Has.other HB0.out (a:=⟨w1.heap.size,0,none⟩) (by show w.heap.size ≠ w1.heap.size;omega) (.int .i64 23))
      replace HR:=am (Has.other HR.out (a:=⟨w1.heap.size,0,none⟩) (by show w.heap.size + 1 ≠ w1.heap.size;omega) (.int .i64 23))
      replace HX:Aside0 (Has (w6.setCell ⟨w1.heap.size,0,none⟩ (.int .i64 23)) (w1.heap.size) #[.int .i64 23,.int .i64 a0,.int .i64 0,.string ⟨#[]⟩,.slice none 0 0,.slice none 0 0,.int .i64 0,.string ⟨#[]⟩,.int .i64 0,.slice none 0 0] 27):=⟨by have h:=Has.set_ HX.out 0 (.int .i64 23);exact h⟩
      replace HK:=am (Kept.setCellX HK.out (a:=⟨w1.heap.size,2,none⟩) (.inr (by show w.heap.size <= w1.heap.size;omega)) (.int .i64 v))
      replace HP:=am (PS.setT HP.out HX.out (by decide) (by decide) 2 (.int .i64 v))
      replace HB0:=am (Has.other HB0.out (a:=⟨w1.heap.size,2,none⟩) (by show w.heap.size ≠ w1.heap.size;omega) (.int .i64 v))
      replace HR:=am (Has.other HR.out (a:=⟨w1.heap.size,2,none⟩) (by show w.heap.size + 1 ≠ w1.heap.size;omega) (.int .i64 v))
      replace HX:Aside0 (Has (((w6.setCell ⟨w1.heap.size,0,none⟩ (.int .i64 23))).setCell ⟨w1.heap.size,2,none⟩ (.int .i64 v)) (w1.heap.size) #[.int .i64 23,.int .i64 a0,.int .i64 v,.string ⟨#[]⟩,.slice none 0 0,.slice none 0 0,.int .i64 0,.string ⟨#[]⟩,.int .i64 0,.slice none 0 0] 27):=⟨by have h:=Has.set_ HX.out 2 (.int .i64 v);exact h⟩
      clear cw_HB0_0
      have cw_HB0_0:=hci HB0.out 0 rfl
      refine Kd.event_run rfl (load27 (((w6.setCell ⟨w1.heap.size,0,none⟩ (.int .i64 23))).setCell ⟨w1.heap.size,2,none⟩ (.int .i64 v)) (w1.heap.size) #[.int .i64 23,.int .i64 a0,.int .i64 v,.string ⟨#[]⟩,.slice none 0 0,.slice none 0 0,.int .i64 0,.string ⟨#[]⟩,.int .i64 0,.slice none 0 0] HX.out rfl _ _ _ rfl rfl) ?_
      have st13:=tt))
    | (
     (with_reducible refine gate_store (t:=27) (p:=2) rfl ?_)
     clear st13
     go_must (
      refine store_event (t:=27) (p:=2) (v:=.tmp 55) (w1:=World.setRow (((w6.setCell ⟨w1.heap.size,0,none⟩ (.int .i64 23))).setCell ⟨w1.heap.size,2,none⟩ (.int .i64 v)) (w.heap.size + 1) #[.int .i64 23,.int .i64 a0,.int .i64 v,.string ⟨#[]⟩,.slice none 0 0,.slice none 0 0,.int .i64 0,.string ⟨#[]⟩,.int .i64 0,.slice none 0 0]) ?hg ?ho ?hn ?hr ?_
      (case ho=>rfl)
      (case hg=>rfl)
      (case hn=>rfl)
      (case hr=>exact store27 (((w6.setCell ⟨w1.heap.size,0,none⟩ (.int .i64 23))).setCell ⟨w1.heap.size,2,none⟩ (.int .i64 v)) (w.heap.size + 1) _ _ HR.out rfl rfl (by first | kernel_rfl | (simp [Value.oneCell'])) _ _ _ _ rfl rfl rfl)
      intro w710 hw710
      subst hw710
      have st14:=tt)))
  clear st14
  replace HK:=am (kept_rowX HK.out (g:=w.heap.size + 1) (.inr (by show w.heap.size <= w.heap.size + 1;omega)) #[.int .i64 23,.int .i64 a0,.int .i64 v,.string ⟨#[]⟩,.slice none 0 0,.slice none 0 0,.int .i64 0,.string ⟨#[]⟩,.int .i64 0,.slice none 0 0])
  replace HP:=am (PS.rowP HP.out HR.out #[.int .i64 23,.int .i64 a0,.int .i64 v,.string ⟨#[]⟩,.slice none 0 0,.slice none 0 0,.int .i64 0,.string ⟨#[]⟩,.int .i64 0,.slice none 0 0])
  replace HB0:=am (has_row_other HB0.out (g:=w.heap.size + 1) (cs':=#[.int .i64 23,.int .i64 a0,.int .i64 v,.string ⟨#[]⟩,.slice none 0 0,.slice none 0 0,.int .i64 0,.string ⟨#[]⟩,.int .i64 0,.slice none 0 0]) (by omega))
  replace HX:=am (has_row_other HX.out (g:=w.heap.size + 1) (cs':=#[.int .i64 23,.int .i64 a0,.int .i64 v,.string ⟨#[]⟩,.slice none 0 0,.slice none 0 0,.int .i64 0,.string ⟨#[]⟩,.int .i64 0,.slice none 0 0]) (by omega))
  replace HR:=am (has_row HR.out #[.int .i64 23,.int .i64 a0,.int .i64 v,.string ⟨#[]⟩,.slice none 0 0,.slice none 0 0,.int .i64 0,.string ⟨#[]⟩,.int .i64 0,.slice none 0 0])
  clear cw_HB0_0
  have cw_HB0_0:=hci HB0.out 0 rfl
  have HE:Aside0 (R = .ok (mkE 23 a0 v ⟨#[]⟩ [] []) l1):=⟨by rw [HEQ.out];simp [needP,PR.andThen,HT1.out,HT2.out,HT3.out,HK2.out,HA.out]⟩
  refine bodyPost_ret (results_cell_row rfl _ _ (w.heap.size + 1) 27 #[.int .i64 23,.int .i64 a0,.int .i64 v,.string ⟨#[]⟩,.slice none 0 0,.slice none 0 0,.int .i64 0,.string ⟨#[]⟩,.int .i64 0,.slice none 0 0] (0,0) _ rfl HR.out Tryd.underlying27 rfl (by rfl)) rfl ?_
  rw [HE.out]
  exact ⟨HK.out,_,rfl,(VO.leaf _ _ _ 23 a0 v ⟨#[]⟩),HP.out⟩
 ·have b2:(q == 2) = false:=by simp [k2]
  have HK2:Aside0 (¬ kindP l = 2):=⟨fun h=>k2 (HQ.out.symm.trans h)⟩
  clear k2
  have st9:=tt
  go_wp2_with ((
        go_at_call 19
        clear st9
        go_must (
         (with_reducible refine Calls.mono (kind_ps HP.out) ?_)
         rintro en w5 ⟨he5,hb5⟩
         rw [HQ.out] at he5
         subst he5
         replace HK:=am (Kept.below HK.out hb5)
         replace HP:=am (HP.out.below hb5)
         replace HB0:=am (HB0.out.belowS hb5)
         replace HR:=am (HR.out.belowS hb5)
         replace HX:=am (HX.out.belowS hb5)
         have hs5:=Below.size hb5
         try simp at hs5
         clear cw_HB0_0
         have cw_HB0_0:=hci HB0.out 0 rfl
         have st10:=tt)))
  clear st10
  cases hHA:nameP e l with
  | out=>exact absurd (by rw [HEQ.out];simp [needP,PR.andThen,HT1.out,HT2.out,HT3.out,HK2.out,hHA]) HNE.out
  | bad bb er =>
   have HA:=am hHA
   have HAN:=am (show nameP e l ≠ .out by rw [hHA];exact PR.bad_ne _ _)
   clear hHA
   have st11:=tt
   go_wp2_with ((
         go_at_call 40
         clear st11
         go_must (
          (with_reducible refine Calls.mono (name_said g l e _ HP.out) ?_)
          rintro en w6 ⟨hk6,he6⟩
          rw [HA.out] at he6
          subst he6
          replace HK:=am (Kept.then_ HK.out hk6)
          replace HB0:=am (Kept.has hk6 HB0.out (by omega))
          replace HR:=am (Kept.has hk6 HR.out (by omega))
          replace HX:=am (Kept.has hk6 HX.out (by omega))
          have hs6:=Kept.size hk6
          try simp at hs6
          clear cw_HB0_0
          have cw_HB0_0:=hci HB0.out 0 rfl
          have st12:=tt)))
   clear st12
   have HE:Aside0 (R = .bad bb er):=⟨by rw [HEQ.out];simp [needP,PR.andThen,HT1.out,HT2.out,HT3.out,HK2.out,HA.out]⟩
   rw [HE.out]
   exact ⟨rfl,HK.out,rfl⟩
  | ok s l1 =>
  have HA:=am hHA
  have HAN:=am (show nameP e l ≠ .out by rw [hHA];exact PR.ok_ne _ _)
  clear hHA
  have hs1:s.size < 4611686018427387904:=name_size2 HP.out HA.out
  have hun:sUnder.toList = [95]:=by rw [ByteArray.toList_eq]
  cases hB:(s.toList == [95]) with
  | true =>
   have hb1:=hB
   have HUN:Aside0 (s.toList = sUnder.toList):=⟨by rw [hun];simpa using hB⟩
   clear hB hun
   cases hHC:isP sColons l1 with
   | true =>
    have HC:=am hHC
    clear hHC
    have st11:=tt
    go_wp2_with (first
      | (
       go_at_call 40
       clear st11
       go_must (
        (with_reducible refine Calls.mono (name_said g l e _ HP.out) ?_)
        rintro en w6 ⟨hk6,he6⟩
        rw [HA.out] at he6
        obtain ⟨v6,rfl,hv6,hp6⟩:=he6
        obtain rfl:=hv6
        replace HK:=am (Kept.then_ HK.out hk6)
        replace HB0:=am (Kept.has hk6 HB0.out (by omega))
        replace HR:=am (Kept.has hk6 HR.out (by omega))
        replace HX:=am (Kept.has hk6 HX.out (by omega))
        replace HP:=am hp6
        have hs6:=Kept.size hk6
        try simp at hs6
        clear cw_HB0_0
        have cw_HB0_0:=hci HB0.out 0 rfl
        have st12:=tt))
      | (
       go_at_call 60
       clear st12
       go_must (
        (with_reducible refine Calls.mono (is_ps sColons HP.out) ?_)
        rintro en w7 ⟨he7,hb7⟩
        rw [HC.out] at he7
        subst he7
        replace HK:=am (Kept.below HK.out hb7)
        replace HP:=am (HP.out.below hb7)
        replace HB0:=am (HB0.out.belowS hb7)
        replace HR:=am (HR.out.belowS hb7)
        replace HX:=am (HX.out.belowS hb7)
        have hs7:=Below.size hb7
        try simp at hs7
        clear cw_HB0_0
        have cw_HB0_0:=hci HB0.out 0 rfl
        have st13:=tt))
      | (
       go_at_call 42
       clear st13
       go_must (
        (with_reducible refine Calls.mono (need_yes sColons HP.out HC.out) ?_)
        rintro en w8 ⟨he8,hk8,hp8⟩
        subst he8
        replace HK:=am (Kept.then_ HK.out hk8)
        replace HB0:=am (Kept.has hk8 HB0.out (by omega))
        replace HR:=am (Kept.has hk8 HR.out (by omega))
        replace HX:=am (Kept.has hk8 HX.out (by omega))
        replace HP:=am hp8
        have hs8:=Kept.size hk8
        try simp at hs8
        clear cw_HB0_0
        have cw_HB0_0:=hci HB0.out 0 rfl
        have st14:=tt)))
    clear st14
    cases hHN:nameP e l1.tail with
    | out=>exact absurd (by rw [HEQ.out];simp [needP,PR.andThen,HT1.out,HT2.out,HT3.out,HK2.out,HA.out,HUN.out,HC.out,hHN]) HNE.out
    | bad bb er =>
     have HN:=am hHN
     have HNN:=am (show nameP e l1.tail ≠ .out by rw [hHN];exact PR.bad_ne _ _)
     clear hHN
     have st15:=tt
     go_wp2_with ((
           go_at_call 40
           clear st15
           go_must (
            (with_reducible refine Calls.mono (name_said g l1.tail e _ HP.out) ?_)
            rintro en w9 ⟨hk9,he9⟩
            rw [HN.out] at he9
            subst he9
            replace HK:=am (Kept.then_ HK.out hk9)
            replace HB0:=am (Kept.has hk9 HB0.out (by omega))
            replace HR:=am (Kept.has hk9 HR.out (by omega))
            replace HX:=am (Kept.has hk9 HX.out (by omega))
            have hs9:=Kept.size hk9
            try simp at hs9
            clear cw_HB0_0
            have cw_HB0_0:=hci HB0.out 0 rfl
            have st16:=tt)))
     clear st16
     have HE:Aside0 (R = .bad bb er):=⟨by rw [HEQ.out];simp [needP,PR.andThen,HT1.out,HT2.out,HT3.out,HK2.out,HA.out,HUN.out,HC.out,HN.out]⟩
     rw [HE.out]
     exact ⟨rfl,HK.out,rfl⟩
    | ok s2 l3 =>
    have HN:=am hHN
    have HNN:=am (show nameP e l1.tail ≠ .out by rw [hHN];exact PR.ok_ne _ _)
    clear hHN
    have hsz : ¬ s.size + s2.size >= 4611686018427387904:=fun h=>HNE.out (by rw [HEQ.out];simp [needP,PR.andThen,HT1.out,HT2.out,HT3.out,HK2.out,HA.out,HUN.out,HC.out,HN.out,h])
    have hsz2 : ¬ 4611686018427387904 <= s.size + s2.size:=hsz
    have st15:=tt
    go_wp2_with ((
          go_at_call 40
          clear st15
          go_must (
           (with_reducible refine Calls.mono (name_said g l1.tail e _ HP.out) ?_)
           rintro en w9 ⟨hk9,he9⟩
           rw [HN.out] at he9
           obtain ⟨v9,rfl,hv9,hp9⟩:=he9
           obtain rfl:=hv9
           replace HK:=am (Kept.then_ HK.out hk9)
           replace HB0:=am (Kept.has hk9 HB0.out (by omega))
           replace HR:=am (Kept.has hk9 HR.out (by omega))
           replace HX:=am (Kept.has hk9 HX.out (by omega))
           replace HP:=am hp9
           have hs9:=Kept.size hk9
           try simp at hs9
           clear cw_HB0_0
           have cw_HB0_0:=hci HB0.out 0 rfl
           have c10:=hci HX.out 0 rfl
           have f10:=Has.frozen HX.out 0
           have c11:=hci HX.out 3 rfl
           have f11:=Has.frozen HX.out 3
           have q11:Has (World.setCell (w9) ⟨w1.heap.size,0,none⟩ (.int .i64 26)) (w1.heap.size) #[.int .i64 26,.int .i64 a0,.int .i64 0,.string ⟨#[]⟩,.slice none 0 0,.slice none 0 0,.int .i64 0,.string ⟨#[]⟩,.int .i64 0,.slice none 0 0] 27:=Has.set_ (HX.out) 0 (.int .i64 26)
           have cc11:=hci q11 3 rfl
           have ff11:=q11.frozen 3
           clear q11
           have cy12:=Has.cell (Has.other ((Has.other (HB0.out) (a:=⟨w1.heap.size,0,none⟩) (by show w.heap.size ≠ w1.heap.size;omega) (.int .i64 26))) (a:=⟨w1.heap.size,3,none⟩) (by show w.heap.size ≠ w1.heap.size;omega) (.string ((s ++ sColons) ++ s2))) 0
           simp only [List.getElem?_toArray,List.getElem?_cons_zero,List.getElem?_cons_succ] at cy12
           have st16:=tt)))
    clear st16
    clear c10 f10 c11 f11 cc11 ff11 cy12
    replace HK:=am (Kept.setCellX HK.out (a:=⟨w1.heap.size,0,none⟩) (.inr (by show w.heap.size <= w1.heap.size;omega)) (.int .i64 26))
    replace HP:=am (PS.setT HP.out HX.out (by decide) (by decide) 0 (.int .i64 26))
    replace HB0:=am (Has.other HB0.out (a:=⟨w1.heap.size,0,none⟩) (by show w.heap.size ≠ w1.heap.size;omega) (.int .i64 26))
    replace HR:=am (Has.other HR.out (a:=⟨w1.heap.size,0,none⟩) (by show w.heap.size + 1 ≠ w1.heap.size;omega) (.int .i64 26))
    replace HX:Aside0 (Has (w9.setCell ⟨w1.heap.size,0,none⟩ (.int .i64 26)) (w1.heap.size) #[.int .i64 26,.int .i64 a0,.int .i64 0,.string ⟨#[]⟩,.slice none 0 0,.slice none 0 0,.int .i64 0,.string ⟨#[]⟩,.int .i64 0,.slice none 0 0] 27):=⟨by have h:=Has.set_ HX.out 0 (.int .i64 26);exact h⟩
    replace HK:=am (Kept.setCellX HK.out (a:=⟨w1.heap.size,3,none⟩) (.inr (by show w.heap.size <= w1.heap.size;omega)) (.string ((s ++ sColons) ++ s2)))
    replace HP:=am (PS.setT HP.out HX.out (by decide) (by decide) 3 (.string ((s ++ sColons) ++ s2)))
    replace HB0:=am (Has.other HB0.out (a:=⟨w1.heap.size,3,none⟩) (by show w.heap.size ≠ w1.heap.size;omega) (.string ((s ++ sColons) ++ s2)))
    replace HR:=am (Has.other HR.out (a:=⟨w1.heap.size,3,none⟩) (by show w.heap.size + 1 ≠ w1.heap.size;omega) (.string ((s ++ sColons) ++ s2)))
    replace HX:Aside0 (Has (((w9.setCell ⟨w1.heap.size,0,none⟩ (.int .i64 26))).setCell ⟨w1.heap.size,3,none⟩ (.string ((s ++ sColons) ++ s2))) (w1.heap.size) #[.int .i64 26,.int .i64 a0,.int .i64 0,.string ((s ++ sColons) ++ s2),.slice none 0 0,.slice none 0 0,.int .i64 0,.string ⟨#[]⟩,.int .i64 0,.slice none 0 0] 27):=⟨by have h:=Has.set_ HX.out 3 (.string ((s ++ sColons) ++ s2));exact h⟩
    clear cw_HB0_0
    have cw_HB0_0:=hci HB0.out 0 rfl
    cases hHL:isP sLpar l3 with
    | true =>
     have HL:=am hHL
     clear hHL
     have st17:=tt
     go_wp2_with ((
           go_at_call 41
           clear st17
           go_must (
            (with_reducible refine Calls.mono (take_yes sLpar HP.out HL.out) ?_)
            rintro en w13 ⟨he13,hk13,hp13⟩
            subst he13
            replace HK:=am (Kept.then_ HK.out hk13)
            replace HB0:=am (Kept.has hk13 HB0.out (by omega))
            replace HR:=am (Kept.has hk13 HR.out (by omega))
            replace HX:=am (Kept.has hk13 HX.out (by omega))
            replace HP:=am hp13
            have hs13:=Kept.size hk13
            try simp at hs13
            clear cw_HB0_0
            have cw_HB0_0:=hci HB0.out 0 rfl
            have st18:=tt)))
     clear st18
     cases hHJ:listP e sRpar (bindP e) n [] l3.tail with
     | out=>exact absurd (by rw [HEQ.out];simp [needP,PR.andThen,HT1.out,HT2.out,HT3.out,HK2.out,HA.out,HUN.out,HC.out,HN.out,hsz2,HL.out,hHJ]) HNE.out
     | bad bb er =>
      have HJ:=am hHJ
      have HJN:=am (show listP e sRpar (bindP e) n [] l3.tail ≠ .out by rw [hHJ];exact PR.bad_ne _ _)
      clear hHJ
      have st19:=tt
      go_wp2_with ((
            go_at_call 43
            clear st19
            go_must (
             (with_reducible refine Calls.mono (list_said g e sRpar 87 #[.pointer (some ⟨w1.heap.size,0,none⟩),.pointer (some ⟨w.heap.size,0,none⟩)] (by intro w;kernel_rfl) (fun k=>k = g \/ w1.heap.size <= k) (.inl rfl) (IB g w.heap.size w1.heap.size a0 ((s ++ sColons) ++ s2)) (fun w1 w2 xs h hk=>h.kept hgw (by omega) hk) (bindP e) (fun xs l w h1 h2 h3=>binds_rd g e _ _ hgw (by omega) a0 ((s ++ sColons) ++ s2) xs l w h1 h2 h3) n [] l3.tail _ HP.out (IB.of HB0.out HX.out (Kd.R_nil _ _ _ _ _)) HJN.out) ?_)
             rintro en w14 ⟨hk14,he14⟩
             rw [HJ.out] at he14
             subst he14
             replace HK:=am (HK.out.wide (by omega) hk14)
             clear cw_HB0_0
             have cw_HB0_0:=hci HB0.out 0 rfl
             have st20:=tt)))
      clear st20
      have HE:Aside0 (R = .bad bb er):=⟨by rw [HEQ.out];simp [needP,PR.andThen,HT1.out,HT2.out,HT3.out,HK2.out,HA.out,HUN.out,HC.out,HN.out,hsz2,HL.out,HJ.out]⟩
      rw [HE.out]
      exact ⟨rfl,HK.out,rfl⟩
     | ok ks l4 =>
     have HJ:=am hHJ
     have HJN:=am (show listP e sRpar (bindP e) n [] l3.tail ≠ .out by rw [hHJ];exact PR.ok_ne _ _)
     clear hHJ
     have st19:=tt
     go_wp2_with (first
       | (
        go_at_call 43
        clear st19
        go_must (
         (with_reducible refine Calls.mono (list_said g e sRpar 87 #[.pointer (some ⟨w1.heap.size,0,none⟩),.pointer (some ⟨w.heap.size,0,none⟩)] (by intro w;kernel_rfl) (fun k=>k = g \/ w1.heap.size <= k) (.inl rfl) (IB g w.heap.size w1.heap.size a0 ((s ++ sColons) ++ s2)) (fun w1 w2 xs h hk=>h.kept hgw (by omega) hk) (bindP e) (fun xs l w h1 h2 h3=>binds_rd g e _ _ hgw (by omega) a0 ((s ++ sColons) ++ s2) xs l w h1 h2 h3) n [] l3.tail _ HP.out (IB.of HB0.out HX.out (Kd.R_nil _ _ _ _ _)) HJN.out) ?_)
         rintro en w14 ⟨hk14,he14⟩
         rw [HJ.out] at he14
         obtain ⟨rfl,⟨vk,hB0,hX0,hR0⟩,hp0⟩:=he14
         replace HR:=am (Kept.has hk14 HR.out (by omega))
         replace HK:=am (HK.out.wide (by omega) hk14)
         replace HB0:=am hB0
         replace HX:=am hX0
         replace HP:=am hp0
         have HKD:=am hR0
         clear hB0 hX0 hp0 hR0 hk14
         clear cw_HB0_0
         have cw_HB0_0:=hci HB0.out 0 rfl
         obtain ⟨A9,c9,rfl⟩:=Kd.R_slice HKD.out
         clear cw_HB0_0
         have cw_HB0_0:=hci HB0.out 0 rfl
         have st20:=tt))
       | (
        (with_reducible refine gate_dst (N:=55) rfl ?_)
        clear st20
        go_must (
         refine Kd.event_run rfl (load27 w14 (w1.heap.size) #[.int .i64 26,.int .i64 a0,.int .i64 0,.string ((s ++ sColons) ++ s2),.slice A9 ks.length c9,.slice none 0 0,.int .i64 0,.string ⟨#[]⟩,.int .i64 0,.slice none 0 0] HX.out rfl _ _ _ rfl rfl) ?_
         have st21:=tt))
       | (
        (with_reducible refine gate_store (t:=27) (p:=2) rfl ?_)
        clear st21
        go_must (
         refine store_event (t:=27) (p:=2) (v:=.tmp 55) (w1:=World.setRow w14 (w.heap.size + 1) #[.int .i64 26,.int .i64 a0,.int .i64 0,.string ((s ++ sColons) ++ s2),.slice A9 ks.length c9,.slice none 0 0,.int .i64 0,.string ⟨#[]⟩,.int .i64 0,.slice none 0 0]) ?hg ?ho ?hn ?hr ?_
         (case ho=>rfl)
         (case hg=>rfl)
         (case hn=>rfl)
         (case hr=>exact store27 w14 (w.heap.size + 1) _ _ HR.out rfl rfl (by first | kernel_rfl | (simp [Value.oneCell'])) _ _ _ _ rfl rfl rfl)
         intro w715 hw715
         subst hw715
         have st22:=tt)))
     clear st22
     replace HK:=am (kept_rowX HK.out (g:=w.heap.size + 1) (.inr (by show w.heap.size <= w.heap.size + 1;omega)) #[.int .i64 26,.int .i64 a0,.int .i64 0,.string ((s ++ sColons) ++ s2),.slice A9 ks.length c9,.slice none 0 0,.int .i64 0,.string ⟨#[]⟩,.int .i64 0,.slice none 0 0])
     replace HP:=am (PS.rowP HP.out HR.out #[.int .i64 26,.int .i64 a0,.int .i64 0,.string ((s ++ sColons) ++ s2),.slice A9 ks.length c9,.slice none 0 0,.int .i64 0,.string ⟨#[]⟩,.int .i64 0,.slice none 0 0])
     replace HB0:=am (has_row_other HB0.out (g:=w.heap.size + 1) (cs':=#[.int .i64 26,.int .i64 a0,.int .i64 0,.string ((s ++ sColons) ++ s2),.slice A9 ks.length c9,.slice none 0 0,.int .i64 0,.string ⟨#[]⟩,.int .i64 0,.slice none 0 0]) (by omega))
     replace HX:=am (has_row_other HX.out (g:=w.heap.size + 1) (cs':=#[.int .i64 26,.int .i64 a0,.int .i64 0,.string ((s ++ sColons) ++ s2),.slice A9 ks.length c9,.slice none 0 0,.int .i64 0,.string ⟨#[]⟩,.int .i64 0,.slice none 0 0]) (by omega))
     replace HKD:=am (R_far HKD.out (fun kk h1 _=>row_block _ (w.heap.size + 1) kk #[.int .i64 26,.int .i64 a0,.int .i64 0,.string ((s ++ sColons) ++ s2),.slice A9 ks.length c9,.slice none 0 0,.int .i64 0,.string ⟨#[]⟩,.int .i64 0,.slice none 0 0] (by omega)))
     replace HR:=am (has_row HR.out #[.int .i64 26,.int .i64 a0,.int .i64 0,.string ((s ++ sColons) ++ s2),.slice A9 ks.length c9,.slice none 0 0,.int .i64 0,.string ⟨#[]⟩,.int .i64 0,.slice none 0 0])
     clear cw_HB0_0
     have cw_HB0_0:=hci HB0.out 0 rfl
     have HE:Aside0 (R = .ok (mkE 26 a0 0 ((s ++ sColons) ++ s2) ks []) l4):=⟨by rw [HEQ.out];simp [needP,PR.andThen,HT1.out,HT2.out,HT3.out,HK2.out,HA.out,HUN.out,HC.out,HN.out,hsz2,HL.out,HJ.out]⟩
     refine bodyPost_ret (results_cell_row rfl _ _ (w.heap.size + 1) 27 #[.int .i64 26,.int .i64 a0,.int .i64 0,.string ((s ++ sColons) ++ s2),.slice A9 ks.length c9,.slice none 0 0,.int .i64 0,.string ⟨#[]⟩,.int .i64 0,.slice none 0 0] (0,0) _ rfl HR.out Tryd.underlying27 rfl (by rfl)) rfl ?_
     rw [HE.out]
     exact ⟨HK.out,_,rfl,((VO.node 26 a0 0 ((s ++ sColons) ++ s2) HKD.out).lower (by omega)),HP.out⟩
    | false =>
    have HL:=am hHL
    clear hHL
    have st17:=tt
    go_wp2_with (first
      | (
       go_at_call 41
       clear st17
       go_must (
        (with_reducible refine Calls.mono (take_no sLpar HP.out HL.out) ?_)
        rintro en w13 ⟨he13,hk13,hp13⟩
        subst he13
        replace HK:=am (Kept.then_ HK.out hk13)
        replace HB0:=am (Kept.has hk13 HB0.out (by omega))
        replace HR:=am (Kept.has hk13 HR.out (by omega))
        replace HX:=am (Kept.has hk13 HX.out (by omega))
        replace HP:=am hp13
        have hs13:=Kept.size hk13
        try simp at hs13
        clear cw_HB0_0
        have cw_HB0_0:=hci HB0.out 0 rfl
        have st18:=tt))
      | (
       (with_reducible refine gate_dst (N:=55) rfl ?_)
       clear st18
       go_must (
        refine Kd.event_run rfl (load27 w13 (w1.heap.size) #[.int .i64 26,.int .i64 a0,.int .i64 0,.string ((s ++ sColons) ++ s2),.slice none 0 0,.slice none 0 0,.int .i64 0,.string ⟨#[]⟩,.int .i64 0,.slice none 0 0] HX.out rfl _ _ _ rfl rfl) ?_
        have st19:=tt))
      | (
       (with_reducible refine gate_store (t:=27) (p:=2) rfl ?_)
       clear st19
       go_must (
        refine store_event (t:=27) (p:=2) (v:=.tmp 55) (w1:=World.setRow w13 (w.heap.size + 1) #[.int .i64 26,.int .i64 a0,.int .i64 0,.string ((s ++ sColons) ++ s2),.slice none 0 0,.slice none 0 0,.int .i64 0,.string ⟨#[]⟩,.int .i64 0,.slice none 0 0]) ?hg ?ho ?hn ?hr ?_
        (case ho=>rfl)
        (case hg=>rfl)
        (case hn=>rfl)
        (case hr=>exact store27 w13 (w.heap.size + 1) _ _ HR.out rfl rfl (by first | kernel_rfl | (simp [Value.oneCell'])) _ _ _ _ rfl rfl rfl)
        intro w714 hw714
        subst hw714
        have st20:=tt)))
    clear st20
    replace HK:=am (kept_rowX HK.out (g:=w.heap.size + 1) (.inr (by show w.heap.size <= w.heap.size + 1;omega)) #[.int .i64 26,.int .i64 a0,.int .i64 0,.string ((s ++ sColons) ++ s2),.slice none 0 0,.slice none 0 0,.int .i64 0,.string ⟨#[]⟩,.int .i64 0,.slice none 0 0])
    replace HP:=am (PS.rowP HP.out HR.out #[.int .i64 26,.int .i64 a0,.int .i64 0,.string ((s ++ sColons) ++ s2),.slice none 0 0,.slice none 0 0,.int .i64 0,.string ⟨#[]⟩,.int .i64 0,.slice none 0 0])
    replace HB0:=am (has_row_other HB0.out (g:=w.heap.size + 1) (cs':=#[.int .i64 26,.int .i64 a0,.int .i64 0,.string ((s ++ sColons) ++ s2),.slice none 0 0,.slice none 0 0,.int .i64 0,.string ⟨#[]⟩,.int .i64 0,.slice none 0 0]) (by omega))
    replace HX:=am (has_row_other HX.out (g:=w.heap.size + 1) (cs':=#[.int .i64 26,.int .i64 a0,.int .i64 0,.string ((s ++ sColons) ++ s2),.slice none 0 0,.slice none 0 0,.int .i64 0,.string ⟨#[]⟩,.int .i64 0,.slice none 0 0]) (by omega))
    replace HR:=am (has_row HR.out #[.int .i64 26,.int .i64 a0,.int .i64 0,.string ((s ++ sColons) ++ s2),.slice none 0 0,.slice none 0 0,.int .i64 0,.string ⟨#[]⟩,.int .i64 0,.slice none 0 0])
    clear cw_HB0_0
    have cw_HB0_0:=hci HB0.out 0 rfl
    have HE:Aside0 (R = .ok (mkE 26 a0 0 ((s ++ sColons) ++ s2) [] []) l3):=⟨by rw [HEQ.out];simp [needP,PR.andThen,HT1.out,HT2.out,HT3.out,HK2.out,HA.out,HUN.out,HC.out,HN.out,hsz2,HL.out]⟩
    refine bodyPost_ret (results_cell_row rfl _ _ (w.heap.size + 1) 27 #[.int .i64 26,.int .i64 a0,.int .i64 0,.string ((s ++ sColons) ++ s2),.slice none 0 0,.slice none 0 0,.int .i64 0,.string ⟨#[]⟩,.int .i64 0,.slice none 0 0] (0,0) _ rfl HR.out Tryd.underlying27 rfl (by rfl)) rfl ?_
    rw [HE.out]
    exact ⟨HK.out,_,rfl,(VO.leaf _ _ _ 26 a0 0 ((s ++ sColons) ++ s2)),HP.out⟩
   | false =>
   have HC:=am hHC
   clear hHC
   have st11:=tt
   go_wp2_with (first
     | (
      go_at_call 40
      clear st11
      go_must (
       (with_reducible refine Calls.mono (name_said g l e _ HP.out) ?_)
       rintro en w6 ⟨hk6,he6⟩
       rw [HA.out] at he6
       obtain ⟨v6,rfl,hv6,hp6⟩:=he6
       obtain rfl:=hv6
       replace HK:=am (Kept.then_ HK.out hk6)
       replace HB0:=am (Kept.has hk6 HB0.out (by omega))
       replace HR:=am (Kept.has hk6 HR.out (by omega))
       replace HX:=am (Kept.has hk6 HX.out (by omega))
       replace HP:=am hp6
       have hs6:=Kept.size hk6
       try simp at hs6
       clear cw_HB0_0
       have cw_HB0_0:=hci HB0.out 0 rfl
       have st12:=tt))
     | (
      go_at_call 60
      clear st12
      go_must (
       (with_reducible refine Calls.mono (is_ps sColons HP.out) ?_)
       rintro en w7 ⟨he7,hb7⟩
       rw [HC.out] at he7
       subst he7
       replace HK:=am (Kept.below HK.out hb7)
       replace HP:=am (HP.out.below hb7)
       replace HB0:=am (HB0.out.belowS hb7)
       replace HR:=am (HR.out.belowS hb7)
       replace HX:=am (HX.out.belowS hb7)
       have hs7:=Below.size hb7
       try simp at hs7
       clear cw_HB0_0
       have cw_HB0_0:=hci HB0.out 0 rfl
       have c8:=hci HX.out 0 rfl
       have f8:=Has.frozen HX.out 0
       have cy9:=hci (Has.other (HB0.out) (a:=⟨w1.heap.size,0,none⟩) (by show w.heap.size ≠ w1.heap.size;omega) (.int .i64 25)) 0 rfl
       have st13:=tt))
     | (
      (with_reducible refine gate_dst (N:=55) rfl ?_)
      clear st13
      go_must (
       clear c8 f8 cy9
       replace HK:=am (Kept.setCellX HK.out (a:=⟨w1.heap.size,0,none⟩) (.inr (by show w.heap.size <= w1.heap.size;omega)) (.int .i64 25))
       replace HP:=am (PS.setT HP.out HX.out (by decide) (by decide) 0 (.int .i64 25))
       replace HB0:=am (Has.other HB0.out (a:=⟨w1.heap.size,0,none⟩) (by show w.heap.size ≠ w1.heap.size;omega) (.int .i64 25))
       replace HR:=am (Has.other HR.out (a:=⟨w1.heap.size,0,none⟩) (by show w.heap.size + 1 ≠ w1.heap.size;omega) (.int .i64 25))
       replace HX:Aside0 (Has (w7.setCell ⟨w1.heap.size,0,none⟩ (.int .i64 25)) (w1.heap.size) #[.int .i64 25,.int .i64 a0,.int .i64 0,.string ⟨#[]⟩,.slice none 0 0,.slice none 0 0,.int .i64 0,.string ⟨#[]⟩,.int .i64 0,.slice none 0 0] 27):=⟨by have h:=Has.set_ HX.out 0 (.int .i64 25);exact h⟩
       clear cw_HB0_0
       have cw_HB0_0:=hci HB0.out 0 rfl
       refine Kd.event_run rfl (load27 (w7.setCell ⟨w1.heap.size,0,none⟩ (.int .i64 25)) (w1.heap.size) #[.int .i64 25,.int .i64 a0,.int .i64 0,.string ⟨#[]⟩,.slice none 0 0,.slice none 0 0,.int .i64 0,.string ⟨#[]⟩,.int .i64 0,.slice none 0 0] HX.out rfl _ _ _ rfl rfl) ?_
       have st14:=tt))
     | (
      (with_reducible refine gate_store (t:=27) (p:=2) rfl ?_)
      clear st14
      go_must (
       refine store_event (t:=27) (p:=2) (v:=.tmp 55) (w1:=World.setRow (w7.setCell ⟨w1.heap.size,0,none⟩ (.int .i64 25)) (w.heap.size + 1) #[.int .i64 25,.int .i64 a0,.int .i64 0,.string ⟨#[]⟩,.slice none 0 0,.slice none 0 0,.int .i64 0,.string ⟨#[]⟩,.int .i64 0,.slice none 0 0]) ?hg ?ho ?hn ?hr ?_
       (case ho=>rfl)
       (case hg=>rfl)
       (case hn=>rfl)
       (case hr=>exact store27 (w7.setCell ⟨w1.heap.size,0,none⟩ (.int .i64 25)) (w.heap.size + 1) _ _ HR.out rfl rfl (by first | kernel_rfl | (simp [Value.oneCell'])) _ _ _ _ rfl rfl rfl)
       intro w710 hw710
       subst hw710
       have st15:=tt)))
   clear st15
   replace HK:=am (kept_rowX HK.out (g:=w.heap.size + 1) (.inr (by show w.heap.size <= w.heap.size + 1;omega)) #[.int .i64 25,.int .i64 a0,.int .i64 0,.string ⟨#[]⟩,.slice none 0 0,.slice none 0 0,.int .i64 0,.string ⟨#[]⟩,.int .i64 0,.slice none 0 0])
   replace HP:=am (PS.rowP HP.out HR.out #[.int .i64 25,.int .i64 a0,.int .i64 0,.string ⟨#[]⟩,.slice none 0 0,.slice none 0 0,.int .i64 0,.string ⟨#[]⟩,.int .i64 0,.slice none 0 0])
   replace HB0:=am (has_row_other HB0.out (g:=w.heap.size + 1) (cs':=#[.int .i64 25,.int .i64 a0,.int .i64 0,.string ⟨#[]⟩,.slice none 0 0,.slice none 0 0,.int .i64 0,.string ⟨#[]⟩,.int .i64 0,.slice none 0 0]) (by omega))
   replace HX:=am (has_row_other HX.out (g:=w.heap.size + 1) (cs':=#[.int .i64 25,.int .i64 a0,.int .i64 0,.string ⟨#[]⟩,.slice none 0 0,.slice none 0 0,.int .i64 0,.string ⟨#[]⟩,.int .i64 0,.slice none 0 0]) (by omega))
   replace HR:=am (has_row HR.out #[.int .i64 25,.int .i64 a0,.int .i64 0,.string ⟨#[]⟩,.slice none 0 0,.slice none 0 0,.int .i64 0,.string ⟨#[]⟩,.int .i64 0,.slice none 0 0])
   clear cw_HB0_0
   have cw_HB0_0:=hci HB0.out 0 rfl
   have HE:Aside0 (R = .ok (mkE 25 a0 0 ⟨#[]⟩ [] []) l1):=⟨by rw [HEQ.out];simp [needP,PR.andThen,HT1.out,HT2.out,HT3.out,HK2.out,HA.out,HUN.out,HC.out]⟩
   refine bodyPost_ret (results_cell_row rfl _ _ (w.heap.size + 1) 27 #[.int .i64 25,.int .i64 a0,.int .i64 0,.string ⟨#[]⟩,.slice none 0 0,.slice none 0 0,.int .i64 0,.string ⟨#[]⟩,.int .i64 0,.slice none 0 0] (0,0) _ rfl HR.out Tryd.underlying27 rfl (by rfl)) rfl ?_
   rw [HE.out]
   exact ⟨HK.out,_,rfl,(VO.leaf _ _ _ 25 a0 0 ⟨#[]⟩),HP.out⟩
  | false =>
   have hb1:=hB
   have HUN:Aside0 (¬ s.toList = sUnder.toList):=⟨by rw [hun];simpa using hB⟩
   have HUN2:Aside0 (¬ s.toList = [95]):=⟨by simpa using hB⟩
   clear hB hun
   cases hHC:isP sColons l1 with
   | true =>
    have HC:=am hHC
    clear hHC
    have st11:=tt
    go_wp2_with (first
      | (
       go_at_call 40
       clear st11
       go_must (
        (with_reducible refine Calls.mono (name_said g l e _ HP.out) ?_)
        rintro en w6 ⟨hk6,he6⟩
        rw [HA.out] at he6
        obtain ⟨v6,rfl,hv6,hp6⟩:=he6
        obtain rfl:=hv6
        replace HK:=am (Kept.then_ HK.out hk6)
        replace HB0:=am (Kept.has hk6 HB0.out (by omega))
        replace HR:=am (Kept.has hk6 HR.out (by omega))
        replace HX:=am (Kept.has hk6 HX.out (by omega))
        replace HP:=am hp6
        have hs6:=Kept.size hk6
        try simp at hs6
        clear cw_HB0_0
        have cw_HB0_0:=hci HB0.out 0 rfl
        have st12:=tt))
      | (
       go_at_call 42
       clear st12
       go_must (
        (with_reducible refine Calls.mono (need_yes sColons HP.out HC.out) ?_)
        rintro en w7 ⟨he7,hk7,hp7⟩
        subst he7
        replace HK:=am (Kept.then_ HK.out hk7)
        replace HB0:=am (Kept.has hk7 HB0.out (by omega))
        replace HR:=am (Kept.has hk7 HR.out (by omega))
        replace HX:=am (Kept.has hk7 HX.out (by omega))
        replace HP:=am hp7
        have hs7:=Kept.size hk7
        try simp at hs7
        clear cw_HB0_0
        have cw_HB0_0:=hci HB0.out 0 rfl
        have st13:=tt)))
    clear st13
    cases hHN:nameP e l1.tail with
    | out=>exact absurd (by rw [HEQ.out];simp [needP,PR.andThen,HT1.out,HT2.out,HT3.out,HK2.out,HA.out,HUN.out,HUN2.out,HC.out,hHN]) HNE.out
    | bad bb er =>
     have HN:=am hHN
     have HNN:=am (show nameP e l1.tail ≠ .out by rw [hHN];exact PR.bad_ne _ _)
     clear hHN
     have st14:=tt
     go_wp2_with ((
           go_at_call 40
           clear st14
           go_must (
            (with_reducible refine Calls.mono (name_said g l1.tail e _ HP.out) ?_)
            rintro en w8 ⟨hk8,he8⟩
            rw [HN.out] at he8
            subst he8
            replace HK:=am (Kept.then_ HK.out hk8)
            replace HB0:=am (Kept.has hk8 HB0.out (by omega))
            replace HR:=am (Kept.has hk8 HR.out (by omega))
            replace HX:=am (Kept.has hk8 HX.out (by omega))
            have hs8:=Kept.size hk8
            try simp at hs8
            clear cw_HB0_0
            have cw_HB0_0:=hci HB0.out 0 rfl
            have st15:=tt)))
     clear st15
     have HE:Aside0 (R = .bad bb er):=⟨by rw [HEQ.out];simp [needP,PR.andThen,HT1.out,HT2.out,HT3.out,HK2.out,HA.out,HUN.out,HUN2.out,HC.out,HN.out]⟩
     rw [HE.out]
     exact ⟨rfl,HK.out,rfl⟩
    | ok s2 l3 =>
    have HN:=am hHN
    have HNN:=am (show nameP e l1.tail ≠ .out by rw [hHN];exact PR.ok_ne _ _)
    clear hHN
    have hsz : ¬ s.size + s2.size >= 4611686018427387904:=fun h=>HNE.out (by rw [HEQ.out];simp [needP,PR.andThen,HT1.out,HT2.out,HT3.out,HK2.out,HA.out,HUN.out,HUN2.out,HC.out,HN.out,h])
    have hsz2 : ¬ 4611686018427387904 <= s.size + s2.size:=hsz
    have st14:=tt
    go_wp2_with ((
          go_at_call 40
          clear st14
          go_must (
           (with_reducible refine Calls.mono (name_said g l1.tail e _ HP.out) ?_)
           rintro en w8 ⟨hk8,he8⟩
           rw [HN.out] at he8
           obtain ⟨v8,rfl,hv8,hp8⟩:=he8
           obtain rfl:=hv8
           replace HK:=am (Kept.then_ HK.out hk8)
           replace HB0:=am (Kept.has hk8 HB0.out (by omega))
           replace HR:=am (Kept.has hk8 HR.out (by omega))
           replace HX:=am (Kept.has hk8 HX.out (by omega))
           replace HP:=am hp8
           have hs8:=Kept.size hk8
           try simp at hs8
           clear cw_HB0_0
           have cw_HB0_0:=hci HB0.out 0 rfl
           have c9:=hci HX.out 0 rfl
           have f9:=Has.frozen HX.out 0
           have c10:=hci HX.out 3 rfl
           have f10:=Has.frozen HX.out 3
           have q10:Has (World.setCell (w8) ⟨w1.heap.size,0,none⟩ (.int .i64 26)) (w1.heap.size) #[.int .i64 26,.int .i64 a0,.int .i64 0,.string ⟨#[]⟩,.slice none 0 0,.slice none 0 0,.int .i64 0,.string ⟨#[]⟩,.int .i64 0,.slice none 0 0] 27:=Has.set_ (HX.out) 0 (.int .i64 26)
           have cc10:=hci q10 3 rfl
           have ff10:=q10.frozen 3
           clear q10
           have cy11:=Has.cell (Has.other ((Has.other (HB0.out) (a:=⟨w1.heap.size,0,none⟩) (by show w.heap.size ≠ w1.heap.size;omega) (.int .i64 26))) (a:=⟨w1.heap.size,3,none⟩) (by show w.heap.size ≠ w1.heap.size;omega) (.string ((s ++ sColons) ++ s2))) 0
           simp only [List.getElem?_toArray,List.getElem?_cons_zero,List.getElem?_cons_succ] at cy11
           have st15:=tt)))
    clear st15
    clear c9 f9 c10 f10 cc10 ff10 cy11
    replace HK:=am (Kept.setCellX HK.out (a:=⟨w1.heap.size,0,none⟩) (.inr (by show w.heap.size <= w1.heap.size;omega)) (.int .i64 26))
    replace HP:=am (PS.setT HP.out HX.out (by decide) (by decide) 0 (.int .i64 26))
    replace HB0:=am (Has.other HB0.out (a:=⟨w1.heap.size,0,none⟩) (by show w.heap.size ≠ w1.heap.size;omega) (.int .i64 26))
    replace HR:=am (Has.other HR.out (a:=⟨w1.heap.size,0,none⟩) (by show w.heap.size + 1 ≠ w1.heap.size;omega) (.int .i64 26))
    replace HX:Aside0 (Has (w8.setCell ⟨w1.heap.size,0,none⟩ (.int .i64 26)) (w1.heap.size) #[.int .i64 26,.int .i64 a0,.int .i64 0,.string ⟨#[]⟩,.slice none 0 0,.slice none 0 0,.int .i64 0,.string ⟨#[]⟩,.int .i64 0,.slice none 0 0] 27):=⟨by have h:=Has.set_ HX.out 0 (.int .i64 26);exact h⟩
    replace HK:=am (Kept.setCellX HK.out (a:=⟨w1.heap.size,3,none⟩) (.inr (by show w.heap.size <= w1.heap.size;omega)) (.string ((s ++ sColons) ++ s2)))
    replace HP:=am (PS.setT HP.out HX.out (by decide) (by decide) 3 (.string ((s ++ sColons) ++ s2)))
    replace HB0:=am (Has.other HB0.out (a:=⟨w1.heap.size,3,none⟩) (by show w.heap.size ≠ w1.heap.size;omega) (.string ((s ++ sColons) ++ s2)))
    replace HR:=am (Has.other HR.out (a:=⟨w1.heap.size,3,none⟩) (by show w.heap.size + 1 ≠ w1.heap.size;omega) (.string ((s ++ sColons) ++ s2)))
    replace HX:Aside0 (Has (((w8.setCell ⟨w1.heap.size,0,none⟩ (.int .i64 26))).setCell ⟨w1.heap.size,3,none⟩ (.string ((s ++ sColons) ++ s2))) (w1.heap.size) #[.int .i64 26,.int .i64 a0,.int .i64 0,.string ((s ++ sColons) ++ s2),.slice none 0 0,.slice none 0 0,.int .i64 0,.string ⟨#[]⟩,.int .i64 0,.slice none 0 0] 27):=⟨by have h:=Has.set_ HX.out 3 (.string ((s ++ sColons) ++ s2));exact h⟩
    clear cw_HB0_0
    have cw_HB0_0:=hci HB0.out 0 rfl
    cases hHL:isP sLpar l3 with
    | true =>
     have HL:=am hHL
     clear hHL
     have st16:=tt
     go_wp2_with ((
           go_at_call 41
           clear st16
           go_must (
            (with_reducible refine Calls.mono (take_yes sLpar HP.out HL.out) ?_)
            rintro en w12 ⟨he12,hk12,hp12⟩
            subst he12
            replace HK:=am (Kept.then_ HK.out hk12)
            replace HB0:=am (Kept.has hk12 HB0.out (by omega))
            replace HR:=am (Kept.has hk12 HR.out (by omega))
            replace HX:=am (Kept.has hk12 HX.out (by omega))
            replace HP:=am hp12
            have hs12:=Kept.size hk12
            try simp at hs12
            clear cw_HB0_0
            have cw_HB0_0:=hci HB0.out 0 rfl
            have st17:=tt)))
     clear st17
     cases hHJ:listP e sRpar (bindP e) n [] l3.tail with
     | out=>exact absurd (by rw [HEQ.out];simp [needP,PR.andThen,HT1.out,HT2.out,HT3.out,HK2.out,HA.out,HUN.out,HUN2.out,HC.out,HN.out,hsz2,HL.out,hHJ]) HNE.out
     | bad bb er =>
      have HJ:=am hHJ
      have HJN:=am (show listP e sRpar (bindP e) n [] l3.tail ≠ .out by rw [hHJ];exact PR.bad_ne _ _)
      clear hHJ
      have st18:=tt
      go_wp2_with ((
            go_at_call 43
            clear st18
            go_must (
             (with_reducible refine Calls.mono (list_said g e sRpar 87 #[.pointer (some ⟨w1.heap.size,0,none⟩),.pointer (some ⟨w.heap.size,0,none⟩)] (by intro w;kernel_rfl) (fun k=>k = g \/ w1.heap.size <= k) (.inl rfl) (IB g w.heap.size w1.heap.size a0 ((s ++ sColons) ++ s2)) (fun w1 w2 xs h hk=>h.kept hgw (by omega) hk) (bindP e) (fun xs l w h1 h2 h3=>binds_rd g e _ _ hgw (by omega) a0 ((s ++ sColons) ++ s2) xs l w h1 h2 h3) n [] l3.tail _ HP.out (IB.of HB0.out HX.out (Kd.R_nil _ _ _ _ _)) HJN.out) ?_)
             rintro en w13 ⟨hk13,he13⟩
             rw [HJ.out] at he13
             subst he13
             replace HK:=am (HK.out.wide (by omega) hk13)
             clear cw_HB0_0
             have cw_HB0_0:=hci HB0.out 0 rfl
             have st19:=tt)))
      clear st19
      have HE:Aside0 (R = .bad bb er):=⟨by rw [HEQ.out];simp [needP,PR.andThen,HT1.out,HT2.out,HT3.out,HK2.out,HA.out,HUN.out,HUN2.out,HC.out,HN.out,hsz2,HL.out,HJ.out]⟩
      rw [HE.out]
      exact ⟨rfl,HK.out,rfl⟩
     | ok ks l4 =>
     have HJ:=am hHJ
     have HJN:=am (show listP e sRpar (bindP e) n [] l3.tail ≠ .out by rw [hHJ];exact PR.ok_ne _ _)
     clear hHJ
     have st18:=tt
     go_wp2_with (first
       | (
        go_at_call 43
        clear st18
        go_must (
         (with_reducible refine Calls.mono (list_said g e sRpar 87 #[.pointer (some ⟨w1.heap.size,0,none⟩),.pointer (some ⟨w.heap.size,0,none⟩)] (by intro w;kernel_rfl) (fun k=>k = g \/ w1.heap.size <= k) (.inl rfl) (IB g w.heap.size w1.heap.size a0 ((s ++ sColons) ++ s2)) (fun w1 w2 xs h hk=>h.kept hgw (by omega) hk) (bindP e) (fun xs l w h1 h2 h3=>binds_rd g e _ _ hgw (by omega) a0 ((s ++ sColons) ++ s2) xs l w h1 h2 h3) n [] l3.tail _ HP.out (IB.of HB0.out HX.out (Kd.R_nil _ _ _ _ _)) HJN.out) ?_)
         rintro en w13 ⟨hk13,he13⟩
         rw [HJ.out] at he13
         obtain ⟨rfl,⟨vk,hB0,hX0,hR0⟩,hp0⟩:=he13
         replace HR:=am (Kept.has hk13 HR.out (by omega))
         replace HK:=am (HK.out.wide (by omega) hk13)
         replace HB0:=am hB0
         replace HX:=am hX0
         replace HP:=am hp0
         have HKD:=am hR0
         clear hB0 hX0 hp0 hR0 hk13
         clear cw_HB0_0
         have cw_HB0_0:=hci HB0.out 0 rfl
         obtain ⟨A9,c9,rfl⟩:=Kd.R_slice HKD.out
         clear cw_HB0_0
         have cw_HB0_0:=hci HB0.out 0 rfl
         have st19:=tt))
       | (
        (with_reducible refine gate_dst (N:=55) rfl ?_)
        clear st19
        go_must (
         refine Kd.event_run rfl (load27 w13 (w1.heap.size) #[.int .i64 26,.int .i64 a0,.int .i64 0,.string ((s ++ sColons) ++ s2),.slice A9 ks.length c9,.slice none 0 0,.int .i64 0,.string ⟨#[]⟩,.int .i64 0,.slice none 0 0] HX.out rfl _ _ _ rfl rfl) ?_
         have st20:=tt))
       | (
        (with_reducible refine gate_store (t:=27) (p:=2) rfl ?_)
        clear st20
        go_must (
         refine store_event (t:=27) (p:=2) (v:=.tmp 55) (w1:=World.setRow w13 (w.heap.size + 1) #[.int .i64 26,.int .i64 a0,.int .i64 0,.string ((s ++ sColons) ++ s2),.slice A9 ks.length c9,.slice none 0 0,.int .i64 0,.string ⟨#[]⟩,.int .i64 0,.slice none 0 0]) ?hg ?ho ?hn ?hr ?_
         (case ho=>rfl)
         (case hg=>rfl)
         (case hn=>rfl)
         (case hr=>exact store27 w13 (w.heap.size + 1) _ _ HR.out rfl rfl (by first | kernel_rfl | (simp [Value.oneCell'])) _ _ _ _ rfl rfl rfl)
         intro w714 hw714
         subst hw714
         have st21:=tt)))
     clear st21
     replace HK:=am (kept_rowX HK.out (g:=w.heap.size + 1) (.inr (by show w.heap.size <= w.heap.size + 1;omega)) #[.int .i64 26,.int .i64 a0,.int .i64 0,.string ((s ++ sColons) ++ s2),.slice A9 ks.length c9,.slice none 0 0,.int .i64 0,.string ⟨#[]⟩,.int .i64 0,.slice none 0 0])
     replace HP:=am (PS.rowP HP.out HR.out #[.int .i64 26,.int .i64 a0,.int .i64 0,.string ((s ++ sColons) ++ s2),.slice A9 ks.length c9,.slice none 0 0,.int .i64 0,.string ⟨#[]⟩,.int .i64 0,.slice none 0 0])
     replace HB0:=am (has_row_other HB0.out (g:=w.heap.size + 1) (cs':=#[.int .i64 26,.int .i64 a0,.int .i64 0,.string ((s ++ sColons) ++ s2),.slice A9 ks.length c9,.slice none 0 0,.int .i64 0,.string ⟨#[]⟩,.int .i64 0,.slice none 0 0]) (by omega))
     replace HX:=am (has_row_other HX.out (g:=w.heap.size + 1) (cs':=#[.int .i64 26,.int .i64 a0,.int .i64 0,.string ((s ++ sColons) ++ s2),.slice A9 ks.length c9,.slice none 0 0,.int .i64 0,.string ⟨#[]⟩,.int .i64 0,.slice none 0 0]) (by omega))
     replace HKD:=am (R_far HKD.out (fun kk h1 _=>row_block _ (w.heap.size + 1) kk #[.int .i64 26,.int .i64 a0,.int .i64 0,.string ((s ++ sColons) ++ s2),.slice A9 ks.length c9,.slice none 0 0,.int .i64 0,.string ⟨#[]⟩,.int .i64 0,.slice none 0 0] (by omega)))
     replace HR:=am (has_row HR.out #[.int .i64 26,.int .i64 a0,.int .i64 0,.string ((s ++ sColons) ++ s2),.slice A9 ks.length c9,.slice none 0 0,.int .i64 0,.string ⟨#[]⟩,.int .i64 0,.slice none 0 0])
     clear cw_HB0_0
     have cw_HB0_0:=hci HB0.out 0 rfl
     have HE:Aside0 (R = .ok (mkE 26 a0 0 ((s ++ sColons) ++ s2) ks []) l4):=⟨by rw [HEQ.out];simp [needP,PR.andThen,HT1.out,HT2.out,HT3.out,HK2.out,HA.out,HUN.out,HUN2.out,HC.out,HN.out,hsz2,HL.out,HJ.out]⟩
     refine bodyPost_ret (results_cell_row rfl _ _ (w.heap.size + 1) 27 #[.int .i64 26,.int .i64 a0,.int .i64 0,.string ((s ++ sColons) ++ s2),.slice A9 ks.length c9,.slice none 0 0,.int .i64 0,.string ⟨#[]⟩,.int .i64 0,.slice none 0 0] (0,0) _ rfl HR.out Tryd.underlying27 rfl (by rfl)) rfl ?_
     rw [HE.out]
     exact ⟨HK.out,_,rfl,((VO.node 26 a0 0 ((s ++ sColons) ++ s2) HKD.out).lower (by omega)),HP.out⟩
    | false =>
    have HL:=am hHL
    clear hHL
    have st16:=tt
    go_wp2_with (first
      | (
       go_at_call 41
       clear st16
       go_must (
        (with_reducible refine Calls.mono (take_no sLpar HP.out HL.out) ?_)
        rintro en w12 ⟨he12,hk12,hp12⟩
        subst he12
        replace HK:=am (Kept.then_ HK.out hk12)
        replace HB0:=am (Kept.has hk12 HB0.out (by omega))
        replace HR:=am (Kept.has hk12 HR.out (by omega))
        replace HX:=am (Kept.has hk12 HX.out (by omega))
        replace HP:=am hp12
        have hs12:=Kept.size hk12
        try simp at hs12
        clear cw_HB0_0
        have cw_HB0_0:=hci HB0.out 0 rfl
        have st17:=tt))
      | (
       (with_reducible refine gate_dst (N:=55) rfl ?_)
       clear st17
       go_must (
        refine Kd.event_run rfl (load27 w12 (w1.heap.size) #[.int .i64 26,.int .i64 a0,.int .i64 0,.string ((s ++ sColons) ++ s2),.slice none 0 0,.slice none 0 0,.int .i64 0,.string ⟨#[]⟩,.int .i64 0,.slice none 0 0] HX.out rfl _ _ _ rfl rfl) ?_
        have st18:=tt))
      | (
       (with_reducible refine gate_store (t:=27) (p:=2) rfl ?_)
       clear st18
       go_must (
        refine store_event (t:=27) (p:=2) (v:=.tmp 55) (w1:=World.setRow w12 (w.heap.size + 1) #[.int .i64 26,.int .i64 a0,.int .i64 0,.string ((s ++ sColons) ++ s2),.slice none 0 0,.slice none 0 0,.int .i64 0,.string ⟨#[]⟩,.int .i64 0,.slice none 0 0]) ?hg ?ho ?hn ?hr ?_
        (case ho=>rfl)
        (case hg=>rfl)
        (case hn=>rfl)
        (case hr=>exact store27 w12 (w.heap.size + 1) _ _ HR.out rfl rfl (by first | kernel_rfl | (simp [Value.oneCell'])) _ _ _ _ rfl rfl rfl)
        intro w713 hw713
        subst hw713
        have st19:=tt)))
    clear st19
    replace HK:=am (kept_rowX HK.out (g:=w.heap.size + 1) (.inr (by show w.heap.size <= w.heap.size + 1;omega)) #[.int .i64 26,.int .i64 a0,.int .i64 0,.string ((s ++ sColons) ++ s2),.slice none 0 0,.slice none 0 0,.int .i64 0,.string ⟨#[]⟩,.int .i64 0,.slice none 0 0])
    replace HP:=am (PS.rowP HP.out HR.out #[.int .i64 26,.int .i64 a0,.int .i64 0,.string ((s ++ sColons) ++ s2),.slice none 0 0,.slice none 0 0,.int .i64 0,.string ⟨#[]⟩,.int .i64 0,.slice none 0 0])
    replace HB0:=am (has_row_other HB0.out (g:=w.heap.size + 1) (cs':=#[.int .i64 26,.int .i64 a0,.int .i64 0,.string ((s ++ sColons) ++ s2),.slice none 0 0,.slice none 0 0,.int .i64 0,.string ⟨#[]⟩,.int .i64 0,.slice none 0 0]) (by omega))
    replace HX:=am (has_row_other HX.out (g:=w.heap.size + 1) (cs':=#[.int .i64 26,.int .i64 a0,.int .i64 0,.string ((s ++ sColons) ++ s2),.slice none 0 0,.slice none 0 0,.int .i64 0,.string ⟨#[]⟩,.int .i64 0,.slice none 0 0]) (by omega))
    replace HR:=am (has_row HR.out #[.int .i64 26,.int .i64 a0,.int .i64 0,.string ((s ++ sColons) ++ s2),.slice none 0 0,.slice none 0 0,.int .i64 0,.string ⟨#[]⟩,.int .i64 0,.slice none 0 0])
    clear cw_HB0_0
    have cw_HB0_0:=hci HB0.out 0 rfl
    have HE:Aside0 (R = .ok (mkE 26 a0 0 ((s ++ sColons) ++ s2) [] []) l3):=⟨by rw [HEQ.out];simp [needP,PR.andThen,HT1.out,HT2.out,HT3.out,HK2.out,HA.out,HUN.out,HUN2.out,HC.out,HN.out,hsz2,HL.out]⟩
    refine bodyPost_ret (results_cell_row rfl _ _ (w.heap.size + 1) 27 #[.int .i64 26,.int .i64 a0,.int .i64 0,.string ((s ++ sColons) ++ s2),.slice none 0 0,.slice none 0 0,.int .i64 0,.string ⟨#[]⟩,.int .i64 0,.slice none 0 0] (0,0) _ rfl HR.out Tryd.underlying27 rfl (by rfl)) rfl ?_
    rw [HE.out]
    exact ⟨HK.out,_,rfl,(VO.leaf _ _ _ 26 a0 0 ((s ++ sColons) ++ s2)),HP.out⟩
   | false =>
   have HC:=am hHC
   clear hHC
   have st11:=tt
   go_wp2_with (first
     | (
      go_at_call 40
      clear st11
      go_must (
       (with_reducible refine Calls.mono (name_said g l e _ HP.out) ?_)
       rintro en w6 ⟨hk6,he6⟩
       rw [HA.out] at he6
       obtain ⟨v6,rfl,hv6,hp6⟩:=he6
       obtain rfl:=hv6
       replace HK:=am (Kept.then_ HK.out hk6)
       replace HB0:=am (Kept.has hk6 HB0.out (by omega))
       replace HR:=am (Kept.has hk6 HR.out (by omega))
       replace HX:=am (Kept.has hk6 HX.out (by omega))
       replace HP:=am hp6
       have hs6:=Kept.size hk6
       try simp at hs6
       clear cw_HB0_0
       have cw_HB0_0:=hci HB0.out 0 rfl
       have st12:=tt))
     | (
      go_at_call 42
      clear st12
      go_must (
       (with_reducible refine Calls.mono (need_no sColons HP.out HC.out) ?_)
       rintro en w7 ⟨he7,hk7⟩
       subst he7
       replace HK:=am (Kept.then_ HK.out hk7)
       replace HB0:=am (Kept.has hk7 HB0.out (by omega))
       replace HR:=am (Kept.has hk7 HR.out (by omega))
       replace HX:=am (Kept.has hk7 HX.out (by omega))
       have hs7:=Kept.size hk7
       try simp at hs7
       clear cw_HB0_0
       have cw_HB0_0:=hci HB0.out 0 rfl
       have st13:=tt)))
   clear st13
   have HE:Aside0 (R = .bad (atP e l1) 30):=⟨by rw [HEQ.out];simp [needP,PR.andThen,HT1.out,HT2.out,HT3.out,HK2.out,HA.out,HUN.out,HUN2.out,HC.out]⟩
   rw [HE.out]
   exact ⟨rfl,HK.out,rfl⟩
end Go.Proofs.YtngpgdmafmkddaaDoor.Par
end
section
namespace Go.Proofs.YtngpgdmafmkddaaDoor.Par
open Go.Proofs.YtngpgdmafmkddaaDoor.Calm Go.RowKit Go.Proofs.YtngpgdmafmkddaaDoorW.PrintWords Go.Proofs.YtngpgdmafmkddaaDoorW.PrintLast Go.Proofs.YtngpgdmafmkddaaDoorW.PrintMore
open Go.Proofs.YtngpgdmafmkddaaDoor.PParseBlanks (S35 S25 S27 k35 k25 k27 rd_T35 rd_T25 rd_T27 at_T35 at_T25 at_T27)
set_option linter.unusedVariables false
set_option linter.unusedSimpArgs false
set_option maxRecDepth 100000 in
set_option maxHeartbeats 8000000 in
theorem closed_ok {n:Nat} (HT:∀ m,m < n + 1 -> TreeOK m) (HB:BlockOK n) (HC:ClosedOK n):ClosedOK (n + 1):=by
 intro g e d l w h0 h1 HP hne
 have HTT:=am (show TreeOK n from HT n (Nat.lt_succ_self n))
 have HTA:=am HT
 unfold TreeOK at HTT
 unfold BlockOK at HB
 unfold ClosedOK at HC
 have HBB:=am HB
 have HCC:=am HC
 have hu27:=Tryd.underlying27
 have kw:IntKind.i64.wrap (d + 1) = d + 1:=IntWalk.i64_in _ (by omega)
 obtain ⟨R,hR⟩:∃ R,closedP e (n + 1) d l = R:=⟨_,rfl⟩
 have hE:=hR
 simp only [closedP] at hE
 rw [hR] at hne ⊢
 obtain ⟨a0,ha0⟩:∃ a,atP e l = a:=⟨_,rfl⟩
 rw [ha0] at hE
 have HAT:=am ha0
 have HEQ:=am hE.symm
 have HNE:=am hne
 have hgw:=HP.glt
 have HK:Aside0 (KeptG g w w):=⟨Kept.refl _ w⟩
 have HP:=am HP
 clear hR hne hE HT HB HC
 have ba1:=below_alloc (Below.refl (w).heap.size (w)) (Obj.cells #[.pointer (some ⟨g,0,none⟩)] 52)
 replace HK:=am (Kept.below HK.out ba1)
 replace HP:=am (HP.out.below ba1)
 clear ba1
 have HB0:=am (Has.new (w) #[.pointer (some ⟨g,0,none⟩)] 52)
 have ba2:=below_alloc (Below.refl ((w.alloc (Obj.cells #[.pointer (some ⟨g,0,none⟩)] 52))).heap.size ((w.alloc (Obj.cells #[.pointer (some ⟨g,0,none⟩)] 52)))) (Obj.cells #[.int .i64 d] 3)
 replace HK:=am (Kept.below HK.out ba2)
 replace HP:=am (HP.out.below ba2)
 replace HB0:=am (HB0.out.belowS ba2)
 clear ba2
 have HB1:Aside0 (Has (((w.alloc (Obj.cells #[.pointer (some ⟨g,0,none⟩)] 52))).alloc (Obj.cells #[.int .i64 d] 3)) (w.heap.size + 1) #[.int .i64 d] 3):=⟨by have h:=Has.new ((w.alloc (Obj.cells #[.pointer (some ⟨g,0,none⟩)] 52))) #[.int .i64 d] 3;first | exact h | (simpa using h)⟩
 have ba3:=below_alloc (Below.refl ((((w.alloc (Obj.cells #[.pointer (some ⟨g,0,none⟩)] 52))).alloc (Obj.cells #[.int .i64 d] 3))).heap.size ((((w.alloc (Obj.cells #[.pointer (some ⟨g,0,none⟩)] 52))).alloc (Obj.cells #[.int .i64 d] 3)))) (Obj.cells #[.int .i64 0,.int .i64 0,.int .i64 0,.string ⟨#[]⟩,.slice none 0 0,.slice none 0 0,.int .i64 0,.string ⟨#[]⟩,.int .i64 0,.slice none 0 0] 27)
 replace HK:=am (Kept.below HK.out ba3)
 replace HP:=am (HP.out.below ba3)
 replace HB0:=am (HB0.out.belowS ba3)
 replace HB1:=am (HB1.out.belowS ba3)
 clear ba3
 have HR:Aside0 (Has (((((w.alloc (Obj.cells #[.pointer (some ⟨g,0,none⟩)] 52))).alloc (Obj.cells #[.int .i64 d] 3))).alloc (Obj.cells #[.int .i64 0,.int .i64 0,.int .i64 0,.string ⟨#[]⟩,.slice none 0 0,.slice none 0 0,.int .i64 0,.string ⟨#[]⟩,.int .i64 0,.slice none 0 0] 27)) (w.heap.size + 2) #[.int .i64 0,.int .i64 0,.int .i64 0,.string ⟨#[]⟩,.slice none 0 0,.slice none 0 0,.int .i64 0,.string ⟨#[]⟩,.int .i64 0,.slice none 0 0] 27):=⟨by have h:=Has.new ((((w.alloc (Obj.cells #[.pointer (some ⟨g,0,none⟩)] 52))).alloc (Obj.cells #[.int .i64 d] 3))) #[.int .i64 0,.int .i64 0,.int .i64 0,.string ⟨#[]⟩,.slice none 0 0,.slice none 0 0,.int .i64 0,.string ⟨#[]⟩,.int .i64 0,.slice none 0 0] 27;first | exact h | (simpa using h)⟩
 have hrz:w.heap.size + 2 < _:=HR.out.lt
 simp at hrz
 have cw_HB0_0:=hci HB0.out 0 rfl
 have cw_HB1_0:=hci HB1.out 0 rfl
 go_enter Tryd.func76,Tryd.ntmps76
 cases hHI:isP sLbrace l with
 | true =>
  have HI:=am hHI
  clear hHI
  have st1:=tt
  go_wp2_with ((
        go_at_call 60
        clear st1
        go_must (
         (with_reducible refine Calls.mono (is_ps sLbrace HP.out) ?_)
         rintro en w1 ⟨he1,hb1⟩
         rw [HI.out] at he1
         subst he1
         replace HK:=am (Kept.below HK.out hb1)
         replace HP:=am (HP.out.below hb1)
         replace HB0:=am (HB0.out.belowS hb1)
         replace HB1:=am (HB1.out.belowS hb1)
         replace HR:=am (HR.out.belowS hb1)
         have hs1:=Below.size hb1
         try simp at hs1
         clear cw_HB0_0 cw_HB1_0
         have cw_HB0_0:=hci HB0.out 0 rfl
         have cw_HB1_0:=hci HB1.out 0 rfl
         have st2:=tt)))
  clear st2
  cases hHA:blockP e n d l with
  | out=>exact absurd (by rw [HEQ.out];simp [needP,PR.andThen,HI.out,hHA]) HNE.out
  | bad bb er =>
   have HA:=am hHA
   have HAN:=am (show blockP e n d l ≠ .out by rw [hHA];exact PR.bad_ne _ _)
   clear hHA
   have st3:=tt
   go_wp2_with ((
         go_at_call 47
         clear st3
         go_must (
          (with_reducible refine Calls.mono (HBB.out g e d l _ h0 h1 HP.out HAN.out) ?_)
          rintro en w2 ⟨hk2,he2⟩
          rw [HA.out] at he2
          subst he2
          replace HK:=am (Kept.then_ HK.out hk2)
          replace HB0:=am (Kept.has hk2 HB0.out (by omega))
          replace HB1:=am (Kept.has hk2 HB1.out (by omega))
          replace HR:=am (Kept.has hk2 HR.out (by omega))
          have hs2:=Kept.size hk2
          try simp at hs2
          clear cw_HB0_0 cw_HB1_0
          have cw_HB0_0:=hci HB0.out 0 rfl
          have cw_HB1_0:=hci HB1.out 0 rfl
          have st4:=tt)))
   clear st4
   have HE:Aside0 (R = .bad bb er):=⟨by rw [HEQ.out];simp [needP,PR.andThen,HI.out,HA.out]⟩
   rw [HE.out]
   exact ⟨rfl,HK.out,rfl⟩
  | ok x l1 =>
  have HA:=am hHA
  have HAN:=am (show blockP e n d l ≠ .out by rw [hHA];exact PR.ok_ne _ _)
  clear hHA
  have st3:=tt
  go_wp2_with (first
    | (
     go_at_call 47
     clear st3
     go_must (
      (with_reducible refine Calls.mono (HBB.out g e d l _ h0 h1 HP.out HAN.out) ?_)
      rintro en w2 ⟨hk2,he2⟩
      rw [HA.out] at he2
      obtain ⟨v2,rfl,hv2,hp2⟩:=he2
      obtain ⟨x4,xc4,x5,xc5,x9,xc9,rfl⟩:=(hv2).form
      have Vx:=am (VO.lower hv2 (show w.heap.size + 2 + 1 <= _ by (have:=HR.out.lt;omega)))
      clear hv2
      replace HK:=am (Kept.then_ HK.out hk2)
      replace HB0:=am (Kept.has hk2 HB0.out (by omega))
      replace HB1:=am (Kept.has hk2 HB1.out (by omega))
      replace HR:=am (Kept.has hk2 HR.out (by omega))
      replace HP:=am hp2
      have hs2:=Kept.size hk2
      try simp at hs2
      clear cw_HB0_0 cw_HB1_0
      have cw_HB0_0:=hci HB0.out 0 rfl
      have cw_HB1_0:=hci HB1.out 0 rfl
      have st4:=tt))
    | (
     (with_reducible refine gate_store (t:=27) (p:=4) rfl ?_)
     clear st4
     go_must (
      refine store_event (t:=27) (p:=4) (v:=.tmp 11) (w1:=World.setRow w2 (w.heap.size + 2) #[.int .i64 x.f0,.int .i64 x.f1,.int .i64 x.f2,.string x.f3,.slice x4 x.f4.length xc4,.slice x5 x.f5.length xc5,.int .i64 x.f6.f0,.string x.f6.f1,.int .i64 x.f6.f2,.slice x9 x.f6.f3.length xc9]) ?hg ?ho ?hn ?hr ?_
      (case ho=>rfl)
      (case hg=>rfl)
      (case hn=>rfl)
      (case hr=>exact store27 w2 (w.heap.size + 2) _ _ HR.out rfl rfl (by first | kernel_rfl | (simp [Value.oneCell'])) _ _ _ _ rfl rfl rfl)
      intro w73 hw73
      subst hw73
      have st5:=tt)))
  clear st5
  replace HK:=am (kept_rowX HK.out (g:=w.heap.size + 2) (.inr (by show w.heap.size <= w.heap.size + 2;omega)) #[.int .i64 x.f0,.int .i64 x.f1,.int .i64 x.f2,.string x.f3,.slice x4 x.f4.length xc4,.slice x5 x.f5.length xc5,.int .i64 x.f6.f0,.string x.f6.f1,.int .i64 x.f6.f2,.slice x9 x.f6.f3.length xc9])
  replace HP:=am (PS.rowP HP.out HR.out #[.int .i64 x.f0,.int .i64 x.f1,.int .i64 x.f2,.string x.f3,.slice x4 x.f4.length xc4,.slice x5 x.f5.length xc5,.int .i64 x.f6.f0,.string x.f6.f1,.int .i64 x.f6.f2,.slice x9 x.f6.f3.length xc9])
  replace HB0:=am (has_row_other HB0.out (g:=w.heap.size + 2) (cs':=#[.int .i64 x.f0,.int .i64 x.f1,.int .i64 x.f2,.string x.f3,.slice x4 x.f4.length xc4,.slice x5 x.f5.length xc5,.int .i64 x.f6.f0,.string x.f6.f1,.int .i64 x.f6.f2,.slice x9 x.f6.f3.length xc9]) (by omega))
  replace HB1:=am (has_row_other HB1.out (g:=w.heap.size + 2) (cs':=#[.int .i64 x.f0,.int .i64 x.f1,.int .i64 x.f2,.string x.f3,.slice x4 x.f4.length xc4,.slice x5 x.f5.length xc5,.int .i64 x.f6.f0,.string x.f6.f1,.int .i64 x.f6.f2,.slice x9 x.f6.f3.length xc9]) (by omega))
  replace Vx:=am (VO.rowO Vx.out (g:=w.heap.size + 2) (fun kk h1 h2=>by omega) #[.int .i64 x.f0,.int .i64 x.f1,.int .i64 x.f2,.string x.f3,.slice x4 x.f4.length xc4,.slice x5 x.f5.length xc5,.int .i64 x.f6.f0,.string x.f6.f1,.int .i64 x.f6.f2,.slice x9 x.f6.f3.length xc9])
  replace HR:=am (has_row HR.out #[.int .i64 x.f0,.int .i64 x.f1,.int .i64 x.f2,.string x.f3,.slice x4 x.f4.length xc4,.slice x5 x.f5.length xc5,.int .i64 x.f6.f0,.string x.f6.f1,.int .i64 x.f6.f2,.slice x9 x.f6.f3.length xc9])
  clear cw_HB0_0 cw_HB1_0
  have cw_HB0_0:=hci HB0.out 0 rfl
  have cw_HB1_0:=hci HB1.out 0 rfl
  have HE:Aside0 (R = .ok x l1):=⟨by rw [HEQ.out];simp [needP,PR.andThen,HI.out,HA.out]⟩
  refine bodyPost_ret (results_cell_row rfl _ _ (w.heap.size + 2) 27 #[.int .i64 x.f0,.int .i64 x.f1,.int .i64 x.f2,.string x.f3,.slice x4 x.f4.length xc4,.slice x5 x.f5.length xc5,.int .i64 x.f6.f0,.string x.f6.f1,.int .i64 x.f6.f2,.slice x9 x.f6.f3.length xc9] (0,0) _ rfl HR.out Tryd.underlying27 rfl (by rfl)) rfl ?_
  rw [HE.out]
  exact ⟨HK.out,_,rfl,(Vx.out.lower (by omega)),HP.out⟩
 | false =>
 have HI:=am hHI
 clear hHI
 have st1:=tt
 go_wp2_with ((
       go_at_call 60
       clear st1
       go_must (
        (with_reducible refine Calls.mono (is_ps sLbrace HP.out) ?_)
        rintro en w1 ⟨he1,hb1⟩
        rw [HI.out] at he1
        subst he1
        replace HK:=am (Kept.below HK.out hb1)
        replace HP:=am (HP.out.below hb1)
        replace HB0:=am (HB0.out.belowS hb1)
        replace HB1:=am (HB1.out.belowS hb1)
        replace HR:=am (HR.out.belowS hb1)
        have hs1:=Below.size hb1
        try simp at hs1
        clear cw_HB0_0 cw_HB1_0
        have cw_HB0_0:=hci HB0.out 0 rfl
        have cw_HB1_0:=hci HB1.out 0 rfl
        have st2:=tt)))
 clear st2
 by_cases hd:d >= 60
 ·have hd2:Aside0 (60 <= d):=⟨hd⟩
  have st3:=tt
  go_wp2_with ((
        go_at_call 62
        clear st3
        go_must (
         (with_reducible refine Calls.mono (deep_bad g l e d _ HP.out hd) ?_)
         rintro en w2 ⟨he2,hk2⟩
         subst he2
         replace HK:=am (Kept.then_ HK.out hk2)
         replace HB0:=am (Kept.has hk2 HB0.out (by omega))
         replace HB1:=am (Kept.has hk2 HB1.out (by omega))
         replace HR:=am (Kept.has hk2 HR.out (by omega))
         have hs2:=Kept.size hk2
         try simp at hs2
         clear cw_HB0_0 cw_HB1_0
         have cw_HB0_0:=hci HB0.out 0 rfl
         have cw_HB1_0:=hci HB1.out 0 rfl
         have st4:=tt)))
  clear st4
  have HE:Aside0 (R = .bad a0 31):=⟨by rw [HEQ.out];simp [needP,PR.andThen,HI.out,hd2.out]⟩
  rw [HE.out]
  rw [<- HAT.out];exact ⟨rfl,HK.out,rfl⟩
 ·replace HEQ:=am (HEQ.out.trans ((if_neg (by rw [HI.out];decide)).trans (if_neg hd)))
  replace hd:d < 60:=by omega
  have st3:=tt
  go_wp2_with (first
    | (
     go_at_call 62
     clear st3
     go_must (
      (with_reducible refine Calls.mono (deep_ok g l e d _ HP.out hd) ?_)
      rintro en w2 ⟨he2,hk2,hp2⟩
      subst he2
      replace HK:=am (Kept.then_ HK.out hk2)
      replace HB0:=am (Kept.has hk2 HB0.out (by omega))
      replace HB1:=am (Kept.has hk2 HB1.out (by omega))
      replace HR:=am (Kept.has hk2 HR.out (by omega))
      replace HP:=am hp2
      have hs2:=Kept.size hk2
      try simp at hs2
      clear cw_HB0_0 cw_HB1_0
      have cw_HB0_0:=hci HB0.out 0 rfl
      have cw_HB1_0:=hci HB1.out 0 rfl
      have st4:=tt))
    | (
     go_at_call 29
     clear st4
     go_must (
      (with_reducible refine Calls.mono (at_ps HP.out) ?_)
      rintro en w3 ⟨he3,hb3⟩
      rw [HAT.out] at he3
      subst he3
      replace HK:=am (Kept.below HK.out hb3)
      replace HP:=am (HP.out.below hb3)
      replace HB0:=am (HB0.out.belowS hb3)
      replace HB1:=am (HB1.out.belowS hb3)
      replace HR:=am (HR.out.belowS hb3)
      have hs3:=Below.size hb3
      try simp at hs3
      clear cw_HB0_0 cw_HB1_0
      have cw_HB0_0:=hci HB0.out 0 rfl
      have cw_HB1_0:=hci HB1.out 0 rfl
      have ba4:=below_alloc (Below.refl (w3).heap.size (w3)) (Obj.cells #[.int .i64 20,.int .i64 a0,.int .i64 0,.string ⟨#[]⟩,.slice none 0 0,.slice none 0 0,.int .i64 0,.string ⟨#[]⟩,.int .i64 0,.slice none 0 0] 27)
      replace HK:=am (Kept.below HK.out ba4)
      replace HP:=am (HP.out.below ba4)
      replace HB0:=am (HB0.out.belowS ba4)
      replace HB1:=am (HB1.out.belowS ba4)
      replace HR:=am (HR.out.belowS ba4)
      clear ba4
      have HX:=am (Has.new (w3) #[.int .i64 20,.int .i64 a0,.int .i64 0,.string ⟨#[]⟩,.slice none 0 0,.slice none 0 0,.int .i64 0,.string ⟨#[]⟩,.int .i64 0,.slice none 0 0] 27)
      clear cw_HB0_0 cw_HB1_0
      have cw_HB0_0:=hci HB0.out 0 rfl
      have cw_HB1_0:=hci HB1.out 0 rfl
      have st5:=tt)))
  clear st5
  have hbx:w.heap.size + 2 < w3.heap.size:=by have:=HX.out.lt;have:=HR.out.lt;omega
  have hxg:w3.heap.size ≠ g:=by omega
  cases hHF:isP sIf l with
  | true =>
   have HF:=am hHF
   clear hHF
   have st6:=tt
   go_wp2_with ((
         go_at_call 41
         clear st6
         go_must (
          (with_reducible refine Calls.mono (take_yes sIf HP.out HF.out) ?_)
          rintro en w4 ⟨he4,hk4,hp4⟩
          subst he4
          replace HK:=am (Kept.then_ HK.out hk4)
          replace HB0:=am (Kept.has hk4 HB0.out (by omega))
          replace HB1:=am (Kept.has hk4 HB1.out (by omega))
          replace HR:=am (Kept.has hk4 HR.out (by omega))
          replace HX:=am (Kept.has hk4 HX.out (by omega))
          replace HP:=am hp4
          have hs4:=Kept.size hk4
          try simp at hs4
          clear cw_HB0_0 cw_HB1_0
          have cw_HB0_0:=hci HB0.out 0 rfl
          have cw_HB1_0:=hci HB1.out 0 rfl
          have st7:=tt)))
   clear st7
   cases hHA:climbP e n (d + 1) false 1 l.tail with
   | out=>exact absurd (by rw [HEQ.out];simp [needP,PR.andThen,HI.out,HF.out,hHA]) HNE.out
   | bad bb er =>
    have HA:=am hHA
    have HAN:=am (show climbP e n (d + 1) false 1 l.tail ≠ .out by rw [hHA];exact PR.bad_ne _ _)
    clear hHA
    have st8:=tt
    go_wp2_with ((
          go_at_call 18
          clear st8
          go_must (
           (with_reducible refine Calls.mono (HTT.out g e (d + 1) false l.tail _ (by omega) (by omega) HP.out HAN.out) ?_)
           rintro en w5 ⟨hk5,he5⟩
           rw [HA.out] at he5
           subst he5
           replace HK:=am (Kept.then_ HK.out hk5)
           replace HB0:=am (Kept.has hk5 HB0.out (by omega))
           replace HB1:=am (Kept.has hk5 HB1.out (by omega))
           replace HR:=am (Kept.has hk5 HR.out (by omega))
           replace HX:=am (Kept.has hk5 HX.out (by omega))
           have hs5:=Kept.size hk5
           try simp at hs5
           clear cw_HB0_0 cw_HB1_0
           have cw_HB0_0:=hci HB0.out 0 rfl
           have cw_HB1_0:=hci HB1.out 0 rfl
           have st9:=tt)))
    clear st9
    have HE:Aside0 (R = .bad bb er):=⟨by rw [HEQ.out];simp [needP,PR.andThen,HI.out,HF.out,HA.out]⟩
    rw [HE.out]
    exact ⟨rfl,HK.out,rfl⟩
   | ok x l1 =>
   have HA:=am hHA
   have HAN:=am (show climbP e n (d + 1) false 1 l.tail ≠ .out by rw [hHA];exact PR.ok_ne _ _)
   clear hHA
   have st8:=tt
   go_wp2_with ((
         go_at_call 18
         clear st8
         go_must (
          (with_reducible refine Calls.mono (HTT.out g e (d + 1) false l.tail _ (by omega) (by omega) HP.out HAN.out) ?_)
          rintro en w5 ⟨hk5,he5⟩
          rw [HA.out] at he5
          obtain ⟨v5,rfl,hv5,hp5⟩:=he5
          obtain ⟨x4,xc4,x5,xc5,x9,xc9,rfl⟩:=(hv5).form
          have Vx:=am (VO.lower hv5 (show w3.heap.size + 1 <= _ by (have:=HX.out.lt;omega)))
          clear hv5
          replace HK:=am (Kept.then_ HK.out hk5)
          replace HB0:=am (Kept.has hk5 HB0.out (by omega))
          replace HB1:=am (Kept.has hk5 HB1.out (by omega))
          replace HR:=am (Kept.has hk5 HR.out (by omega))
          replace HX:=am (Kept.has hk5 HX.out (by omega))
          replace HP:=am hp5
          have hs5:=Kept.size hk5
          try simp at hs5
          clear cw_HB0_0 cw_HB1_0
          have cw_HB0_0:=hci HB0.out 0 rfl
          have cw_HB1_0:=hci HB1.out 0 rfl
          have ba5:=below_alloc (Below.refl (w5).heap.size (w5)) (Obj.cells #[.int .i64 x.f0,.int .i64 x.f1,.int .i64 x.f2,.string x.f3,.slice x4 x.f4.length xc4,.slice x5 x.f5.length xc5,.int .i64 x.f6.f0,.string x.f6.f1,.int .i64 x.f6.f2,.slice x9 x.f6.f3.length xc9] 27)
          replace HK:=am (Kept.below HK.out ba5)
          replace HP:=am (HP.out.below ba5)
          replace HB0:=am (HB0.out.belowS ba5)
          replace HB1:=am (HB1.out.belowS ba5)
          replace HR:=am (HR.out.belowS ba5)
          replace HX:=am (HX.out.belowS ba5)
          replace Vx:=am (Vx.out.below ba5)
          clear ba5
          have HXC:=am (Has.new (w5) #[.int .i64 x.f0,.int .i64 x.f1,.int .i64 x.f2,.string x.f3,.slice x4 x.f4.length xc4,.slice x5 x.f5.length xc5,.int .i64 x.f6.f0,.string x.f6.f1,.int .i64 x.f6.f2,.slice x9 x.f6.f3.length xc9] 27)
          clear cw_HB0_0 cw_HB1_0
          have cw_HB0_0:=hci HB0.out 0 rfl
          have cw_HB1_0:=hci HB1.out 0 rfl
          have st9:=tt)))
   clear st9
   have hD:=below_drew (Below.refl ((w5.alloc (Obj.cells #[.int .i64 x.f0,.int .i64 x.f1,.int .i64 x.f2,.string x.f3,.slice x4 x.f4.length xc4,.slice x5 x.f5.length xc5,.int .i64 x.f6.f0,.string x.f6.f1,.int .i64 x.f6.f2,.slice x9 x.f6.f3.length xc9] 27))).heap.size ((w5.alloc (Obj.cells #[.int .i64 x.f0,.int .i64 x.f1,.int .i64 x.f2,.string x.f3,.slice x4 x.f4.length xc4,.slice x5 x.f5.length xc5,.int .i64 x.f6.f0,.string x.f6.f1,.int .i64 x.f6.f2,.slice x9 x.f6.f3.length xc9] 27))))
   replace HK:=am (Kept.below HK.out hD)
   replace HP:=am (HP.out.below hD)
   replace HB0:=am (HB0.out.belowS hD)
   replace HB1:=am (HB1.out.belowS hD)
   replace HR:=am (HR.out.belowS hD)
   replace HX:=am (HX.out.belowS hD)
   replace Vx:=am (Vx.out.below hD)
   replace HXC:=am (HXC.out.belowS hD)
   clear hD
   obtain ⟨W1,hW1⟩:∃ W,((w5.alloc (Obj.cells #[.int .i64 x.f0,.int .i64 x.f1,.int .i64 x.f2,.string x.f3,.slice x4 x.f4.length xc4,.slice x5 x.f5.length xc5,.int .i64 x.f6.f0,.string x.f6.f1,.int .i64 x.f6.f2,.slice x9 x.f6.f3.length xc9] 27))).drew = W:=⟨_,rfl⟩
   rw [hW1] at HK HP HB0 HB1 HR HX Vx HXC
   have hzW1:((w5.alloc (Obj.cells #[.int .i64 x.f0,.int .i64 x.f1,.int .i64 x.f2,.string x.f3,.slice x4 x.f4.length xc4,.slice x5 x.f5.length xc5,.int .i64 x.f6.f0,.string x.f6.f1,.int .i64 x.f6.f2,.slice x9 x.f6.f3.length xc9] 27))).heap.size <= W1.heap.size:=by rw [<- hW1];exact Nat.le_refl _
   try simp at hzW1
   clear cw_HB0_0 cw_HB1_0
   have cw_HB0_0:=hci HB0.out 0 rfl
   have cw_HB1_0:=hci HB1.out 0 rfl
   refine region_treeR 6 (by kernel_rfl) (by kernel_rfl) (fun w' => Has w' (w5.heap.size) #[.int .i64 x.f0,.int .i64 x.f1,.int .i64 x.f2,.string x.f3,.slice x4 x.f4.length xc4,.slice x5 x.f5.length xc5,.int .i64 x.f6.f0,.string x.f6.f1,.int .i64 x.f6.f2,.slice x9 x.f6.f3.length xc9] 27 /\ Has w' (w.heap.size) #[.pointer (some ⟨g,0,none⟩)] 52 /\ Has w' (w.heap.size + 1) #[.int .i64 d] 3) (hW1 ▸ ⟨HXC.out,HB0.out,HB1.out⟩) fun hS => ?_
   rw [hW1] at hS ⊢
   clear hW1
   simp only [List.take_succ_cons,List.take_zero]
   generalize hQQ:tailK _ _ = QQ
   have hsure:Sure QQ:=by
    rw [<- hQQ]
    intro c a a' w1 hd h
    simp +zetaDelta only [tailK,Exit.then,Exit.inBlock,bodyPost] at h ⊢
    simpa [hd] using h
   refine tqh hsure hS 0 ?_
   apply Exists.intro
   apply And.intro
   ·rintro w' ⟨k1,k2,k3⟩
    apply VR.mk
    exact load27 w' (w5.heap.size) #[.int .i64 x.f0,.int .i64 x.f1,.int .i64 x.f2,.string x.f3,.slice x4 x.f4.length xc4,.slice x5 x.f5.length xc5,.int .i64 x.f6.f0,.string x.f6.f1,.int .i64 x.f6.f2,.slice x9 x.f6.f3.length xc9] k1 rfl _ _ _ rfl rfl
   try simp only [sA,sB,sC]
   refine tqh hsure hS 1 ?_
   apply Exists.intro
   apply And.intro
   ·rintro w' ⟨k1,k2,k3⟩
    have cc1:=hci k2 0 rfl
    apply VR.mk
    go_simp
    with_reducible rfl
   try simp only [sA,sB,sC]
   refine tqh hsure hS 2 ?_
   apply Exists.intro
   apply And.intro
   ·rintro w' ⟨k1,k2,k3⟩
    have cc2:=hci k3 0 rfl
    apply VR.mk
    go_simp
    with_reducible rfl
   try simp only [sA,sB,sC]
   refine tqh hsure hS 3 ?_
   apply Exists.intro
   apply And.intro
   ·rintro w' ⟨k1,k2,k3⟩
    apply VR.mk
    go_simp
    with_reducible rfl
   try simp only [sA,sB,sC]
   have hne2:blockP e n (d + 1) l1 ≠ .out:=fun h=>HNE.out (by rw [HEQ.out];simp [needP,PR.andThen,HI.out,HF.out,HA.out,h])
   refine tree_1Q (i:=4) (by kernel_rfl) ?_
   refine step_callQ (by rfl) (by rfl) (by rfl) (ER.go (by go_simp;with_reducible exact ⟨rfl,rfl⟩)) ?_
   refine (HBB.out g e (d + 1) l1 W1 (by omega) (by omega) HP.out hne2).mono ?_
   intro en w6 hq
   rcases hq.ways with ⟨v,y,l2,hr,rfl,hk,hv,hp⟩ | ⟨bb,er,hr,rfl,hk⟩
   ·have HY:=am hr
    obtain ⟨y4,yc4,y5,yc5,y9,yc9,rfl⟩:=hv.form
    have Vy:=am (VO.lower hv (show w3.heap.size + 1 <= _ by (have:=HX.out.lt;omega)))
    replace HK:=am (Kept.then_ HK.out hk)
    replace HB0:=am (Kept.has hk HB0.out (by omega))
    replace HB1:=am (Kept.has hk HB1.out (by omega))
    replace HR:=am (Kept.has hk HR.out (by omega))
    replace HX:=am (Kept.has hk HX.out (by omega))
    replace Vx:=am (VO.kps Vx.out HP.out hk)
    replace HXC:=am (Kept.has hk HXC.out (by omega))
    replace HP:=am hp
    have hs6:=Kept.size hk
    try simp at hs6
    clear hv hr hk
    refine .inl ⟨_,rfl,⟨HXC.out,HB0.out,HB1.out⟩, ?_⟩
    simp only [sA,sB,sC]
    refine tree_1Q (i:=5) (by kernel_rfl) ?_
    refine step_list (by rfl) ?_
    go_wp2
    obtain ⟨Mx,Lx⟩:=VO.lit (cs:=[.int .i64 x.f0,.int .i64 x.f1,.int .i64 x.f2,.string x.f3,.slice x4 x.f4.length xc4,.slice x5 x.f5.length xc5,.int .i64 x.f6.f0,.string x.f6.f1,.int .i64 x.f6.f2,.slice x9 x.f6.f3.length xc9]) Vx.out
    obtain ⟨My,Ly⟩:=VO.lit (cs:=[.int .i64 y.f0,.int .i64 y.f1,.int .i64 y.f2,.string y.f3,.slice y4 y.f4.length yc4,.slice y5 y.f5.length yc5,.int .i64 y.f6.f0,.string y.f6.f1,.int .i64 y.f6.f2,.slice y9 y.f6.f3.length yc9]) Vy.out
    have HKD:Aside0 (k27.R 27 ((w6).alloc (Obj.cells #[.int .i64 x.f0,.int .i64 x.f1,.int .i64 x.f2,.string x.f3,.slice x4 x.f4.length xc4,.slice x5 x.f5.length xc5,.int .i64 x.f6.f0,.string x.f6.f1,.int .i64 x.f6.f2,.slice x9 x.f6.f3.length xc9,.int .i64 y.f0,.int .i64 y.f1,.int .i64 y.f2,.string y.f3,.slice y4 y.f4.length yc4,.slice y5 y.f5.length yc5,.int .i64 y.f6.f0,.string y.f6.f1,.int .i64 y.f6.f2,.slice y9 y.f6.f3.length yc9] 27)) (w3.heap.size + 1) Any (.slice (some ⟨(w6).heap.size,0,none⟩) 2 2) [x,y]):=⟨by have h:=kids_lit (w6) (w3.heap.size + 1) (by (have:=HX.out.lt;omega)) trivial (xs:=[x,y]) (reps_two Mx Lx My Ly) (by simp);exact h⟩
    clear Mx Lx My Ly
    have ba6:=below_alloc (Below.refl (w6).heap.size (w6)) (Obj.cells #[.int .i64 x.f0,.int .i64 x.f1,.int .i64 x.f2,.string x.f3,.slice x4 x.f4.length xc4,.slice x5 x.f5.length xc5,.int .i64 x.f6.f0,.string x.f6.f1,.int .i64 x.f6.f2,.slice x9 x.f6.f3.length xc9,.int .i64 y.f0,.int .i64 y.f1,.int .i64 y.f2,.string y.f3,.slice y4 y.f4.length yc4,.slice y5 y.f5.length yc5,.int .i64 y.f6.f0,.string y.f6.f1,.int .i64 y.f6.f2,.slice y9 y.f6.f3.length yc9] 27)
    replace HK:=am (Kept.below HK.out ba6)
    replace HP:=am (HP.out.below ba6)
    replace HB0:=am (HB0.out.belowS ba6)
    replace HB1:=am (HB1.out.belowS ba6)
    replace HR:=am (HR.out.belowS ba6)
    replace HX:=am (HX.out.belowS ba6)
    replace Vx:=am (Vx.out.below ba6)
    replace HXC:=am (HXC.out.belowS ba6)
    replace Vy:=am (Vy.out.below ba6)
    clear ba6
    refine ⟨⟨HXC.out,HB0.out,HB1.out⟩, ?_⟩
    rw [<- hQQ]
    refine tree_doneR (by kernel_rfl) ?_
    refine restQ_tree (fun _=>True) ?_
    clear hsure hS hQQ
    refine tqh (by intro c a a' w1 hd h;simp +zetaDelta only [Exit.then,Exit.inBlock,bodyPost] at h ⊢; simpa [hd] using h) trivial 6 ?_
    apply Exists.intro
    apply And.intro
    ·rintro w' -
     apply VR.mk
     go_simp
     with_reducible rfl
    simp only [sA,sB,sC]
    have c7:=hci HX.out 4 rfl
    have f7:=Has.frozen HX.out 4
    clear cw_HB0_0 cw_HB1_0
    have cw_HB0_0:=hci HB0.out 0 rfl
    have cw_HB1_0:=hci HB1.out 0 rfl
    refine tree_1Q (i:=7) (by kernel_rfl) ?_
    refine step_list (by rfl) ?_
    go_wp2
    refine ⟨trivial,tree_endQ (by kernel_rfl) ?_⟩
    clear c7 f7
    replace HK:=am (Kept.setCellX HK.out (a:=⟨w3.heap.size,4,none⟩) (.inr (by show w.heap.size <= w3.heap.size;omega)) (.slice (some ⟨(w6).heap.size,0,none⟩) 2 2))
    replace HP:=am (PS.setT HP.out HX.out (by decide) (by decide) 4 (.slice (some ⟨(w6).heap.size,0,none⟩) 2 2))
    replace HB0:=am (Has.other HB0.out (a:=⟨w3.heap.size,4,none⟩) (by show w.heap.size ≠ w3.heap.size;omega) (.slice (some ⟨(w6).heap.size,0,none⟩) 2 2))
    replace HB1:=am (Has.other HB1.out (a:=⟨w3.heap.size,4,none⟩) (by show w.heap.size + 1 ≠ w3.heap.size;omega) (.slice (some ⟨(w6).heap.size,0,none⟩) 2 2))
    replace HR:=am (Has.other HR.out (a:=⟨w3.heap.size,4,none⟩) (by show w.heap.size + 2 ≠ w3.heap.size;omega) (.slice (some ⟨(w6).heap.size,0,none⟩) 2 2))
    replace Vx:=am (VO.setO Vx.out (a:=⟨w3.heap.size,4,none⟩) (fun kk h1 h2=>by show kk ≠ w3.heap.size;omega) (.slice (some ⟨(w6).heap.size,0,none⟩) 2 2))
    replace HXC:=am (Has.other HXC.out (a:=⟨w3.heap.size,4,none⟩) (by show w5.heap.size ≠ w3.heap.size;omega) (.slice (some ⟨(w6).heap.size,0,none⟩) 2 2))
    replace Vy:=am (VO.setO Vy.out (a:=⟨w3.heap.size,4,none⟩) (fun kk h1 h2=>by show kk ≠ w3.heap.size;omega) (.slice (some ⟨(w6).heap.size,0,none⟩) 2 2))
    replace HKD:=am (R_far HKD.out (fun kk h1 _=>Below.heap_setCell _ ⟨w3.heap.size,4,none⟩ (.slice (some ⟨(w6).heap.size,0,none⟩) 2 2) kk (by show kk ≠ w3.heap.size;omega)))
    replace HX:Aside0 (Has (((w6.alloc (Obj.cells #[.int .i64 x.f0,.int .i64 x.f1,.int .i64 x.f2,.string x.f3,.slice x4 x.f4.length xc4,.slice x5 x.f5.length xc5,.int .i64 x.f6.f0,.string x.f6.f1,.int .i64 x.f6.f2,.slice x9 x.f6.f3.length xc9,.int .i64 y.f0,.int .i64 y.f1,.int .i64 y.f2,.string y.f3,.slice y4 y.f4.length yc4,.slice y5 y.f5.length yc5,.int .i64 y.f6.f0,.string y.f6.f1,.int .i64 y.f6.f2,.slice y9 y.f6.f3.length yc9] 27))).setCell ⟨w3.heap.size,4,none⟩ (.slice (some ⟨(w6).heap.size,0,none⟩) 2 2)) (w3.heap.size) #[.int .i64 20,.int .i64 a0,.int .i64 0,.string ⟨#[]⟩,.slice (some ⟨(w6).heap.size,0,none⟩) 2 2,.slice none 0 0,.int .i64 0,.string ⟨#[]⟩,.int .i64 0,.slice none 0 0] 27):=⟨by have h:=Has.set_ HX.out 4 (.slice (some ⟨(w6).heap.size,0,none⟩) 2 2);exact h⟩
    clear cw_HB0_0 cw_HB1_0
    have cw_HB0_0:=hci HB0.out 0 rfl
    have cw_HB1_0:=hci HB1.out 0 rfl
    cases hHEL:isP sElse l2 with
    | true =>
     have HEL:=am hHEL
     clear hHEL
     have st10:=tt
     go_wp2_with ((
           go_at_call 41
           clear st10
           go_must (
            (with_reducible refine Calls.mono (take_yes sElse HP.out HEL.out) ?_)
            rintro en w8 ⟨he8,hk8,hp8⟩
            subst he8
            replace HK:=am (Kept.then_ HK.out hk8)
            replace HB0:=am (Kept.has hk8 HB0.out (by omega))
            replace HB1:=am (Kept.has hk8 HB1.out (by omega))
            replace HR:=am (Kept.has hk8 HR.out (by omega))
            replace HX:=am (Kept.has hk8 HX.out (by omega))
            replace HKD:=am (R_kps HKD.out HP.out hk8)
            replace HP:=am hp8
            have hs8:=Kept.size hk8
            try simp at hs8
            clear cw_HB0_0 cw_HB1_0
            have cw_HB0_0:=hci HB0.out 0 rfl
            have cw_HB1_0:=hci HB1.out 0 rfl
            have st11:=tt)))
     clear st11
     cases hHO:oneP [sIf,sLbrace] l2.tail with
     | true =>
      have HO:=am hHO
      clear hHO
      have bS:=below_alloc (Below.refl (w8).heap.size (w8)) (Obj.cells ([sIf,sLbrace].map Value.string).toArray 9)
      have HLS:=lit_S (w8) [sIf,sLbrace] (by decide)
      replace HK:=am (Kept.below HK.out bS)
      replace HP:=am (HP.out.below bS)
      replace HB0:=am (HB0.out.belowS bS)
      replace HB1:=am (HB1.out.belowS bS)
      replace HR:=am (HR.out.belowS bS)
      replace HX:=am (HX.out.belowS bS)
      replace HKD:=am (Kd.R_below HKD.out bS)
      clear bS
      clear cw_HB0_0 cw_HB1_0
      have cw_HB0_0:=hci HB0.out 0 rfl
      have cw_HB1_0:=hci HB1.out 0 rfl
      have st12:=tt
      go_wp2_with ((
            go_at_call 61
            clear st12
            go_must (
             refine Calls.mono (one_ps [sIf,sLbrace] (some ⟨(w8).heap.size,0,none⟩) 2 HP.out HLS (by decide)) ?_
             rintro en w9 ⟨he9,hb9⟩
             rw [HO.out] at he9
             subst he9
             clear HLS
             replace HK:=am (Kept.below HK.out hb9)
             replace HP:=am (HP.out.below hb9)
             replace HB0:=am (HB0.out.belowS hb9)
             replace HB1:=am (HB1.out.belowS hb9)
             replace HR:=am (HR.out.belowS hb9)
             replace HX:=am (HX.out.belowS hb9)
             replace HKD:=am (Kd.R_below HKD.out hb9)
             have hs9:=Below.size hb9
             try simp at hs9
             clear cw_HB0_0 cw_HB1_0
             have cw_HB0_0:=hci HB0.out 0 rfl
             have cw_HB1_0:=hci HB1.out 0 rfl
             have st13:=tt)))
      clear st13
      have hD:=below_drew (Below.refl (w9).heap.size (w9))
      replace HK:=am (Kept.below HK.out hD)
      replace HP:=am (HP.out.below hD)
      replace HB0:=am (HB0.out.belowS hD)
      replace HB1:=am (HB1.out.belowS hD)
      replace HR:=am (HR.out.belowS hD)
      replace HX:=am (HX.out.belowS hD)
      replace HKD:=am (Kd.R_below HKD.out hD)
      clear hD
      obtain ⟨W2,hW1⟩:∃ W,(w9).drew = W:=⟨_,rfl⟩
      rw [hW1] at HK HP HB0 HB1 HR HX HKD
      have hzW2:(w9).heap.size <= W2.heap.size:=by rw [<- hW1];exact Nat.le_refl _
      try simp at hzW2
      clear cw_HB0_0 cw_HB1_0
      have cw_HB0_0:=hci HB0.out 0 rfl
      have cw_HB1_0:=hci HB1.out 0 rfl
      refine region_treeR 8 (by kernel_rfl) (by kernel_rfl) (fun w' => Has w' (w3.heap.size) #[.int .i64 20,.int .i64 a0,.int .i64 0,.string ⟨#[]⟩,.slice (some ⟨(w6).heap.size,0,none⟩) 2 2,.slice none 0 0,.int .i64 0,.string ⟨#[]⟩,.int .i64 0,.slice none 0 0] 27 /\ Has w' (w.heap.size) #[.pointer (some ⟨g,0,none⟩)] 52 /\ Has w' (w.heap.size + 1) #[.int .i64 d] 3) (hW1 ▸ ⟨HX.out,HB0.out,HB1.out⟩) fun hS => ?_
      rw [hW1] at hS ⊢
      clear hW1
      simp only [List.take_succ_cons,List.take_zero]
      generalize hQQ:tailK _ _ = QQ
      have hsure:Sure QQ:=by
       rw [<- hQQ]
       intro c a a' w1 hd h
       simp +zetaDelta only [tailK,Exit.then,Exit.inBlock,bodyPost] at h ⊢
       simpa [hd] using h
      refine tqh hsure hS 0 ?_
      apply Exists.intro
      apply And.intro
      ·rintro w' ⟨k1,k2,k3⟩
       apply VR.mk
       go_simp
       with_reducible rfl
      try simp only [sA,sB,sC]
      refine tqh hsure hS 1 ?_
      apply Exists.intro
      apply And.intro
      ·rintro w' ⟨k1,k2,k3⟩
       have cc0:=hci k1 4 rfl
       apply VR.mk
       go_simp
       with_reducible rfl
      try simp only [sA,sB,sC]
      refine tqh hsure hS 2 ?_
      apply Exists.intro
      apply And.intro
      ·rintro w' ⟨k1,k2,k3⟩
       have cc1:=hci k2 0 rfl
       apply VR.mk
       go_simp
       with_reducible rfl
      try simp only [sA,sB,sC]
      refine tqh hsure hS 3 ?_
      apply Exists.intro
      apply And.intro
      ·rintro w' ⟨k1,k2,k3⟩
       have cc2:=hci k3 0 rfl
       apply VR.mk
       go_simp
       with_reducible rfl
      try simp only [sA,sB,sC]
      refine tqh hsure hS 4 ?_
      apply Exists.intro
      apply And.intro
      ·rintro w' ⟨k1,k2,k3⟩
       apply VR.mk
       go_simp
       with_reducible rfl
      try simp only [sA,sB,sC]
      refine tqh hsure hS 6 ?_
      apply Exists.intro
      apply And.intro
      ·rintro w' ⟨k1,k2,k3⟩
       apply VR.mk
       go_simp
       with_reducible rfl
      try simp only [sA,sB,sC]
      have hne3:closedP e n (d + 1) l2.tail ≠ .out:=fun h=>HNE.out (by rw [HEQ.out];simp [needP,PR.andThen,HI.out,HF.out,HA.out,HY.out,HEL.out,HO.out,h])
      have hsl:∀ k,(Value.ownBlock (.slice (some ⟨(w6).heap.size,0,none⟩) 2 2)) = some k -> k < W2.heap.size:=fun k hk=>(R_ownb HKD.out k hk).2
      refine tree_2Q (i:=5) (k:=7) (by kernel_rfl) ?_ ?_
      ·skip
       refine step_callQ (by rfl) (by rfl) (by rfl) (ER.go (by go_simp;with_reducible exact ⟨rfl,rfl⟩)) ?_
       refine (HCC.out g e (d + 1) l2.tail _ (by omega) (by omega) HP.out hne3).mono ?_
       intro en w10 hq
       rcases hq.ways with ⟨v,z,l3,hr,rfl,hk,hv,hp⟩ | ⟨bb,er,hr,rfl,hk⟩
       ·have HZZ:=am hr
        obtain ⟨z4,zc4,z5,zc5,z9,zc9,rfl⟩:=hv.form
        have Vz:=am (VO.lower hv (show W2.heap.size <= _ by first | exact Nat.le_refl _ | (simp)))
        replace HK:=am (Kept.then_ HK.out hk)
        replace HB0:=am (Kept.has hk HB0.out (by omega))
        replace HB1:=am (Kept.has hk HB1.out (by omega))
        replace HR:=am (Kept.has hk HR.out (by omega))
        replace HX:=am (Kept.has hk HX.out (by omega))
        replace HKD:=am (R_kps HKD.out HP.out hk)
        replace HP:=am hp
        have hs10:=Kept.size hk
        try simp at hs10
        clear hr hk hv
        refine .inl ⟨_,rfl,⟨HX.out,HB0.out,HB1.out⟩, ?_⟩
        simp only [sA,sB,sC]
        refine tree_1Q (i:=7) (by kernel_rfl) ?_
        refine step_list (by rfl) ?_
        go_wp2
        have ba7:=below_alloc (Below.refl (w10).heap.size (w10)) (Obj.cells #[.int .i64 0,.int .i64 0,.int .i64 0,.string ⟨#[]⟩,.slice none 0 0,.slice none 0 0,.int .i64 0,.string ⟨#[]⟩,.int .i64 0,.slice none 0 0] 27)
        replace HK:=am (Kept.below HK.out ba7)
        replace HP:=am (HP.out.below ba7)
        replace HB0:=am (HB0.out.belowS ba7)
        replace HB1:=am (HB1.out.belowS ba7)
        replace HR:=am (HR.out.belowS ba7)
        replace HX:=am (HX.out.belowS ba7)
        replace HKD:=am (Kd.R_below HKD.out ba7)
        replace Vz:=am (Vz.out.below ba7)
        clear ba7
        have HZ:=am (Has.new (w10) #[.int .i64 0,.int .i64 0,.int .i64 0,.string ⟨#[]⟩,.slice none 0 0,.slice none 0 0,.int .i64 0,.string ⟨#[]⟩,.int .i64 0,.slice none 0 0] 27)
        refine ⟨⟨HX.out,HB0.out,HB1.out⟩, ?_⟩
        rw [<- hQQ]
        refine tree_doneR (by kernel_rfl) ?_
        refine restQ_tree (fun _=>True) ?_
        clear hsure hS hQQ
        have hzx:=HX.out.lt
        refine tree_1Q (i:=8) (by kernel_rfl) ?_
        refine step_list (by rfl) ?_
        have st14:=tt
        go_wp2_with ((
              refine append0 Tryd.underlying22 info27 (w3.heap.size + 1) rfl (.tmp 40) (.tmp 46) _ (by rfl) rfl (some ⟨(w6).heap.size,0,none⟩) 2 ((w10).heap.size) [x,y] (by rfl) (by rfl) HKD.out HZ.out (by first | omega | simp) (by omega) ?_
              clear st14
              go_must (
               intro g7 cap7 w70 hR10 hb7 hlt7 hat7 hG10
               have hown:=R_ownb HKD.out
               have V2:=am (V_app (B:=w3.heap.size + 1) Vz.out hG10 (hsl) hat7 (by omega))
               replace HK:=am (Kept.grown HK.out hG10 (fun k hk=>.inr ⟨by have:=(hown k hk).1;omega,by have:=(hown k hk).2;omega⟩))
               replace HP:=am (HP.out.grown hG10 (fun k hk=>R_own27 HKD.out k hk))
               replace HB0:=am (HB0.out.of_block (hG10.block _ HB0.out.lt (fun h=>by have:=hown _ h.symm;omega)))
               replace HB1:=am (HB1.out.of_block (hG10.block _ HB1.out.lt (fun h=>by have:=hown _ h.symm;omega)))
               replace HR:=am (HR.out.of_block (hG10.block _ HR.out.lt (fun h=>by have:=hown _ h.symm;omega)))
               replace HX:=am (HX.out.of_block (hG10.block _ HX.out.lt (fun h=>by have:=hown _ h.symm;omega)))
               have HRN:Aside0 (k27.R 27 w70 (w3.heap.size + 1) Any (.slice (some ⟨g7,0,none⟩) 3 cap7) ([x,y] ++ [Z0])):=⟨hR10⟩
               clear hR10 hG10
               have st15:=tt)))
        clear st15
        try refine ⟨trivial, ?_⟩
        try simp only [Act.put,sA,sB,sC]
        have hi0:(0:Int) <= (2:Int):=by omega
        have hi1:(2:Int) < ((3:Nat):Int):=by omega
        have hwr:IntKind.i64.wrap (2:Int) = 2:=IntWalk.i64_in _ (by omega)
        refine tqh (by intro c a a' w1 hd h;simp +zetaDelta only [Exit.then,Exit.inBlock,bodyPost] at h ⊢; simpa [hd] using h) trivial 9 ?_
        refine ⟨.pointer (some ⟨g7,2 * 10,none⟩), ?_, ?_⟩
        ·rintro w' -
         apply VR.mk
         go_simp
         try (intro hbad;omega)
        try simp only [Act.put,sA,sB,sC]
        refine tqh (by intro c a a' w1 hd h;simp +zetaDelta only [Exit.then,Exit.inBlock,bodyPost] at h ⊢; simpa [hd] using h) trivial 11 ?_
        apply Exists.intro
        apply And.intro
        ·rintro w' -
         apply VR.mk
         go_simp
         with_reducible rfl
        try simp only [Act.put,sA,sB,sC]
        have hown7:∀ k,some g7 = some k -> w3.heap.size + 1 <= k /\ k < w70.heap.size:=fun k hk=>by obtain rfl:=Option.some.inj hk;exact ⟨hb7,hlt7⟩
        refine tree_2Q (i:=10) (k:=12) (by kernel_rfl) ?_ ?_
        ·refine step_list (by rfl) ?_
         have st16:=tt
         go_wp2_with ((
               refine storeN i27 (w3.heap.size + 1) rfl rfl (.tmp 48) (.tmp 44) rfl g7 cap7 [x,y] (z) [.int .i64 z.f0,.int .i64 z.f1,.int .i64 z.f2,.string z.f3,.slice z4 z.f4.length zc4,.slice z5 z.f5.length zc5,.int .i64 z.f6.f0,.string z.f6.f1,.int .i64 z.f6.f2,.slice z9 z.f6.f3.length zc9] (by rfl) (by rfl) HRN.out V2.out ?_
               clear st16
               go_must (
                intro w71 hR11 hG11
                replace HK:=am (Kept.grown HK.out hG11 (fun k hk=>.inr ⟨by have:=(hown7 k hk).1;omega,by have:=(hown7 k hk).2;omega⟩))
                replace HP:=am (HP.out.grown hG11 (fun k hk=>R_own27 HRN.out k hk))
                replace HB0:=am (HB0.out.of_block (hG11.block _ HB0.out.lt (fun h=>by have:=hown7 _ h.symm;omega)))
                replace HB1:=am (HB1.out.of_block (hG11.block _ HB1.out.lt (fun h=>by have:=hown7 _ h.symm;omega)))
                replace HR:=am (HR.out.of_block (hG11.block _ HR.out.lt (fun h=>by have:=hown7 _ h.symm;omega)))
                replace HX:=am (HX.out.of_block (hG11.block _ HX.out.lt (fun h=>by have:=hown7 _ h.symm;omega)))
                have HRM:=am hR11
                clear hR11 hG11
                have st17:=tt)))
         clear st17
         try refine ⟨trivial, ?_⟩
         refine tree_1Q (i:=12) (by kernel_rfl) ?_
         refine step_list (by rfl) ?_
         have c11:=hci HX.out 4 rfl
         have f11:=Has.frozen HX.out 4
         clear cw_HB0_0 cw_HB1_0
         have cw_HB0_0:=hci HB0.out 0 rfl
         have cw_HB1_0:=hci HB1.out 0 rfl
         go_wp2
         clear c11 f11
         replace HK:=am (Kept.setCellX HK.out (a:=⟨w3.heap.size,4,none⟩) (.inr (by show w.heap.size <= w3.heap.size;omega)) (.slice (some ⟨g7,0,none⟩) 3 cap7))
         replace HP:=am (PS.setT HP.out HX.out (by decide) (by decide) 4 (.slice (some ⟨g7,0,none⟩) 3 cap7))
         replace HB0:=am (Has.other HB0.out (a:=⟨w3.heap.size,4,none⟩) (by show w.heap.size ≠ w3.heap.size;omega) (.slice (some ⟨g7,0,none⟩) 3 cap7))
         replace HB1:=am (Has.other HB1.out (a:=⟨w3.heap.size,4,none⟩) (by show w.heap.size + 1 ≠ w3.heap.size;omega) (.slice (some ⟨g7,0,none⟩) 3 cap7))
         replace HR:=am (Has.other HR.out (a:=⟨w3.heap.size,4,none⟩) (by show w.heap.size + 2 ≠ w3.heap.size;omega) (.slice (some ⟨g7,0,none⟩) 3 cap7))
         replace HRM:=am (R_far HRM.out (fun kk h1 _=>Below.heap_setCell _ ⟨w3.heap.size,4,none⟩ (.slice (some ⟨g7,0,none⟩) 3 cap7) kk (by show kk ≠ w3.heap.size;omega)))
         replace HX:Aside0 (Has (w71.setCell ⟨w3.heap.size,4,none⟩ (.slice (some ⟨g7,0,none⟩) 3 cap7)) (w3.heap.size) #[.int .i64 20,.int .i64 a0,.int .i64 0,.string ⟨#[]⟩,(.slice (some ⟨g7,0,none⟩) 3 cap7),.slice none 0 0,.int .i64 0,.string ⟨#[]⟩,.int .i64 0,.slice none 0 0] 27):=⟨by have h:=Has.set_ HX.out 4 (.slice (some ⟨g7,0,none⟩) 3 cap7);exact h⟩
         clear cw_HB0_0 cw_HB1_0
         have cw_HB0_0:=hci HB0.out 0 rfl
         have cw_HB1_0:=hci HB1.out 0 rfl
         first | refine ⟨trivial,tree_endQ (by kernel_rfl) ?_⟩ | refine tree_endQ (by kernel_rfl) ?_
         have st18:=tt
         go_wp2_with (first
           | (
            (with_reducible refine gate_dst (N:=50) rfl ?_)
            clear st18
            go_must (
             refine Kd.event_run rfl (load27 (w71.setCell ⟨w3.heap.size,4,none⟩ (.slice (some ⟨g7,0,none⟩) 3 cap7)) (w3.heap.size) #[.int .i64 20,.int .i64 a0,.int .i64 0,.string ⟨#[]⟩,(.slice (some ⟨g7,0,none⟩) 3 cap7),.slice none 0 0,.int .i64 0,.string ⟨#[]⟩,.int .i64 0,.slice none 0 0] HX.out rfl _ _ _ rfl rfl) ?_
             have st19:=tt))
           | (
            (with_reducible refine gate_store (t:=27) (p:=4) rfl ?_)
            clear st19
            go_must (
             refine store_event (t:=27) (p:=4) (v:=.tmp 50) (w1:=World.setRow (w71.setCell ⟨w3.heap.size,4,none⟩ (.slice (some ⟨g7,0,none⟩) 3 cap7)) (w.heap.size + 2) #[.int .i64 20,.int .i64 a0,.int .i64 0,.string ⟨#[]⟩,(.slice (some ⟨g7,0,none⟩) 3 cap7),.slice none 0 0,.int .i64 0,.string ⟨#[]⟩,.int .i64 0,.slice none 0 0]) ?hg ?ho ?hn ?hr ?_
             (case ho=>rfl)
             (case hg=>rfl)
             (case hn=>rfl)
             (case hr=>exact store27 (w71.setCell ⟨w3.heap.size,4,none⟩ (.slice (some ⟨g7,0,none⟩) 3 cap7)) (w.heap.size + 2) _ _ HR.out rfl rfl (by first | kernel_rfl | (simp [Value.oneCell'])) _ _ _ _ rfl rfl rfl)
             intro w712 hw712
             subst hw712
             have st20:=tt)))
         clear st20
         replace HK:=am (kept_rowX HK.out (g:=w.heap.size + 2) (.inr (by show w.heap.size <= w.heap.size + 2;omega)) #[.int .i64 20,.int .i64 a0,.int .i64 0,.string ⟨#[]⟩,(.slice (some ⟨g7,0,none⟩) 3 cap7),.slice none 0 0,.int .i64 0,.string ⟨#[]⟩,.int .i64 0,.slice none 0 0])
         replace HP:=am (PS.rowP HP.out HR.out #[.int .i64 20,.int .i64 a0,.int .i64 0,.string ⟨#[]⟩,(.slice (some ⟨g7,0,none⟩) 3 cap7),.slice none 0 0,.int .i64 0,.string ⟨#[]⟩,.int .i64 0,.slice none 0 0])
         replace HB0:=am (has_row_other HB0.out (g:=w.heap.size + 2) (cs':=#[.int .i64 20,.int .i64 a0,.int .i64 0,.string ⟨#[]⟩,(.slice (some ⟨g7,0,none⟩) 3 cap7),.slice none 0 0,.int .i64 0,.string ⟨#[]⟩,.int .i64 0,.slice none 0 0]) (by omega))
         replace HB1:=am (has_row_other HB1.out (g:=w.heap.size + 2) (cs':=#[.int .i64 20,.int .i64 a0,.int .i64 0,.string ⟨#[]⟩,(.slice (some ⟨g7,0,none⟩) 3 cap7),.slice none 0 0,.int .i64 0,.string ⟨#[]⟩,.int .i64 0,.slice none 0 0]) (by omega))
         replace HX:=am (has_row_other HX.out (g:=w.heap.size + 2) (cs':=#[.int .i64 20,.int .i64 a0,.int .i64 0,.string ⟨#[]⟩,(.slice (some ⟨g7,0,none⟩) 3 cap7),.slice none 0 0,.int .i64 0,.string ⟨#[]⟩,.int .i64 0,.slice none 0 0]) (by omega))
         replace HRM:=am (R_far HRM.out (fun kk h1 _=>row_block _ (w.heap.size + 2) kk #[.int .i64 20,.int .i64 a0,.int .i64 0,.string ⟨#[]⟩,(.slice (some ⟨g7,0,none⟩) 3 cap7),.slice none 0 0,.int .i64 0,.string ⟨#[]⟩,.int .i64 0,.slice none 0 0] (by omega)))
         replace HR:=am (has_row HR.out #[.int .i64 20,.int .i64 a0,.int .i64 0,.string ⟨#[]⟩,(.slice (some ⟨g7,0,none⟩) 3 cap7),.slice none 0 0,.int .i64 0,.string ⟨#[]⟩,.int .i64 0,.slice none 0 0])
         clear cw_HB0_0 cw_HB1_0
         have cw_HB0_0:=hci HB0.out 0 rfl
         have cw_HB1_0:=hci HB1.out 0 rfl
         have HE:Aside0 (R = .ok (mkE 20 a0 0 ⟨#[]⟩ [x,y,z] []) l3):=⟨by rw [HEQ.out];simp [needP,PR.andThen,HI.out,HF.out,HA.out,HY.out,HEL.out,HO.out,HZZ.out]⟩
         refine bodyPost_ret (results_cell_row rfl _ _ (w.heap.size + 2) 27 #[.int .i64 20,.int .i64 a0,.int .i64 0,.string ⟨#[]⟩,(.slice (some ⟨g7,0,none⟩) 3 cap7),.slice none 0 0,.int .i64 0,.string ⟨#[]⟩,.int .i64 0,.slice none 0 0] (0,0) _ rfl HR.out Tryd.underlying27 rfl (by rfl)) rfl ?_
         rw [HE.out]
         exact ⟨HK.out,_,rfl,((VO.node 20 a0 0 ⟨#[]⟩ HRM.out).lower (by omega)),HP.out⟩
        ·refine step_list (by rfl) ?_
         have c11:=hci HX.out 4 rfl
         have f11:=Has.frozen HX.out 4
         clear cw_HB0_0 cw_HB1_0
         have cw_HB0_0:=hci HB0.out 0 rfl
         have cw_HB1_0:=hci HB1.out 0 rfl
         go_wp2
         clear c11 f11
         replace HK:=am (Kept.setCellX HK.out (a:=⟨w3.heap.size,4,none⟩) (.inr (by show w.heap.size <= w3.heap.size;omega)) (.slice (some ⟨g7,0,none⟩) 3 cap7))
         replace HP:=am (PS.setT HP.out HX.out (by decide) (by decide) 4 (.slice (some ⟨g7,0,none⟩) 3 cap7))
         replace HB0:=am (Has.other HB0.out (a:=⟨w3.heap.size,4,none⟩) (by show w.heap.size ≠ w3.heap.size;omega) (.slice (some ⟨g7,0,none⟩) 3 cap7))
         replace HB1:=am (Has.other HB1.out (a:=⟨w3.heap.size,4,none⟩) (by show w.heap.size + 1 ≠ w3.heap.size;omega) (.slice (some ⟨g7,0,none⟩) 3 cap7))
         replace HR:=am (Has.other HR.out (a:=⟨w3.heap.size,4,none⟩) (by show w.heap.size + 2 ≠ w3.heap.size;omega) (.slice (some ⟨g7,0,none⟩) 3 cap7))
         replace HRN:=am (R_far HRN.out (fun kk h1 _=>Below.heap_setCell _ ⟨w3.heap.size,4,none⟩ (.slice (some ⟨g7,0,none⟩) 3 cap7) kk (by show kk ≠ w3.heap.size;omega)))
         replace V2:=am (VO.setO V2.out (a:=⟨w3.heap.size,4,none⟩) (fun kk h1 h2=>by show kk ≠ w3.heap.size;omega) (.slice (some ⟨g7,0,none⟩) 3 cap7))
         replace HX:Aside0 (Has (w70.setCell ⟨w3.heap.size,4,none⟩ (.slice (some ⟨g7,0,none⟩) 3 cap7)) (w3.heap.size) #[.int .i64 20,.int .i64 a0,.int .i64 0,.string ⟨#[]⟩,(.slice (some ⟨g7,0,none⟩) 3 cap7),.slice none 0 0,.int .i64 0,.string ⟨#[]⟩,.int .i64 0,.slice none 0 0] 27):=⟨by have h:=Has.set_ HX.out 4 (.slice (some ⟨g7,0,none⟩) 3 cap7);exact h⟩
         clear cw_HB0_0 cw_HB1_0
         have cw_HB0_0:=hci HB0.out 0 rfl
         have cw_HB1_0:=hci HB1.out 0 rfl
         refine ⟨trivial, ?_⟩
         replace hown7:∀ k,some g7 = some k -> w3.heap.size + 1 <= k /\ k < ((w70.setCell ⟨w3.heap.size,4,none⟩ (.slice (some ⟨g7,0,none⟩) 3 cap7))).heap.size:=fun k hk=>by have:=hown7 k hk;simpa using this
         refine tree_1Q (i:=10) (by kernel_rfl) ?_
         refine step_list (by rfl) ?_
         have st16:=tt
         go_wp2_with ((
               refine storeN i27 (w3.heap.size + 1) rfl rfl (.tmp 48) (.tmp 44) rfl g7 cap7 [x,y] (z) [.int .i64 z.f0,.int .i64 z.f1,.int .i64 z.f2,.string z.f3,.slice z4 z.f4.length zc4,.slice z5 z.f5.length zc5,.int .i64 z.f6.f0,.string z.f6.f1,.int .i64 z.f6.f2,.slice z9 z.f6.f3.length zc9] (by rfl) (by rfl) HRN.out V2.out ?_
               clear st16
               go_must (
                intro w71 hR11 hG11
                replace HK:=am (Kept.grown HK.out hG11 (fun k hk=>.inr ⟨by have:=(hown7 k hk).1;omega,by have:=(hown7 k hk).2;omega⟩))
                replace HP:=am (HP.out.grown hG11 (fun k hk=>R_own27 HRN.out k hk))
                replace HB0:=am (HB0.out.of_block (hG11.block _ HB0.out.lt (fun h=>by have:=hown7 _ h.symm;omega)))
                replace HB1:=am (HB1.out.of_block (hG11.block _ HB1.out.lt (fun h=>by have:=hown7 _ h.symm;omega)))
                replace HR:=am (HR.out.of_block (hG11.block _ HR.out.lt (fun h=>by have:=hown7 _ h.symm;omega)))
                replace HX:=am (HX.out.of_block (hG11.block _ HX.out.lt (fun h=>by have:=hown7 _ h.symm;omega)))
                have HRM:=am hR11
                clear hR11 hG11
                have st17:=tt)))
         clear st17
         first | refine ⟨trivial,tree_endQ (by kernel_rfl) ?_⟩ | refine tree_endQ (by kernel_rfl) ?_
         have st18:=tt
         go_wp2_with (first
           | (
            (with_reducible refine gate_dst (N:=50) rfl ?_)
            clear st18
            go_must (
             refine Kd.event_run rfl (load27 w71 (w3.heap.size) #[.int .i64 20,.int .i64 a0,.int .i64 0,.string ⟨#[]⟩,(.slice (some ⟨g7,0,none⟩) 3 cap7),.slice none 0 0,.int .i64 0,.string ⟨#[]⟩,.int .i64 0,.slice none 0 0] HX.out rfl _ _ _ rfl rfl) ?_
             have st19:=tt))
           | (
            (with_reducible refine gate_store (t:=27) (p:=4) rfl ?_)
            clear st19
            go_must (
             refine store_event (t:=27) (p:=4) (v:=.tmp 50) (w1:=World.setRow w71 (w.heap.size + 2) #[.int .i64 20,.int .i64 a0,.int .i64 0,.string ⟨#[]⟩,(.slice (some ⟨g7,0,none⟩) 3 cap7),.slice none 0 0,.int .i64 0,.string ⟨#[]⟩,.int .i64 0,.slice none 0 0]) ?hg ?ho ?hn ?hr ?_
             (case ho=>rfl)
             (case hg=>rfl)
             (case hn=>rfl)
             (case hr=>exact store27 w71 (w.heap.size + 2) _ _ HR.out rfl rfl (by first | kernel_rfl | (simp [Value.oneCell'])) _ _ _ _ rfl rfl rfl)
             intro w712 hw712
             subst hw712
             have st20:=tt)))
         clear st20
         replace HK:=am (kept_rowX HK.out (g:=w.heap.size + 2) (.inr (by show w.heap.size <= w.heap.size + 2;omega)) #[.int .i64 20,.int .i64 a0,.int .i64 0,.string ⟨#[]⟩,(.slice (some ⟨g7,0,none⟩) 3 cap7),.slice none 0 0,.int .i64 0,.string ⟨#[]⟩,.int .i64 0,.slice none 0 0])
         replace HP:=am (PS.rowP HP.out HR.out #[.int .i64 20,.int .i64 a0,.int .i64 0,.string ⟨#[]⟩,(.slice (some ⟨g7,0,none⟩) 3 cap7),.slice none 0 0,.int .i64 0,.string ⟨#[]⟩,.int .i64 0,.slice none 0 0])
         replace HB0:=am (has_row_other HB0.out (g:=w.heap.size + 2) (cs':=#[.int .i64 20,.int .i64 a0,.int .i64 0,.string ⟨#[]⟩,(.slice (some ⟨g7,0,none⟩) 3 cap7),.slice none 0 0,.int .i64 0,.string ⟨#[]⟩,.int .i64 0,.slice none 0 0]) (by omega))
         replace HB1:=am (has_row_other HB1.out (g:=w.heap.size + 2) (cs':=#[.int .i64 20,.int .i64 a0,.int .i64 0,.string ⟨#[]⟩,(.slice (some ⟨g7,0,none⟩) 3 cap7),.slice none 0 0,.int .i64 0,.string ⟨#[]⟩,.int .i64 0,.slice none 0 0]) (by omega))
         replace HX:=am (has_row_other HX.out (g:=w.heap.size + 2) (cs':=#[.int .i64 20,.int .i64 a0,.int .i64 0,.string ⟨#[]⟩,(.slice (some ⟨g7,0,none⟩) 3 cap7),.slice none 0 0,.int .i64 0,.string ⟨#[]⟩,.int .i64 0,.slice none 0 0]) (by omega))
         replace HRM:=am (R_far HRM.out (fun kk h1 _=>row_block _ (w.heap.size + 2) kk #[.int .i64 20,.int .i64 a0,.int .i64 0,.string ⟨#[]⟩,(.slice (some ⟨g7,0,none⟩) 3 cap7),.slice none 0 0,.int .i64 0,.string ⟨#[]⟩,.int .i64 0,.slice none 0 0] (by omega)))
         replace HR:=am (has_row HR.out #[.int .i64 20,.int .i64 a0,.int .i64 0,.string ⟨#[]⟩,(.slice (some ⟨g7,0,none⟩) 3 cap7),.slice none 0 0,.int .i64 0,.string ⟨#[]⟩,.int .i64 0,.slice none 0 0])
         clear cw_HB0_0 cw_HB1_0
         have cw_HB0_0:=hci HB0.out 0 rfl
         have cw_HB1_0:=hci HB1.out 0 rfl
         have HE:Aside0 (R = .ok (mkE 20 a0 0 ⟨#[]⟩ [x,y,z] []) l3):=⟨by rw [HEQ.out];simp [needP,PR.andThen,HI.out,HF.out,HA.out,HY.out,HEL.out,HO.out,HZZ.out]⟩
         refine bodyPost_ret (results_cell_row rfl _ _ (w.heap.size + 2) 27 #[.int .i64 20,.int .i64 a0,.int .i64 0,.string ⟨#[]⟩,(.slice (some ⟨g7,0,none⟩) 3 cap7),.slice none 0 0,.int .i64 0,.string ⟨#[]⟩,.int .i64 0,.slice none 0 0] (0,0) _ rfl HR.out Tryd.underlying27 rfl (by rfl)) rfl ?_
         rw [HE.out]
         exact ⟨HK.out,_,rfl,((VO.node 20 a0 0 ⟨#[]⟩ HRM.out).lower (by omega)),HP.out⟩
       ·have HZZ:=am hr
        refine .inr ⟨_,rfl, ?_⟩
        replace HK:=am (Kept.then_ HK.out hk)
        replace HB0:=am (Kept.has hk HB0.out (by omega))
        replace HB1:=am (Kept.has hk HB1.out (by omega))
        replace HR:=am (Kept.has hk HR.out (by omega))
        replace HX:=am (Kept.has hk HX.out (by omega))
        replace HKD:=am (R_kps HKD.out HP.out hk)
        have hs10:=Kept.size hk
        try simp at hs10
        rw [<- hQQ]
        have HE:Aside0 (R = .bad bb er):=⟨by rw [HEQ.out];simp [needP,PR.andThen,HI.out,HF.out,HA.out,HY.out,HEL.out,HO.out,HZZ.out]⟩
        have he:=HE.out
        subst he
        exact ⟨rfl,HK.out,rfl⟩
      ·refine step_list (by rfl) ?_
       go_wp2
       have ba7:=below_alloc (Below.refl (W2).heap.size (W2)) (Obj.cells #[.int .i64 0,.int .i64 0,.int .i64 0,.string ⟨#[]⟩,.slice none 0 0,.slice none 0 0,.int .i64 0,.string ⟨#[]⟩,.int .i64 0,.slice none 0 0] 27)
       replace HK:=am (Kept.below HK.out ba7)
       replace HP:=am (HP.out.below ba7)
       replace HB0:=am (HB0.out.belowS ba7)
       replace HB1:=am (HB1.out.belowS ba7)
       replace HR:=am (HR.out.belowS ba7)
       replace HX:=am (HX.out.belowS ba7)
       replace HKD:=am (Kd.R_below HKD.out ba7)
       clear ba7
       have HZ:=am (Has.new (W2) #[.int .i64 0,.int .i64 0,.int .i64 0,.string ⟨#[]⟩,.slice none 0 0,.slice none 0 0,.int .i64 0,.string ⟨#[]⟩,.int .i64 0,.slice none 0 0] 27)
       refine ⟨⟨HX.out,HB0.out,HB1.out⟩, ?_⟩
       refine tree_1Q (i:=5) (by kernel_rfl) ?_
       refine step_callQ (by rfl) (by rfl) (by rfl) (ER.go (by go_simp;with_reducible exact ⟨rfl,rfl⟩)) ?_
       refine (HCC.out g e (d + 1) l2.tail _ (by omega) (by omega) HP.out hne3).mono ?_
       intro en w10 hq
       rcases hq.ways with ⟨v,z,l3,hr,rfl,hk,hv,hp⟩ | ⟨bb,er,hr,rfl,hk⟩
       ·have HZZ:=am hr
        obtain ⟨z4,zc4,z5,zc5,z9,zc9,rfl⟩:=hv.form
        have Vz:=am (VO.lower hv (show W2.heap.size <= _ by first | exact Nat.le_refl _ | (simp)))
        replace HK:=am (Kept.then_ HK.out hk)
        replace HB0:=am (Kept.has hk HB0.out (by omega))
        replace HB1:=am (Kept.has hk HB1.out (by omega))
        replace HR:=am (Kept.has hk HR.out (by omega))
        replace HX:=am (Kept.has hk HX.out (by omega))
        replace HKD:=am (R_kps HKD.out HP.out hk)
        replace HZ:=am (Kept.has hk HZ.out (by omega))
        replace HP:=am hp
        have hs10:=Kept.size hk
        try simp at hs10
        clear hr hk hv
        refine .inl ⟨_,rfl,⟨HX.out,HB0.out,HB1.out⟩, ?_⟩
        simp only [sA,sB,sC]
        rw [<- hQQ]
        refine tree_doneR (by kernel_rfl) ?_
        refine restQ_tree (fun _=>True) ?_
        clear hsure hS hQQ
        have hzx:=HX.out.lt
        refine tree_1Q (i:=8) (by kernel_rfl) ?_
        refine step_list (by rfl) ?_
        have st14:=tt
        go_wp2_with ((
              refine append0 Tryd.underlying22 info27 (w3.heap.size + 1) rfl (.tmp 40) (.tmp 46) _ (by rfl) rfl (some ⟨(w6).heap.size,0,none⟩) 2 ((W2).heap.size) [x,y] (by rfl) (by rfl) HKD.out HZ.out (by first | omega | simp) (by omega) ?_
              clear st14
              go_must (
               intro g7 cap7 w70 hR10 hb7 hlt7 hat7 hG10
               have hown:=R_ownb HKD.out
               have V2:=am (V_app (B:=w3.heap.size + 1) Vz.out hG10 (hsl) hat7 (by omega))
               replace HK:=am (Kept.grown HK.out hG10 (fun k hk=>.inr ⟨by have:=(hown k hk).1;omega,by have:=(hown k hk).2;omega⟩))
               replace HP:=am (HP.out.grown hG10 (fun k hk=>R_own27 HKD.out k hk))
               replace HB0:=am (HB0.out.of_block (hG10.block _ HB0.out.lt (fun h=>by have:=hown _ h.symm;omega)))
               replace HB1:=am (HB1.out.of_block (hG10.block _ HB1.out.lt (fun h=>by have:=hown _ h.symm;omega)))
               replace HR:=am (HR.out.of_block (hG10.block _ HR.out.lt (fun h=>by have:=hown _ h.symm;omega)))
               replace HX:=am (HX.out.of_block (hG10.block _ HX.out.lt (fun h=>by have:=hown _ h.symm;omega)))
               have HRN:Aside0 (k27.R 27 w70 (w3.heap.size + 1) Any (.slice (some ⟨g7,0,none⟩) 3 cap7) ([x,y] ++ [Z0])):=⟨hR10⟩
               clear hR10 hG10
               have st15:=tt)))
        clear st15
        try refine ⟨trivial, ?_⟩
        try simp only [Act.put,sA,sB,sC]
        have hi0:(0:Int) <= (2:Int):=by omega
        have hi1:(2:Int) < ((3:Nat):Int):=by omega
        have hwr:IntKind.i64.wrap (2:Int) = 2:=IntWalk.i64_in _ (by omega)
        refine tqh (by intro c a a' w1 hd h;simp +zetaDelta only [Exit.then,Exit.inBlock,bodyPost] at h ⊢; simpa [hd] using h) trivial 9 ?_
        refine ⟨.pointer (some ⟨g7,2 * 10,none⟩), ?_, ?_⟩
        ·rintro w' -
         apply VR.mk
         go_simp
         try (intro hbad;omega)
        try simp only [Act.put,sA,sB,sC]
        refine tqh (by intro c a a' w1 hd h;simp +zetaDelta only [Exit.then,Exit.inBlock,bodyPost] at h ⊢; simpa [hd] using h) trivial 11 ?_
        apply Exists.intro
        apply And.intro
        ·rintro w' -
         apply VR.mk
         go_simp
         with_reducible rfl
        try simp only [Act.put,sA,sB,sC]
        have hown7:∀ k,some g7 = some k -> w3.heap.size + 1 <= k /\ k < w70.heap.size:=fun k hk=>by obtain rfl:=Option.some.inj hk;exact ⟨hb7,hlt7⟩
        refine tree_2Q (i:=10) (k:=12) (by kernel_rfl) ?_ ?_
        ·refine step_list (by rfl) ?_
         have st16:=tt
         go_wp2_with ((
               refine storeN i27 (w3.heap.size + 1) rfl rfl (.tmp 48) (.tmp 44) rfl g7 cap7 [x,y] (z) [.int .i64 z.f0,.int .i64 z.f1,.int .i64 z.f2,.string z.f3,.slice z4 z.f4.length zc4,.slice z5 z.f5.length zc5,.int .i64 z.f6.f0,.string z.f6.f1,.int .i64 z.f6.f2,.slice z9 z.f6.f3.length zc9] (by rfl) (by rfl) HRN.out V2.out ?_
               clear st16
               go_must (
                intro w71 hR11 hG11
                replace HK:=am (Kept.grown HK.out hG11 (fun k hk=>.inr ⟨by have:=(hown7 k hk).1;omega,by have:=(hown7 k hk).2;omega⟩))
                replace HP:=am (HP.out.grown hG11 (fun k hk=>R_own27 HRN.out k hk))
                replace HB0:=am (HB0.out.of_block (hG11.block _ HB0.out.lt (fun h=>by have:=hown7 _ h.symm;omega)))
                replace HB1:=am (HB1.out.of_block (hG11.block _ HB1.out.lt (fun h=>by have:=hown7 _ h.symm;omega)))
                replace HR:=am (HR.out.of_block (hG11.block _ HR.out.lt (fun h=>by have:=hown7 _ h.symm;omega)))
                replace HX:=am (HX.out.of_block (hG11.block _ HX.out.lt (fun h=>by have:=hown7 _ h.symm;omega)))
                have HRM:=am hR11
                clear hR11 hG11
                have st17:=tt)))
         clear st17
         try refine ⟨trivial, ?_⟩
         refine tree_1Q (i:=12) (by kernel_rfl) ?_
         refine step_list (by rfl) ?_
         have c11:=hci HX.out 4 rfl
         have f11:=Has.frozen HX.out 4
         clear cw_HB0_0 cw_HB1_0
         have cw_HB0_0:=hci HB0.out 0 rfl
         have cw_HB1_0:=hci HB1.out 0 rfl
         go_wp2
         clear c11 f11
         replace HK:=am (Kept.setCellX HK.out (a:=⟨w3.heap.size,4,none⟩) (.inr (by show w.heap.size <= w3.heap.size;omega)) (.slice (some ⟨g7,0,none⟩) 3 cap7))
         replace HP:=am (PS.setT HP.out HX.out (by decide) (by decide) 4 (.slice (some ⟨g7,0,none⟩) 3 cap7))
         replace HB0:=am (Has.other HB0.out (a:=⟨w3.heap.size,4,none⟩) (by show w.heap.size ≠ w3.heap.size;omega) (.slice (some ⟨g7,0,none⟩) 3 cap7))
         replace HB1:=am (Has.other HB1.out (a:=⟨w3.heap.size,4,none⟩) (by show w.heap.size + 1 ≠ w3.heap.size;omega) (.slice (some ⟨g7,0,none⟩) 3 cap7))
         replace HR:=am (Has.other HR.out (a:=⟨w3.heap.size,4,none⟩) (by show w.heap.size + 2 ≠ w3.heap.size;omega) (.slice (some ⟨g7,0,none⟩) 3 cap7))
         replace HRM:=am (R_far HRM.out (fun kk h1 _=>Below.heap_setCell _ ⟨w3.heap.size,4,none⟩ (.slice (some ⟨g7,0,none⟩) 3 cap7) kk (by show kk ≠ w3.heap.size;omega)))
         replace HX:Aside0 (Has (w71.setCell ⟨w3.heap.size,4,none⟩ (.slice (some ⟨g7,0,none⟩) 3 cap7)) (w3.heap.size) #[.int .i64 20,.int .i64 a0,.int .i64 0,.string ⟨#[]⟩,(.slice (some ⟨g7,0,none⟩) 3 cap7),.slice none 0 0,.int .i64 0,.string ⟨#[]⟩,.int .i64 0,.slice none 0 0] 27):=⟨by have h:=Has.set_ HX.out 4 (.slice (some ⟨g7,0,none⟩) 3 cap7);exact h⟩
         clear cw_HB0_0 cw_HB1_0
         have cw_HB0_0:=hci HB0.out 0 rfl
         have cw_HB1_0:=hci HB1.out 0 rfl
         first | refine ⟨trivial,tree_endQ (by kernel_rfl) ?_⟩ | refine tree_endQ (by kernel_rfl) ?_
         have st18:=tt
         go_wp2_with (first
           | (
            (with_reducible refine gate_dst (N:=50) rfl ?_)
            clear st18
            go_must (
             refine Kd.event_run rfl (load27 (w71.setCell ⟨w3.heap.size,4,none⟩ (.slice (some ⟨g7,0,none⟩) 3 cap7)) (w3.heap.size) #[.int .i64 20,.int .i64 a0,.int .i64 0,.string ⟨#[]⟩,(.slice (some ⟨g7,0,none⟩) 3 cap7),.slice none 0 0,.int .i64 0,.string ⟨#[]⟩,.int .i64 0,.slice none 0 0] HX.out rfl _ _ _ rfl rfl) ?_
             have st19:=tt))
           | (
            (with_reducible refine gate_store (t:=27) (p:=4) rfl ?_)
            clear st19
            go_must (
             refine store_event (t:=27) (p:=4) (v:=.tmp 50) (w1:=World.setRow (w71.setCell ⟨w3.heap.size,4,none⟩ (.slice (some ⟨g7,0,none⟩) 3 cap7)) (w.heap.size + 2) #[.int .i64 20,.int .i64 a0,.int .i64 0,.string ⟨#[]⟩,(.slice (some ⟨g7,0,none⟩) 3 cap7),.slice none 0 0,.int .i64 0,.string ⟨#[]⟩,.int .i64 0,.slice none 0 0]) ?hg ?ho ?hn ?hr ?_
             (case ho=>rfl)
             (case hg=>rfl)
             (case hn=>rfl)
             (case hr=>exact store27 (w71.setCell ⟨w3.heap.size,4,none⟩ (.slice (some ⟨g7,0,none⟩) 3 cap7)) (w.heap.size + 2) _ _ HR.out rfl rfl (by first | kernel_rfl | (simp [Value.oneCell'])) _ _ _ _ rfl rfl rfl)
             intro w712 hw712
             subst hw712
             have st20:=tt)))
         clear st20
         replace HK:=am (kept_rowX HK.out (g:=w.heap.size + 2) (.inr (by show w.heap.size <= w.heap.size + 2;omega)) #[.int .i64 20,.int .i64 a0,.int .i64 0,.string ⟨#[]⟩,(.slice (some ⟨g7,0,none⟩) 3 cap7),.slice none 0 0,.int .i64 0,.string ⟨#[]⟩,.int .i64 0,.slice none 0 0])
         replace HP:=am (PS.rowP HP.out HR.out #[.int .i64 20,.int .i64 a0,.int .i64 0,.string ⟨#[]⟩,(.slice (some ⟨g7,0,none⟩) 3 cap7),.slice none 0 0,.int .i64 0,.string ⟨#[]⟩,.int .i64 0,.slice none 0 0])
         replace HB0:=am (has_row_other HB0.out (g:=w.heap.size + 2) (cs':=#[.int .i64 20,.int .i64 a0,.int .i64 0,.string ⟨#[]⟩,(.slice (some ⟨g7,0,none⟩) 3 cap7),.slice none 0 0,.int .i64 0,.string ⟨#[]⟩,.int .i64 0,.slice none 0 0]) (by omega))
         replace HB1:=am (has_row_other HB1.out (g:=w.heap.size + 2) (cs':=#[.int .i64 20,.int .i64 a0,.int .i64 0,.string ⟨#[]⟩,(.slice (some ⟨g7,0,none⟩) 3 cap7),.slice none 0 0,.int .i64 0,.string ⟨#[]⟩,.int .i64 0,.slice none 0 0]) (by omega))
         replace HX:=am (has_row_other HX.out (g:=w.heap.size + 2) (cs':=#[.int .i64 20,.int .i64 a0,.int .i64 0,.string ⟨#[]⟩,(.slice (some ⟨g7,0,none⟩) 3 cap7),.slice none 0 0,.int .i64 0,.string ⟨#[]⟩,.int .i64 0,.slice none 0 0]) (by omega))
         replace HRM:=am (R_far HRM.out (fun kk h1 _=>row_block _ (w.heap.size + 2) kk #[.int .i64 20,.int .i64 a0,.int .i64 0,.string ⟨#[]⟩,(.slice (some ⟨g7,0,none⟩) 3 cap7),.slice none 0 0,.int .i64 0,.string ⟨#[]⟩,.int .i64 0,.slice none 0 0] (by omega)))
         replace HR:=am (has_row HR.out #[.int .i64 20,.int .i64 a0,.int .i64 0,.string ⟨#[]⟩,(.slice (some ⟨g7,0,none⟩) 3 cap7),.slice none 0 0,.int .i64 0,.string ⟨#[]⟩,.int .i64 0,.slice none 0 0])
         clear cw_HB0_0 cw_HB1_0
         have cw_HB0_0:=hci HB0.out 0 rfl
         have cw_HB1_0:=hci HB1.out 0 rfl
         have HE:Aside0 (R = .ok (mkE 20 a0 0 ⟨#[]⟩ [x,y,z] []) l3):=⟨by rw [HEQ.out];simp [needP,PR.andThen,HI.out,HF.out,HA.out,HY.out,HEL.out,HO.out,HZZ.out]⟩
         refine bodyPost_ret (results_cell_row rfl _ _ (w.heap.size + 2) 27 #[.int .i64 20,.int .i64 a0,.int .i64 0,.string ⟨#[]⟩,(.slice (some ⟨g7,0,none⟩) 3 cap7),.slice none 0 0,.int .i64 0,.string ⟨#[]⟩,.int .i64 0,.slice none 0 0] (0,0) _ rfl HR.out Tryd.underlying27 rfl (by rfl)) rfl ?_
         rw [HE.out]
         exact ⟨HK.out,_,rfl,((VO.node 20 a0 0 ⟨#[]⟩ HRM.out).lower (by omega)),HP.out⟩
        ·refine step_list (by rfl) ?_
         have c11:=hci HX.out 4 rfl
         have f11:=Has.frozen HX.out 4
         clear cw_HB0_0 cw_HB1_0
         have cw_HB0_0:=hci HB0.out 0 rfl
         have cw_HB1_0:=hci HB1.out 0 rfl
         go_wp2
         clear c11 f11
         replace HK:=am (Kept.setCellX HK.out (a:=⟨w3.heap.size,4,none⟩) (.inr (by show w.heap.size <= w3.heap.size;omega)) (.slice (some ⟨g7,0,none⟩) 3 cap7))
         replace HP:=am (PS.setT HP.out HX.out (by decide) (by decide) 4 (.slice (some ⟨g7,0,none⟩) 3 cap7))
         replace HB0:=am (Has.other HB0.out (a:=⟨w3.heap.size,4,none⟩) (by show w.heap.size ≠ w3.heap.size;omega) (.slice (some ⟨g7,0,none⟩) 3 cap7))
         replace HB1:=am (Has.other HB1.out (a:=⟨w3.heap.size,4,none⟩) (by show w.heap.size + 1 ≠ w3.heap.size;omega) (.slice (some ⟨g7,0,none⟩) 3 cap7))
         replace HR:=am (Has.other HR.out (a:=⟨w3.heap.size,4,none⟩) (by show w.heap.size + 2 ≠ w3.heap.size;omega) (.slice (some ⟨g7,0,none⟩) 3 cap7))
         replace HRN:=am (R_far HRN.out (fun kk h1 _=>Below.heap_setCell _ ⟨w3.heap.size,4,none⟩ (.slice (some ⟨g7,0,none⟩) 3 cap7) kk (by show kk ≠ w3.heap.size;omega)))
         replace V2:=am (VO.setO V2.out (a:=⟨w3.heap.size,4,none⟩) (fun kk h1 h2=>by show kk ≠ w3.heap.size;omega) (.slice (some ⟨g7,0,none⟩) 3 cap7))
         replace HX:Aside0 (Has (w70.setCell ⟨w3.heap.size,4,none⟩ (.slice (some ⟨g7,0,none⟩) 3 cap7)) (w3.heap.size) #[.int .i64 20,.int .i64 a0,.int .i64 0,.string ⟨#[]⟩,(.slice (some ⟨g7,0,none⟩) 3 cap7),.slice none 0 0,.int .i64 0,.string ⟨#[]⟩,.int .i64 0,.slice none 0 0] 27):=⟨by have h:=Has.set_ HX.out 4 (.slice (some ⟨g7,0,none⟩) 3 cap7);exact h⟩
         clear cw_HB0_0 cw_HB1_0
         have cw_HB0_0:=hci HB0.out 0 rfl
         have cw_HB1_0:=hci HB1.out 0 rfl
         refine ⟨trivial, ?_⟩
         replace hown7:∀ k,some g7 = some k -> w3.heap.size + 1 <= k /\ k < ((w70.setCell ⟨w3.heap.size,4,none⟩ (.slice (some ⟨g7,0,none⟩) 3 cap7))).heap.size:=fun k hk=>by have:=hown7 k hk;simpa using this
         refine tree_1Q (i:=10) (by kernel_rfl) ?_
         refine step_list (by rfl) ?_
         have st16:=tt
         go_wp2_with ((
               refine storeN i27 (w3.heap.size + 1) rfl rfl (.tmp 48) (.tmp 44) rfl g7 cap7 [x,y] (z) [.int .i64 z.f0,.int .i64 z.f1,.int .i64 z.f2,.string z.f3,.slice z4 z.f4.length zc4,.slice z5 z.f5.length zc5,.int .i64 z.f6.f0,.string z.f6.f1,.int .i64 z.f6.f2,.slice z9 z.f6.f3.length zc9] (by rfl) (by rfl) HRN.out V2.out ?_
               clear st16
               go_must (
                intro w71 hR11 hG11
                replace HK:=am (Kept.grown HK.out hG11 (fun k hk=>.inr ⟨by have:=(hown7 k hk).1;omega,by have:=(hown7 k hk).2;omega⟩))
                replace HP:=am (HP.out.grown hG11 (fun k hk=>R_own27 HRN.out k hk))
                replace HB0:=am (HB0.out.of_block (hG11.block _ HB0.out.lt (fun h=>by have:=hown7 _ h.symm;omega)))
                replace HB1:=am (HB1.out.of_block (hG11.block _ HB1.out.lt (fun h=>by have:=hown7 _ h.symm;omega)))
                replace HR:=am (HR.out.of_block (hG11.block _ HR.out.lt (fun h=>by have:=hown7 _ h.symm;omega)))
                replace HX:=am (HX.out.of_block (hG11.block _ HX.out.lt (fun h=>by have:=hown7 _ h.symm;omega)))
                have HRM:=am hR11
                clear hR11 hG11
                have st17:=tt)))
         clear st17
         first | refine ⟨trivial,tree_endQ (by kernel_rfl) ?_⟩ | refine tree_endQ (by kernel_rfl) ?_
         have st18:=tt
         go_wp2_with (first
           | (
            (with_reducible refine gate_dst (N:=50) rfl ?_)
            clear st18
            go_must (
             refine Kd.event_run rfl (load27 w71 (w3.heap.size) #[.int .i64 20,.int .i64 a0,.int .i64 0,.string ⟨#[]⟩,(.slice (some ⟨g7,0,none⟩) 3 cap7),.slice none 0 0,.int .i64 0,.string ⟨#[]⟩,.int .i64 0,.slice none 0 0] HX.out rfl _ _ _ rfl rfl) ?_
             have st19:=tt))
           | (
            (with_reducible refine gate_store (t:=27) (p:=4) rfl ?_)
            clear st19
            go_must (
             refine store_event (t:=27) (p:=4) (v:=.tmp 50) (w1:=World.setRow w71 (w.heap.size + 2) #[.int .i64 20,.int .i64 a0,.int .i64 0,.string ⟨#[]⟩,(.slice (some ⟨g7,0,none⟩) 3 cap7),.slice none 0 0,.int .i64 0,.string ⟨#[]⟩,.int .i64 0,.slice none 0 0]) ?hg ?ho ?hn ?hr ?_
             (case ho=>rfl)
             (case hg=>rfl)
             (case hn=>rfl)
             (case hr=>exact store27 w71 (w.heap.size + 2) _ _ HR.out rfl rfl (by first | kernel_rfl | (simp [Value.oneCell'])) _ _ _ _ rfl rfl rfl)
             intro w712 hw712
             subst hw712
             have st20:=tt)))
         clear st20
         replace HK:=am (kept_rowX HK.out (g:=w.heap.size + 2) (.inr (by show w.heap.size <= w.heap.size + 2;omega)) #[.int .i64 20,.int .i64 a0,.int .i64 0,.string ⟨#[]⟩,(.slice (some ⟨g7,0,none⟩) 3 cap7),.slice none 0 0,.int .i64 0,.string ⟨#[]⟩,.int .i64 0,.slice none 0 0])
         replace HP:=am (PS.rowP HP.out HR.out #[.int .i64 20,.int .i64 a0,.int .i64 0,.string ⟨#[]⟩,(.slice (some ⟨g7,0,none⟩) 3 cap7),.slice none 0 0,.int .i64 0,.string ⟨#[]⟩,.int .i64 0,.slice none 0 0])
         replace HB0:=am (has_row_other HB0.out (g:=w.heap.size + 2) (cs':=#[.int .i64 20,.int .i64 a0,.int .i64 0,.string ⟨#[]⟩,(.slice (some ⟨g7,0,none⟩) 3 cap7),.slice none 0 0,.int .i64 0,.string ⟨#[]⟩,.int .i64 0,.slice none 0 0]) (by omega))
         replace HB1:=am (has_row_other HB1.out (g:=w.heap.size + 2) (cs':=#[.int .i64 20,.int .i64 a0,.int .i64 0,.string ⟨#[]⟩,(.slice (some ⟨g7,0,none⟩) 3 cap7),.slice none 0 0,.int .i64 0,.string ⟨#[]⟩,.int .i64 0,.slice none 0 0]) (by omega))
         replace HX:=am (has_row_other HX.out (g:=w.heap.size + 2) (cs':=#[.int .i64 20,.int .i64 a0,.int .i64 0,.string ⟨#[]⟩,(.slice (some ⟨g7,0,none⟩) 3 cap7),.slice none 0 0,.int .i64 0,.string ⟨#[]⟩,.int .i64 0,.slice none 0 0]) (by omega))
         replace HRM:=am (R_far HRM.out (fun kk h1 _=>row_block _ (w.heap.size + 2) kk #[.int .i64 20,.int .i64 a0,.int .i64 0,.string ⟨#[]⟩,(.slice (some ⟨g7,0,none⟩) 3 cap7),.slice none 0 0,.int .i64 0,.string ⟨#[]⟩,.int .i64 0,.slice none 0 0] (by omega)))
         replace HR:=am (has_row HR.out #[.int .i64 20,.int .i64 a0,.int .i64 0,.string ⟨#[]⟩,(.slice (some ⟨g7,0,none⟩) 3 cap7),.slice none 0 0,.int .i64 0,.string ⟨#[]⟩,.int .i64 0,.slice none 0 0])
         clear cw_HB0_0 cw_HB1_0
         have cw_HB0_0:=hci HB0.out 0 rfl
         have cw_HB1_0:=hci HB1.out 0 rfl
         have HE:Aside0 (R = .ok (mkE 20 a0 0 ⟨#[]⟩ [x,y,z] []) l3):=⟨by rw [HEQ.out];simp [needP,PR.andThen,HI.out,HF.out,HA.out,HY.out,HEL.out,HO.out,HZZ.out]⟩
         refine bodyPost_ret (results_cell_row rfl _ _ (w.heap.size + 2) 27 #[.int .i64 20,.int .i64 a0,.int .i64 0,.string ⟨#[]⟩,(.slice (some ⟨g7,0,none⟩) 3 cap7),.slice none 0 0,.int .i64 0,.string ⟨#[]⟩,.int .i64 0,.slice none 0 0] (0,0) _ rfl HR.out Tryd.underlying27 rfl (by rfl)) rfl ?_
         rw [HE.out]
         exact ⟨HK.out,_,rfl,((VO.node 20 a0 0 ⟨#[]⟩ HRM.out).lower (by omega)),HP.out⟩
       ·have HZZ:=am hr
        refine .inr ⟨_,rfl, ?_⟩
        replace HK:=am (Kept.then_ HK.out hk)
        replace HB0:=am (Kept.has hk HB0.out (by omega))
        replace HB1:=am (Kept.has hk HB1.out (by omega))
        replace HR:=am (Kept.has hk HR.out (by omega))
        replace HX:=am (Kept.has hk HX.out (by omega))
        replace HKD:=am (R_kps HKD.out HP.out hk)
        replace HZ:=am (Kept.has hk HZ.out (by omega))
        have hs10:=Kept.size hk
        try simp at hs10
        rw [<- hQQ]
        have HE:Aside0 (R = .bad bb er):=⟨by rw [HEQ.out];simp [needP,PR.andThen,HI.out,HF.out,HA.out,HY.out,HEL.out,HO.out,HZZ.out]⟩
        have he:=HE.out
        subst he
        exact ⟨rfl,HK.out,rfl⟩
     | false =>
     have HO:=am hHO
     clear hHO
     have bS:=below_alloc (Below.refl (w8).heap.size (w8)) (Obj.cells ([sIf,sLbrace].map Value.string).toArray 9)
     have HLS:=lit_S (w8) [sIf,sLbrace] (by decide)
     replace HK:=am (Kept.below HK.out bS)
     replace HP:=am (HP.out.below bS)
     replace HB0:=am (HB0.out.belowS bS)
     replace HB1:=am (HB1.out.belowS bS)
     replace HR:=am (HR.out.belowS bS)
     replace HX:=am (HX.out.belowS bS)
     replace HKD:=am (Kd.R_below HKD.out bS)
     clear bS
     clear cw_HB0_0 cw_HB1_0
     have cw_HB0_0:=hci HB0.out 0 rfl
     have cw_HB1_0:=hci HB1.out 0 rfl
     have st12:=tt
     go_wp2_with (first
       | (
        go_at_call 61
        clear st12
        go_must (
         refine Calls.mono (one_ps [sIf,sLbrace] (some ⟨(w8).heap.size,0,none⟩) 2 HP.out HLS (by decide)) ?_
         rintro en w9 ⟨he9,hb9⟩
         rw [HO.out] at he9
         subst he9
         clear HLS
         replace HK:=am (Kept.below HK.out hb9)
         replace HP:=am (HP.out.below hb9)
         replace HB0:=am (HB0.out.belowS hb9)
         replace HB1:=am (HB1.out.belowS hb9)
         replace HR:=am (HR.out.belowS hb9)
         replace HX:=am (HX.out.belowS hb9)
         replace HKD:=am (Kd.R_below HKD.out hb9)
         have hs9:=Below.size hb9
         try simp at hs9
         clear cw_HB0_0 cw_HB1_0
         have cw_HB0_0:=hci HB0.out 0 rfl
         have cw_HB1_0:=hci HB1.out 0 rfl
         have st13:=tt))
       | (
        go_at_call 20
        clear st13
        go_must (
         (with_reducible refine Calls.mono (fail_ps 30 HP.out) ?_)
         rintro en w10 ⟨he10,hb10⟩
         subst he10
         replace HK:=am (Kept.below HK.out hb10)
         replace HP:=am (HP.out.below hb10)
         replace HB0:=am (HB0.out.belowS hb10)
         replace HB1:=am (HB1.out.belowS hb10)
         replace HR:=am (HR.out.belowS hb10)
         replace HX:=am (HX.out.belowS hb10)
         replace HKD:=am (Kd.R_below HKD.out hb10)
         have hs10:=Below.size hb10
         try simp at hs10
         clear cw_HB0_0 cw_HB1_0
         have cw_HB0_0:=hci HB0.out 0 rfl
         have cw_HB1_0:=hci HB1.out 0 rfl
         have st14:=tt)))
     clear st14
     have HE:Aside0 (R = .bad (atP e l2.tail) 30):=⟨by rw [HEQ.out];simp [needP,PR.andThen,HI.out,HF.out,HA.out,HY.out,HEL.out,HO.out]⟩
     rw [HE.out]
     exact ⟨rfl,HK.out,rfl⟩
    | false =>
    have HEL:=am hHEL
    clear hHEL
    have st10:=tt
    go_wp2_with (first
      | (
       go_at_call 41
       clear st10
       go_must (
        (with_reducible refine Calls.mono (take_no sElse HP.out HEL.out) ?_)
        rintro en w8 ⟨he8,hk8,hp8⟩
        subst he8
        replace HK:=am (Kept.then_ HK.out hk8)
        replace HB0:=am (Kept.has hk8 HB0.out (by omega))
        replace HB1:=am (Kept.has hk8 HB1.out (by omega))
        replace HR:=am (Kept.has hk8 HR.out (by omega))
        replace HX:=am (Kept.has hk8 HX.out (by omega))
        replace HKD:=am (R_kps HKD.out HP.out hk8)
        replace HP:=am hp8
        have hs8:=Kept.size hk8
        try simp at hs8
        clear cw_HB0_0 cw_HB1_0
        have cw_HB0_0:=hci HB0.out 0 rfl
        have cw_HB1_0:=hci HB1.out 0 rfl
        have st11:=tt))
      | (
       (with_reducible refine gate_dst (N:=50) rfl ?_)
       clear st11
       go_must (
        refine Kd.event_run rfl (load27 w8 (w3.heap.size) #[.int .i64 20,.int .i64 a0,.int .i64 0,.string ⟨#[]⟩,.slice (some ⟨(w6).heap.size,0,none⟩) 2 2,.slice none 0 0,.int .i64 0,.string ⟨#[]⟩,.int .i64 0,.slice none 0 0] HX.out rfl _ _ _ rfl rfl) ?_
        have st12:=tt))
      | (
       (with_reducible refine gate_store (t:=27) (p:=4) rfl ?_)
       clear st12
       go_must (
        refine store_event (t:=27) (p:=4) (v:=.tmp 50) (w1:=World.setRow w8 (w.heap.size + 2) #[.int .i64 20,.int .i64 a0,.int .i64 0,.string ⟨#[]⟩,.slice (some ⟨(w6).heap.size,0,none⟩) 2 2,.slice none 0 0,.int .i64 0,.string ⟨#[]⟩,.int .i64 0,.slice none 0 0]) ?hg ?ho ?hn ?hr ?_
        (case ho=>rfl)
        (case hg=>rfl)
        (case hn=>rfl)
        (case hr=>exact store27 w8 (w.heap.size + 2) _ _ HR.out rfl rfl (by first | kernel_rfl | (simp [Value.oneCell'])) _ _ _ _ rfl rfl rfl)
        intro w79 hw79
        subst hw79
        have st13:=tt)))
    clear st13
    replace HK:=am (kept_rowX HK.out (g:=w.heap.size + 2) (.inr (by show w.heap.size <= w.heap.size + 2;omega)) #[.int .i64 20,.int .i64 a0,.int .i64 0,.string ⟨#[]⟩,.slice (some ⟨(w6).heap.size,0,none⟩) 2 2,.slice none 0 0,.int .i64 0,.string ⟨#[]⟩,.int .i64 0,.slice none 0 0])
    replace HP:=am (PS.rowP HP.out HR.out #[.int .i64 20,.int .i64 a0,.int .i64 0,.string ⟨#[]⟩,.slice (some ⟨(w6).heap.size,0,none⟩) 2 2,.slice none 0 0,.int .i64 0,.string ⟨#[]⟩,.int .i64 0,.slice none 0 0])
    replace HB0:=am (has_row_other HB0.out (g:=w.heap.size + 2) (cs':=#[.int .i64 20,.int .i64 a0,.int .i64 0,.string ⟨#[]⟩,.slice (some ⟨(w6).heap.size,0,none⟩) 2 2,.slice none 0 0,.int .i64 0,.string ⟨#[]⟩,.int .i64 0,.slice none 0 0]) (by omega))
    replace HB1:=am (has_row_other HB1.out (g:=w.heap.size + 2) (cs':=#[.int .i64 20,.int .i64 a0,.int .i64 0,.string ⟨#[]⟩,.slice (some ⟨(w6).heap.size,0,none⟩) 2 2,.slice none 0 0,.int .i64 0,.string ⟨#[]⟩,.int .i64 0,.slice none 0 0]) (by omega))
    replace HX:=am (has_row_other HX.out (g:=w.heap.size + 2) (cs':=#[.int .i64 20,.int .i64 a0,.int .i64 0,.string ⟨#[]⟩,.slice (some ⟨(w6).heap.size,0,none⟩) 2 2,.slice none 0 0,.int .i64 0,.string ⟨#[]⟩,.int .i64 0,.slice none 0 0]) (by omega))
    replace HKD:=am (R_far HKD.out (fun kk h1 _=>row_block _ (w.heap.size + 2) kk #[.int .i64 20,.int .i64 a0,.int .i64 0,.string ⟨#[]⟩,.slice (some ⟨(w6).heap.size,0,none⟩) 2 2,.slice none 0 0,.int .i64 0,.string ⟨#[]⟩,.int .i64 0,.slice none 0 0] (by omega)))
    replace HR:=am (has_row HR.out #[.int .i64 20,.int .i64 a0,.int .i64 0,.string ⟨#[]⟩,.slice (some ⟨(w6).heap.size,0,none⟩) 2 2,.slice none 0 0,.int .i64 0,.string ⟨#[]⟩,.int .i64 0,.slice none 0 0])
    clear cw_HB0_0 cw_HB1_0
    have cw_HB0_0:=hci HB0.out 0 rfl
    have cw_HB1_0:=hci HB1.out 0 rfl
    have HE:Aside0 (R = .ok (mkE 20 a0 0 ⟨#[]⟩ [x,y] []) l2):=⟨by rw [HEQ.out];simp [needP,PR.andThen,HI.out,HF.out,HA.out,HY.out,HEL.out]⟩
    refine bodyPost_ret (results_cell_row rfl _ _ (w.heap.size + 2) 27 #[.int .i64 20,.int .i64 a0,.int .i64 0,.string ⟨#[]⟩,.slice (some ⟨(w6).heap.size,0,none⟩) 2 2,.slice none 0 0,.int .i64 0,.string ⟨#[]⟩,.int .i64 0,.slice none 0 0] (0,0) _ rfl HR.out Tryd.underlying27 rfl (by rfl)) rfl ?_
    rw [HE.out]
    exact ⟨HK.out,_,rfl,((VO.node 20 a0 0 ⟨#[]⟩ HKD.out).lower (by omega)),HP.out⟩
   ·have HY:=am hr
    refine .inr ⟨_,rfl, ?_⟩
    replace HK:=am (Kept.then_ HK.out hk)
    replace HB0:=am (Kept.has hk HB0.out (by omega))
    replace HB1:=am (Kept.has hk HB1.out (by omega))
    replace HR:=am (Kept.has hk HR.out (by omega))
    replace HX:=am (Kept.has hk HX.out (by omega))
    replace Vx:=am (VO.kps Vx.out HP.out hk)
    replace HXC:=am (Kept.has hk HXC.out (by omega))
    have hs6:=Kept.size hk
    try simp at hs6
    rw [<- hQQ]
    have HE:Aside0 (R = .bad bb er):=⟨by rw [HEQ.out];simp [needP,PR.andThen,HI.out,HF.out,HA.out,HY.out]⟩
    have he:=HE.out
    subst he
    exact ⟨rfl,HK.out,rfl⟩
  | false =>
  have HF:=am hHF
  clear hHF
  have st6:=tt
  go_wp2_with ((
        go_at_call 41
        clear st6
        go_must (
         (with_reducible refine Calls.mono (take_no sIf HP.out HF.out) ?_)
         rintro en w4 ⟨he4,hk4,hp4⟩
         subst he4
         replace HK:=am (Kept.then_ HK.out hk4)
         replace HB0:=am (Kept.has hk4 HB0.out (by omega))
         replace HB1:=am (Kept.has hk4 HB1.out (by omega))
         replace HR:=am (Kept.has hk4 HR.out (by omega))
         replace HX:=am (Kept.has hk4 HX.out (by omega))
         replace HP:=am hp4
         have hs4:=Kept.size hk4
         try simp at hs4
         clear cw_HB0_0 cw_HB1_0
         have cw_HB0_0:=hci HB0.out 0 rfl
         have cw_HB1_0:=hci HB1.out 0 rfl
         have st7:=tt)))
  clear st7
  cases hHM:isP sMatch l with
  | true =>
   have HM:=am hHM
   clear hHM
   have st8:=tt
   go_wp2_with ((
         go_at_call 42
         clear st8
         go_must (
          (with_reducible refine Calls.mono (need_yes sMatch HP.out HM.out) ?_)
          rintro en w5 ⟨he5,hk5,hp5⟩
          subst he5
          replace HK:=am (Kept.then_ HK.out hk5)
          replace HB0:=am (Kept.has hk5 HB0.out (by omega))
          replace HB1:=am (Kept.has hk5 HB1.out (by omega))
          replace HR:=am (Kept.has hk5 HR.out (by omega))
          replace HX:=am (Kept.has hk5 HX.out (by omega))
          replace HP:=am hp5
          have hs5:=Kept.size hk5
          try simp at hs5
          clear cw_HB0_0 cw_HB1_0
          have cw_HB0_0:=hci HB0.out 0 rfl
          have cw_HB1_0:=hci HB1.out 0 rfl
          have st9:=tt)))
   clear st9
   cases hHA:climbP e n (d + 1) false 1 l.tail with
   | out=>exact absurd (by rw [HEQ.out];simp [needP,PR.andThen,HI.out,HF.out,HM.out,hHA]) HNE.out
   | bad bb er =>
    have HA:=am hHA
    have HAN:=am (show climbP e n (d + 1) false 1 l.tail ≠ .out by rw [hHA];exact PR.bad_ne _ _)
    clear hHA
    have st10:=tt
    go_wp2_with ((
          go_at_call 18
          clear st10
          go_must (
           (with_reducible refine Calls.mono (HTT.out g e (d + 1) false l.tail _ (by omega) (by omega) HP.out HAN.out) ?_)
           rintro en w6 ⟨hk6,he6⟩
           rw [HA.out] at he6
           subst he6
           replace HK:=am (Kept.then_ HK.out hk6)
           replace HB0:=am (Kept.has hk6 HB0.out (by omega))
           replace HB1:=am (Kept.has hk6 HB1.out (by omega))
           replace HR:=am (Kept.has hk6 HR.out (by omega))
           replace HX:=am (Kept.has hk6 HX.out (by omega))
           have hs6:=Kept.size hk6
           try simp at hs6
           clear cw_HB0_0 cw_HB1_0
           have cw_HB0_0:=hci HB0.out 0 rfl
           have cw_HB1_0:=hci HB1.out 0 rfl
           have st11:=tt)))
    clear st11
    have HE:Aside0 (R = .bad bb er):=⟨by rw [HEQ.out];simp [needP,PR.andThen,HI.out,HF.out,HM.out,HA.out]⟩
    rw [HE.out]
    exact ⟨rfl,HK.out,rfl⟩
   | ok x l1 =>
   have HA:=am hHA
   have HAN:=am (show climbP e n (d + 1) false 1 l.tail ≠ .out by rw [hHA];exact PR.ok_ne _ _)
   clear hHA
   have st10:=tt
   go_wp2_with ((
         go_at_call 18
         clear st10
         go_must (
          (with_reducible refine Calls.mono (HTT.out g e (d + 1) false l.tail _ (by omega) (by omega) HP.out HAN.out) ?_)
          rintro en w6 ⟨hk6,he6⟩
          rw [HA.out] at he6
          obtain ⟨v6,rfl,hv6,hp6⟩:=he6
          obtain ⟨x4,xc4,x5,xc5,x9,xc9,rfl⟩:=(hv6).form
          have Vx:=am (VO.lower hv6 (show w3.heap.size + 1 <= _ by (have:=HX.out.lt;omega)))
          clear hv6
          replace HK:=am (Kept.then_ HK.out hk6)
          replace HB0:=am (Kept.has hk6 HB0.out (by omega))
          replace HB1:=am (Kept.has hk6 HB1.out (by omega))
          replace HR:=am (Kept.has hk6 HR.out (by omega))
          replace HX:=am (Kept.has hk6 HX.out (by omega))
          replace HP:=am hp6
          have hs6:=Kept.size hk6
          try simp at hs6
          clear cw_HB0_0 cw_HB1_0
          have cw_HB0_0:=hci HB0.out 0 rfl
          have cw_HB1_0:=hci HB1.out 0 rfl
          obtain ⟨Mx,Lx⟩:=VO.lit (cs:=[.int .i64 x.f0,.int .i64 x.f1,.int .i64 x.f2,.string x.f3,.slice x4 x.f4.length xc4,.slice x5 x.f5.length xc5,.int .i64 x.f6.f0,.string x.f6.f1,.int .i64 x.f6.f2,.slice x9 x.f6.f3.length xc9]) Vx.out
          have HKD:Aside0 (k27.R 27 ((w6).alloc (Obj.cells #[.int .i64 x.f0,.int .i64 x.f1,.int .i64 x.f2,.string x.f3,.slice x4 x.f4.length xc4,.slice x5 x.f5.length xc5,.int .i64 x.f6.f0,.string x.f6.f1,.int .i64 x.f6.f2,.slice x9 x.f6.f3.length xc9] 27)) (w3.heap.size + 1) Any (.slice (some ⟨(w6).heap.size,0,none⟩) 1 1) [x]):=⟨by have h:=kids_lit (w6) (w3.heap.size + 1) (by (have:=HX.out.lt;omega)) trivial (xs:=[x]) (reps_one Mx Lx) (by simp);exact h⟩
          clear Mx Lx
          have ba5:=below_alloc (Below.refl (w6).heap.size (w6)) (Obj.cells #[.int .i64 x.f0,.int .i64 x.f1,.int .i64 x.f2,.string x.f3,.slice x4 x.f4.length xc4,.slice x5 x.f5.length xc5,.int .i64 x.f6.f0,.string x.f6.f1,.int .i64 x.f6.f2,.slice x9 x.f6.f3.length xc9] 27)
          replace HK:=am (Kept.below HK.out ba5)
          replace HP:=am (HP.out.below ba5)
          replace HB0:=am (HB0.out.belowS ba5)
          replace HB1:=am (HB1.out.belowS ba5)
          replace HR:=am (HR.out.belowS ba5)
          replace HX:=am (HX.out.belowS ba5)
          replace Vx:=am (Vx.out.below ba5)
          clear ba5
          have c7:=hci HX.out 0 rfl
          have f7:=Has.frozen HX.out 0
          have c8:=hci HX.out 4 rfl
          have f8:=Has.frozen HX.out 4
          have q8:Has (World.setCell ((w6.alloc (Obj.cells #[.int .i64 x.f0,.int .i64 x.f1,.int .i64 x.f2,.string x.f3,.slice x4 x.f4.length xc4,.slice x5 x.f5.length xc5,.int .i64 x.f6.f0,.string x.f6.f1,.int .i64 x.f6.f2,.slice x9 x.f6.f3.length xc9] 27))) ⟨w3.heap.size,0,none⟩ (.int .i64 21)) (w3.heap.size) #[.int .i64 21,.int .i64 a0,.int .i64 0,.string ⟨#[]⟩,.slice none 0 0,.slice none 0 0,.int .i64 0,.string ⟨#[]⟩,.int .i64 0,.slice none 0 0] 27:=Has.set_ (HX.out) 0 (.int .i64 21)
          have cc8:=hci q8 4 rfl
          have ff8:=q8.frozen 4
          clear q8
          have cy9:=Has.cell (Has.other ((Has.other (HB0.out) (a:=⟨w3.heap.size,0,none⟩) (by show w.heap.size ≠ w3.heap.size;omega) (.int .i64 21))) (a:=⟨w3.heap.size,4,none⟩) (by show w.heap.size ≠ w3.heap.size;omega) (.slice (some ⟨(w6).heap.size,0,none⟩) 1 1)) 0
          simp only [List.getElem?_toArray,List.getElem?_cons_zero,List.getElem?_cons_succ] at cy9
          have cy10:=Has.cell (Has.other ((Has.other (HB1.out) (a:=⟨w3.heap.size,0,none⟩) (by show w.heap.size + 1 ≠ w3.heap.size;omega) (.int .i64 21))) (a:=⟨w3.heap.size,4,none⟩) (by show w.heap.size + 1 ≠ w3.heap.size;omega) (.slice (some ⟨(w6).heap.size,0,none⟩) 1 1)) 0
          simp only [List.getElem?_toArray,List.getElem?_cons_zero,List.getElem?_cons_succ] at cy10
          have st11:=tt)))
   clear st11
   clear c7 f7 c8 f8 cc8 ff8 cy9 cy10
   replace HK:=am (Kept.setCellX HK.out (a:=⟨w3.heap.size,0,none⟩) (.inr (by show w.heap.size <= w3.heap.size;omega)) (.int .i64 21))
   replace HP:=am (PS.setT HP.out HX.out (by decide) (by decide) 0 (.int .i64 21))
   replace HB0:=am (Has.other HB0.out (a:=⟨w3.heap.size,0,none⟩) (by show w.heap.size ≠ w3.heap.size;omega) (.int .i64 21))
   replace HB1:=am (Has.other HB1.out (a:=⟨w3.heap.size,0,none⟩) (by show w.heap.size + 1 ≠ w3.heap.size;omega) (.int .i64 21))
   replace HR:=am (Has.other HR.out (a:=⟨w3.heap.size,0,none⟩) (by show w.heap.size + 2 ≠ w3.heap.size;omega) (.int .i64 21))
   replace Vx:=am (VO.setO Vx.out (a:=⟨w3.heap.size,0,none⟩) (fun kk h1 h2=>by show kk ≠ w3.heap.size;omega) (.int .i64 21))
   replace HKD:=am (R_far HKD.out (fun kk h1 _=>Below.heap_setCell _ ⟨w3.heap.size,0,none⟩ (.int .i64 21) kk (by show kk ≠ w3.heap.size;omega)))
   replace HX:Aside0 (Has (((w6.alloc (Obj.cells #[.int .i64 x.f0,.int .i64 x.f1,.int .i64 x.f2,.string x.f3,.slice x4 x.f4.length xc4,.slice x5 x.f5.length xc5,.int .i64 x.f6.f0,.string x.f6.f1,.int .i64 x.f6.f2,.slice x9 x.f6.f3.length xc9] 27))).setCell ⟨w3.heap.size,0,none⟩ (.int .i64 21)) (w3.heap.size) #[.int .i64 21,.int .i64 a0,.int .i64 0,.string ⟨#[]⟩,.slice none 0 0,.slice none 0 0,.int .i64 0,.string ⟨#[]⟩,.int .i64 0,.slice none 0 0] 27):=⟨by have h:=Has.set_ HX.out 0 (.int .i64 21);exact h⟩
   replace HK:=am (Kept.setCellX HK.out (a:=⟨w3.heap.size,4,none⟩) (.inr (by show w.heap.size <= w3.heap.size;omega)) (.slice (some ⟨(w6).heap.size,0,none⟩) 1 1))
   replace HP:=am (PS.setT HP.out HX.out (by decide) (by decide) 4 (.slice (some ⟨(w6).heap.size,0,none⟩) 1 1))
   replace HB0:=am (Has.other HB0.out (a:=⟨w3.heap.size,4,none⟩) (by show w.heap.size ≠ w3.heap.size;omega) (.slice (some ⟨(w6).heap.size,0,none⟩) 1 1))
   replace HB1:=am (Has.other HB1.out (a:=⟨w3.heap.size,4,none⟩) (by show w.heap.size + 1 ≠ w3.heap.size;omega) (.slice (some ⟨(w6).heap.size,0,none⟩) 1 1))
   replace HR:=am (Has.other HR.out (a:=⟨w3.heap.size,4,none⟩) (by show w.heap.size + 2 ≠ w3.heap.size;omega) (.slice (some ⟨(w6).heap.size,0,none⟩) 1 1))
   replace Vx:=am (VO.setO Vx.out (a:=⟨w3.heap.size,4,none⟩) (fun kk h1 h2=>by show kk ≠ w3.heap.size;omega) (.slice (some ⟨(w6).heap.size,0,none⟩) 1 1))
   replace HKD:=am (R_far HKD.out (fun kk h1 _=>Below.heap_setCell _ ⟨w3.heap.size,4,none⟩ (.slice (some ⟨(w6).heap.size,0,none⟩) 1 1) kk (by show kk ≠ w3.heap.size;omega)))
   replace HX:Aside0 (Has (((((w6.alloc (Obj.cells #[.int .i64 x.f0,.int .i64 x.f1,.int .i64 x.f2,.string x.f3,.slice x4 x.f4.length xc4,.slice x5 x.f5.length xc5,.int .i64 x.f6.f0,.string x.f6.f1,.int .i64 x.f6.f2,.slice x9 x.f6.f3.length xc9] 27))).setCell ⟨w3.heap.size,0,none⟩ (.int .i64 21))).setCell ⟨w3.heap.size,4,none⟩ (.slice (some ⟨(w6).heap.size,0,none⟩) 1 1)) (w3.heap.size) #[.int .i64 21,.int .i64 a0,.int .i64 0,.string ⟨#[]⟩,.slice (some ⟨(w6).heap.size,0,none⟩) 1 1,.slice none 0 0,.int .i64 0,.string ⟨#[]⟩,.int .i64 0,.slice none 0 0] 27):=⟨by have h:=Has.set_ HX.out 4 (.slice (some ⟨(w6).heap.size,0,none⟩) 1 1);exact h⟩
   clear cw_HB0_0 cw_HB1_0
   have cw_HB0_0:=hci HB0.out 0 rfl
   have cw_HB1_0:=hci HB1.out 0 rfl
   cases hHL:isP sLbrace l1 with
   | true =>
    have HL:=am hHL
    clear hHL
    have st12:=tt
    go_wp2_with ((
          go_at_call 42
          clear st12
          go_must (
           (with_reducible refine Calls.mono (need_yes sLbrace HP.out HL.out) ?_)
           rintro en w11 ⟨he11,hk11,hp11⟩
           subst he11
           replace HK:=am (Kept.then_ HK.out hk11)
           replace HB0:=am (Kept.has hk11 HB0.out (by omega))
           replace HB1:=am (Kept.has hk11 HB1.out (by omega))
           replace HR:=am (Kept.has hk11 HR.out (by omega))
           replace HX:=am (Kept.has hk11 HX.out (by omega))
           replace Vx:=am (VO.kps Vx.out HP.out hk11)
           replace HKD:=am (R_kps HKD.out HP.out hk11)
           replace HP:=am hp11
           have hs11:=Kept.size hk11
           try simp at hs11
           clear cw_HB0_0 cw_HB1_0
           have cw_HB0_0:=hci HB0.out 0 rfl
           have cw_HB1_0:=hci HB1.out 0 rfl
           have st13:=tt)))
    clear st13
    cases n with
    | zero=>exact absurd (by rw [HEQ.out];simp [needP,PR.andThen,armsP,HI.out,HF.out,HM.out,HA.out,HL.out]) HNE.out
    | succ m =>
     have HTM:=HTA.out m (by omega)
     have hja:∀ q,armsP e (m + 1) d [x] q = listP e sRbrace (rdArms e d m) m [x] q:=fun _=>rfl
     cases hHJ:listP e sRbrace (rdArms e d m) m [x] l1.tail with
     | out=>exact absurd (by rw [HEQ.out];simp [needP,PR.andThen,HI.out,HF.out,HM.out,HA.out,HL.out,hja,hHJ]) HNE.out
     | bad bb er =>
      have HJ:=am hHJ
      have HJN:=am (show listP e sRbrace (rdArms e d m) m [x] l1.tail ≠ .out by rw [hHJ];exact PR.bad_ne _ _)
      clear hHJ
      have st14:=tt
      go_wp2_with ((
            go_at_call 43
            clear st14
            go_must (
             (with_reducible refine Calls.mono (list_said g e sRbrace 83 #[.pointer (some ⟨w.heap.size,0,none⟩),.pointer (some ⟨w.heap.size + 1,0,none⟩),.pointer (some ⟨w3.heap.size,0,none⟩)] (by intro w;kernel_rfl) (fun k=>k = g \/ w3.heap.size <= k) (.inl rfl) (IA g d w.heap.size w3.heap.size a0) (fun w1 w2 xs h hk=>h.kept hgw (by omega) hk) (rdArms e d m) (fun xs l wq h1 h2 h3=>arms_rd HTM (pat_ok m) g e d h0 (by omega) w.heap.size _ hgw (by omega) a0 xs l wq h1 h2 h3) m [x] l1.tail _ HP.out (IA.of HB0.out HB1.out HX.out HKD.out) HJN.out) ?_)
             rintro en w12 ⟨hk12,he12⟩
             rw [HJ.out] at he12
             subst he12
             replace HK:=am (HK.out.wide (by omega) hk12)
             clear cw_HB0_0 cw_HB1_0
             have cw_HB0_0:=hci HB0.out 0 rfl
             have cw_HB1_0:=hci HB1.out 0 rfl
             have st15:=tt)))
      clear st15
      have HE:Aside0 (R = .bad bb er):=⟨by rw [HEQ.out];simp [needP,PR.andThen,HI.out,HF.out,HM.out,HA.out,HL.out,hja,HJ.out]⟩
      rw [HE.out]
      exact ⟨rfl,HK.out,rfl⟩
     | ok ks l4 =>
     have HJ:=am hHJ
     have HJN:=am (show listP e sRbrace (rdArms e d m) m [x] l1.tail ≠ .out by rw [hHJ];exact PR.ok_ne _ _)
     clear hHJ
     have st14:=tt
     go_wp2_with (first
       | (
        go_at_call 43
        clear st14
        go_must (
         (with_reducible refine Calls.mono (list_said g e sRbrace 83 #[.pointer (some ⟨w.heap.size,0,none⟩),.pointer (some ⟨w.heap.size + 1,0,none⟩),.pointer (some ⟨w3.heap.size,0,none⟩)] (by intro w;kernel_rfl) (fun k=>k = g \/ w3.heap.size <= k) (.inl rfl) (IA g d w.heap.size w3.heap.size a0) (fun w1 w2 xs h hk=>h.kept hgw (by omega) hk) (rdArms e d m) (fun xs l wq h1 h2 h3=>arms_rd HTM (pat_ok m) g e d h0 (by omega) w.heap.size _ hgw (by omega) a0 xs l wq h1 h2 h3) m [x] l1.tail _ HP.out (IA.of HB0.out HB1.out HX.out HKD.out) HJN.out) ?_)
         rintro en w12 ⟨hk12,he12⟩
         rw [HJ.out] at he12
         obtain ⟨rfl,⟨vk,hB0,hB1,hX0,hR0⟩,hp0⟩:=he12
         replace HR:=am (Kept.has hk12 HR.out (by omega))
         replace HK:=am (HK.out.wide (by omega) hk12)
         replace HB0:=am hB0
         replace HB1:=am hB1
         replace HX:=am hX0
         replace HP:=am hp0
         replace HKD:=am hR0
         clear hB0 hB1 hX0 hp0 hR0 hk12
         clear cw_HB0_0 cw_HB1_0
         obtain ⟨A9,c9,rfl⟩:=Kd.R_slice HKD.out
         have cw_HB0_0:=hci HB0.out 0 rfl
         have cw_HB1_0:=hci HB1.out 0 rfl
         have st15:=tt))
       | (
        (with_reducible refine gate_dst (N:=65) rfl ?_)
        clear st15
        go_must (
         refine Kd.event_run rfl (load27 w12 (w3.heap.size) #[.int .i64 21,.int .i64 a0,.int .i64 0,.string ⟨#[]⟩,.slice A9 ks.length c9,.slice none 0 0,.int .i64 0,.string ⟨#[]⟩,.int .i64 0,.slice none 0 0] HX.out rfl _ _ _ rfl rfl) ?_
         have st16:=tt))
       | (
        (with_reducible refine gate_store (t:=27) (p:=4) rfl ?_)
        clear st16
        go_must (
         refine store_event (t:=27) (p:=4) (v:=.tmp 65) (w1:=World.setRow w12 (w.heap.size + 2) #[.int .i64 21,.int .i64 a0,.int .i64 0,.string ⟨#[]⟩,.slice A9 ks.length c9,.slice none 0 0,.int .i64 0,.string ⟨#[]⟩,.int .i64 0,.slice none 0 0]) ?hg ?ho ?hn ?hr ?_
         (case ho=>rfl)
         (case hg=>rfl)
         (case hn=>rfl)
         (case hr=>exact store27 w12 (w.heap.size + 2) _ _ HR.out rfl rfl (by first | kernel_rfl | (simp [Value.oneCell'])) _ _ _ _ rfl rfl rfl)
         intro w713 hw713
         subst hw713
         have st17:=tt)))
     clear st17
     replace HK:=am (kept_rowX HK.out (g:=w.heap.size + 2) (.inr (by show w.heap.size <= w.heap.size + 2;omega)) #[.int .i64 21,.int .i64 a0,.int .i64 0,.string ⟨#[]⟩,.slice A9 ks.length c9,.slice none 0 0,.int .i64 0,.string ⟨#[]⟩,.int .i64 0,.slice none 0 0])
     replace HP:=am (PS.rowP HP.out HR.out #[.int .i64 21,.int .i64 a0,.int .i64 0,.string ⟨#[]⟩,.slice A9 ks.length c9,.slice none 0 0,.int .i64 0,.string ⟨#[]⟩,.int .i64 0,.slice none 0 0])
     replace HB0:=am (has_row_other HB0.out (g:=w.heap.size + 2) (cs':=#[.int .i64 21,.int .i64 a0,.int .i64 0,.string ⟨#[]⟩,.slice A9 ks.length c9,.slice none 0 0,.int .i64 0,.string ⟨#[]⟩,.int .i64 0,.slice none 0 0]) (by omega))
     replace HB1:=am (has_row_other HB1.out (g:=w.heap.size + 2) (cs':=#[.int .i64 21,.int .i64 a0,.int .i64 0,.string ⟨#[]⟩,.slice A9 ks.length c9,.slice none 0 0,.int .i64 0,.string ⟨#[]⟩,.int .i64 0,.slice none 0 0]) (by omega))
     replace HX:=am (has_row_other HX.out (g:=w.heap.size + 2) (cs':=#[.int .i64 21,.int .i64 a0,.int .i64 0,.string ⟨#[]⟩,.slice A9 ks.length c9,.slice none 0 0,.int .i64 0,.string ⟨#[]⟩,.int .i64 0,.slice none 0 0]) (by omega))
     replace HKD:=am (R_far HKD.out (fun kk h1 _=>row_block _ (w.heap.size + 2) kk #[.int .i64 21,.int .i64 a0,.int .i64 0,.string ⟨#[]⟩,.slice A9 ks.length c9,.slice none 0 0,.int .i64 0,.string ⟨#[]⟩,.int .i64 0,.slice none 0 0] (by omega)))
     replace HR:=am (has_row HR.out #[.int .i64 21,.int .i64 a0,.int .i64 0,.string ⟨#[]⟩,.slice A9 ks.length c9,.slice none 0 0,.int .i64 0,.string ⟨#[]⟩,.int .i64 0,.slice none 0 0])
     clear cw_HB0_0 cw_HB1_0
     have cw_HB0_0:=hci HB0.out 0 rfl
     have cw_HB1_0:=hci HB1.out 0 rfl
     have HE:Aside0 (R = .ok (mkE 21 a0 0 ⟨#[]⟩ ks []) l4):=⟨by rw [HEQ.out];simp [needP,PR.andThen,HI.out,HF.out,HM.out,HA.out,HL.out,hja,HJ.out]⟩
     refine bodyPost_ret (results_cell_row rfl _ _ (w.heap.size + 2) 27 #[.int .i64 21,.int .i64 a0,.int .i64 0,.string ⟨#[]⟩,.slice A9 ks.length c9,.slice none 0 0,.int .i64 0,.string ⟨#[]⟩,.int .i64 0,.slice none 0 0] (0,0) _ rfl HR.out Tryd.underlying27 rfl (by rfl)) rfl ?_
     rw [HE.out]
     exact ⟨HK.out,_,rfl,((VO.node 21 a0 0 ⟨#[]⟩ HKD.out).lower (by omega)),HP.out⟩
   | false =>
   have HL:=am hHL
   clear hHL
   have st12:=tt
   go_wp2_with ((
         go_at_call 42
         clear st12
         go_must (
          (with_reducible refine Calls.mono (need_no sLbrace HP.out HL.out) ?_)
          rintro en w11 ⟨he11,hk11⟩
          subst he11
          replace HK:=am (Kept.then_ HK.out hk11)
          replace HB0:=am (Kept.has hk11 HB0.out (by omega))
          replace HB1:=am (Kept.has hk11 HB1.out (by omega))
          replace HR:=am (Kept.has hk11 HR.out (by omega))
          replace HX:=am (Kept.has hk11 HX.out (by omega))
          replace Vx:=am (VO.kps Vx.out HP.out hk11)
          replace HKD:=am (R_kps HKD.out HP.out hk11)
          have hs11:=Kept.size hk11
          try simp at hs11
          clear cw_HB0_0 cw_HB1_0
          have cw_HB0_0:=hci HB0.out 0 rfl
          have cw_HB1_0:=hci HB1.out 0 rfl
          have st13:=tt)))
   clear st13
   have HE:Aside0 (R = .bad (atP e l1) 30):=⟨by rw [HEQ.out];simp [needP,PR.andThen,HI.out,HF.out,HM.out,HA.out,HL.out]⟩
   rw [HE.out]
   exact ⟨rfl,HK.out,rfl⟩
  | false =>
  have HM:=am hHM
  clear hHM
  have st8:=tt
  go_wp2_with ((
        go_at_call 42
        clear st8
        go_must (
         (with_reducible refine Calls.mono (need_no sMatch HP.out HM.out) ?_)
         rintro en w5 ⟨he5,hk5⟩
         subst he5
         replace HK:=am (Kept.then_ HK.out hk5)
         replace HB0:=am (Kept.has hk5 HB0.out (by omega))
         replace HB1:=am (Kept.has hk5 HB1.out (by omega))
         replace HR:=am (Kept.has hk5 HR.out (by omega))
         replace HX:=am (Kept.has hk5 HX.out (by omega))
         have hs5:=Kept.size hk5
         try simp at hs5
         clear cw_HB0_0 cw_HB1_0
         have cw_HB0_0:=hci HB0.out 0 rfl
         have cw_HB1_0:=hci HB1.out 0 rfl
         have st9:=tt)))
  clear st9
  have HE:Aside0 (R = .bad a0 30):=⟨by rw [HEQ.out];simp [needP,PR.andThen,HI.out,HF.out,HM.out]⟩
  rw [HE.out]
  rw [<- HAT.out];exact ⟨rfl,HK.out,rfl⟩
end Go.Proofs.YtngpgdmafmkddaaDoor.Par
end
section
namespace Go.Proofs.YtngpgdmafmkddaaDoor.Par
open Go.RowKit Go.Proofs.YtngpgdmafmkddaaDoorW.PrintWords Go.Proofs.YtngpgdmafmkddaaDoorW.PrintLast Go.Proofs.YtngpgdmafmkddaaDoorW.PrintMore
open Go.Proofs.YtngpgdmafmkddaaDoor.PParseBlanks (S35 S25 S27 k35 k25 k27 rd_T35 rd_T25 rd_T27 at_T35 at_T25 at_T27)
set_option linter.unusedVariables false
set_option linter.unusedSimpArgs false
end Go.Proofs.YtngpgdmafmkddaaDoor.Par
end
section
namespace Go.Proofs.YtngpgdmafmkddaaDoor.Par
open Go.RowKit Go.Proofs.YtngpgdmafmkddaaDoorW.PrintWords Go.Proofs.YtngpgdmafmkddaaDoorW.PrintLast Go.Proofs.YtngpgdmafmkddaaDoorW.PrintMore
open Go.Proofs.YtngpgdmafmkddaaDoor.PParseBlanks (S35 S25 S27 k35 k25 k27 rd_T35 rd_T25 rd_T27 at_T35 at_T25 at_T27)
set_option linter.unusedVariables false
set_option linter.unusedSimpArgs false
def PrimaryOK (n:Nat):Prop := ∀ (g:Nat) (e d:Int) (op:Bool) (l:List S35) (w:World),0 <= d -> d < 60 -> PS w g l e -> primaryP e n d op l ≠ .out ->
 Calls Tryd.prog 79 #[.pointer (some ⟨g,0,none⟩),.int .i64 d,.bool op] w (PPost g e (VE w.heap.size) (primaryP e n d op l) w)
def okOp (l:List S35):Bool:=decide (kindP l = 1) || decide (kindP l = 2) || oneP oneOperand l
set_option maxRecDepth 100000 in
set_option maxHeartbeats 4000000 in
theorem operand_ok {n:Nat} (HO:OperandOK n) (HP1:PrimaryOK n) (HB:BehindOK n):OperandOK (n + 1):=by
 intro g e d op l w h0 h1 HP hne
 unfold OperandOK at HO
 unfold PrimaryOK at HP1
 unfold BehindOK at HB
 have hu27:=Tryd.underlying27
 have HE:operandP e (n + 1) d op l = if okOp l = false then .bad (atP e l) 30 else if d >= 60 then .bad (atP e l) 31 else
   if isP sMinus l = true then (operandP e n (d + 1) op l.tail).andThen fun x l' => .ok (mkE 5 (atP e l) 0 ⟨#[]⟩ [x] []) l'
   else if isP sBang l = true then (operandP e n (d + 1) op l.tail).andThen fun x l' => .ok (mkE 6 (atP e l) 0 ⟨#[]⟩ [x] []) l'
   else if isP sStar l = true then (operandP e n (d + 1) op l.tail).andThen fun x l' => .ok (mkE 7 (atP e l) 0 ⟨#[]⟩ [x] []) l'
   else if isP sAmp l = true then
    (if isP sMut l.tail = true then (operandP e n (d + 1) op l.tail.tail).andThen fun x l' => .ok (mkE 8 (atP e l) 1 ⟨#[]⟩ [x] []) l'
     else (operandP e n (d + 1) op l.tail).andThen fun x l' => .ok (mkE 8 (atP e l) 0 ⟨#[]⟩ [x] []) l')
   else (primaryP e n d op l).andThen fun x l' => behindP e n d x l':=by
  simp only [operandP]
  by_cases hk:okOp l = false
  ·rw [if_pos hk,if_pos]
   simp only [okOp,Bool.or_eq_false_iff,decide_eq_false_iff_not] at hk
   exact ⟨hk.1.1,hk.1.2,hk.2⟩
  ·rw [if_neg hk,if_neg]
   intro h
   apply hk
   simp only [okOp,Bool.or_eq_false_iff,decide_eq_false_iff_not]
   exact ⟨⟨h.1,h.2.1⟩,h.2.2⟩
 obtain ⟨R,hR⟩:∃ R,operandP e (n + 1) d op l = R:=⟨_,rfl⟩
 rw [hR] at HE hne ⊢
 clear hR
 have hgw:=HP.glt
 have HEQ:=am HE
 have HNE:=am hne
 have HOO:=am HO
 have HPP:=am HP1
 have HBB:=am HB
 have HK:Aside0 (KeptG g w w):=⟨Kept.refl _ w⟩
 have HP:=am HP
 clear HE hne HO HP1 HB
 have ba1:=below_alloc (Below.refl (w).heap.size (w)) (Obj.cells #[.int .i64 0,.int .i64 0,.int .i64 0,.string ⟨#[]⟩,.slice none 0 0,.slice none 0 0,.int .i64 0,.string ⟨#[]⟩,.int .i64 0,.slice none 0 0] 27)
 replace HK:=am (Kept.below HK.out ba1)
 replace HP:=am (HP.out.below ba1)
 clear ba1
 have HR:=am (Has.new (w) #[.int .i64 0,.int .i64 0,.int .i64 0,.string ⟨#[]⟩,.slice none 0 0,.slice none 0 0,.int .i64 0,.string ⟨#[]⟩,.int .i64 0,.slice none 0 0] 27)
 go_enter Tryd.func70,Tryd.ntmps70
 go_upto_region 2 with ((
       go_at_call 19
       (with_reducible refine Calls.mono (kind_ps HP.out) ?_)
       rintro en w1 ⟨he1,hb1⟩
       subst he1
       replace HK:=am (Kept.below HK.out hb1)
       replace HP:=am (HP.out.below hb1)
       replace HR:=am (HR.out.belowS hb1)
       have hs1:=Below.size hb1
       try simp at hs1))
 obtain ⟨q,hq⟩:∃ q,kindP l = q:=⟨_,rfl⟩
 rw [hq]
 go_cut [22] (fun v22 wc=>v22 = .bool (!okOp l) /\ Aside0 (KeptG g w wc) /\ Aside0 (PS wc g l e) /\ Aside0 (Has wc w.heap.size #[.int .i64 0,.int .i64 0,.int .i64 0,.string ⟨#[]⟩,.slice none 0 0,.slice none 0 0,.int .i64 0,.string ⟨#[]⟩,.int .i64 0,.slice none 0 0] 27))
 case first =>
  by_cases k1:q = 1
  ·have b1:(q != 1) = false:=by simp [k1]
   go_wp2
   go_meet
   case rel=>exact ⟨by simp [okOp,hq,k1],HK,HP,HR⟩
  ·have b1:(q != 1) = true:=by simp [k1]
   by_cases k2:q = 2
   ·have b2:(q != 2) = false:=by simp [k2]
    go_wp2
    go_meet
    case rel=>exact ⟨by simp [okOp,hq,k2],HK,HP,HR⟩
   ·have b2:(q != 2) = true:=by simp [k2]
    have b0:okOp l = oneP oneOperand l:=by simp [okOp,hq,k1,k2]
    have B0:=am b0
    clear b0 hq
    obtain ⟨bo,hbo⟩:∃ b,oneP oneOperand l = b:=⟨_,rfl⟩
    have HBO:=am hbo
    clear hbo
    clear k1 k2
    have ba2:=below_alloc (Below.refl (w1).heap.size (w1)) (Obj.cells ([sMinus,sBang,sStar,sAmp,sLpar,sLbra,sLbrace,sTrue,sFalse,sIf,sMatch].map Value.string).toArray 9)
    replace HK:=am (Kept.below HK.out ba2)
    replace HP:=am (HP.out.below ba2)
    replace HR:=am (HR.out.belowS ba2)
    clear ba2
    have HL:=lit_S w1 [sMinus,sBang,sStar,sAmp,sLpar,sLbra,sLbrace,sTrue,sFalse,sIf,sMatch] (by decide)
    go_wp2_with ((
          go_at_call 61
          refine Calls.mono (one_ps [sMinus,sBang,sStar,sAmp,sLpar,sLbra,sLbrace,sTrue,sFalse,sIf,sMatch] (some ⟨w1.heap.size,0,none⟩) 11 HP.out HL (by decide)) ?_
          rintro en w2 ⟨he2,hb2⟩
          rw [HBO.out] at he2
          subst he2
          replace HK:=am (Kept.below HK.out hb2)
          replace HP:=am (HP.out.below hb2)
          replace HR:=am (HR.out.belowS hb2)
          have hs2:=Below.size hb2
          try simp at hs2))
    go_meet
    case rel=>exact ⟨by rw [B0.out,HBO.out],HK,HP,HR⟩
 case rest =>
  clear HK HP HR
  obtain ⟨rfl,HK,HP,HR⟩:=hcut
  clear hs1 hb1
  have hs1:=HR.out.lt
  cases hk:okOp l with
  | false =>
   have HE:Aside0 (R = .bad (atP e l) 30):=⟨by rw [HEQ.out,if_pos hk]⟩
   clear HEQ hk
   go_wp2_with ((
         go_at_call 20
         (with_reducible refine Calls.mono (fail_ps 30 HP.out) ?_)
         rintro en w2 ⟨he2,hb2⟩
         subst he2
         replace HK:=am (Kept.below HK.out hb2)
         replace HP:=am (HP.out.below hb2)
         replace HR:=am (HR.out.belowS hb2)
         have hs2:=Below.size hb2
         try simp at hs2))
   rw [HE.out]
   exact ⟨rfl,HK.out,rfl⟩
  | true =>
   replace HEQ:=am (HEQ.out.trans (if_neg (by rw [hk];decide)))
   clear hk
   by_cases hd:d >= 60
   ·have HE:Aside0 (R = .bad (atP e l) 31):=⟨by rw [HEQ.out,if_pos hd]⟩
    clear HEQ
    go_wp2_with ((
          go_at_call 62
          (with_reducible refine Calls.mono (deep_bad g l e d _ HP.out hd) ?_)
          rintro en w2 ⟨he2,hk2⟩
          subst he2
          replace HK:=am (Kept.then_ HK.out hk2)
          replace HR:=am (Kept.has hk2 HR.out (by omega))
          have hs2:=Kept.size hk2
          try simp at hs2))
    rw [HE.out]
    exact ⟨rfl,HK.out,rfl⟩
   replace HEQ:=am (HEQ.out.trans (if_neg hd))
   replace hd:d < 60:=by omega
   obtain ⟨a0,ha0⟩:∃ a,atP e l = a:=⟨_,rfl⟩
   rw [ha0] at HEQ
   have HA:=am ha0
   clear ha0
   go_upto_block 0 with (first
     | (
      go_at_call 62
      (with_reducible refine Calls.mono (deep_ok g l e d _ HP.out hd) ?_)
      rintro en w2 ⟨he2,hk2,hp2⟩
      subst he2
      replace HK:=am (Kept.then_ HK.out hk2)
      replace HR:=am (Kept.has hk2 HR.out (by omega))
      replace HP:=am hp2
      have hs2:=Kept.size hk2
      try simp at hs2)
     | (
      go_at_call 29
      (with_reducible refine Calls.mono (at_ps HP.out) ?_)
      rintro en w3 ⟨he3,hb3⟩
      rw [HA.out] at he3
      subst he3
      replace HK:=am (Kept.below HK.out hb3)
      replace HP:=am (HP.out.below hb3)
      replace HR:=am (HR.out.belowS hb3)
      have hs3:=Below.size hb3
      try simp at hs3
      have ba2:=below_alloc (Below.refl (w3).heap.size (w3)) (Obj.cells #[.int .i64 0,.int .i64 a0,.int .i64 0,.string ⟨#[]⟩,.slice none 0 0,.slice none 0 0,.int .i64 0,.string ⟨#[]⟩,.int .i64 0,.slice none 0 0] 27)
      replace HK:=am (Kept.below HK.out ba2)
      replace HP:=am (HP.out.below ba2)
      replace HR:=am (HR.out.belowS ba2)
      clear ba2
      have HX:=am (Has.new (w3) #[.int .i64 0,.int .i64 a0,.int .i64 0,.string ⟨#[]⟩,.slice none 0 0,.slice none 0 0,.int .i64 0,.string ⟨#[]⟩,.int .i64 0,.slice none 0 0] 27)))
   have hbx:w.heap.size < w3.heap.size:=by omega
   have hbg:w3.heap.size ≠ g:=by omega
   go_cut [] (fun wc => ∃ (k num:Int) (l' : List S35),Aside0 (R = (operandP e n (d + 1) op l').andThen fun x l'' => .ok (mkE k a0 num ⟨#[]⟩ [x] []) l'') /\ Aside0 (KeptG g w wc) /\ Aside0 (PS wc g l' e) /\ Aside0 (Has wc w.heap.size #[.int .i64 0,.int .i64 0,.int .i64 0,.string ⟨#[]⟩,.slice none 0 0,.slice none 0 0,.int .i64 0,.string ⟨#[]⟩,.int .i64 0,.slice none 0 0] 27) /\ Aside0 (Has wc w3.heap.size #[.int .i64 k,.int .i64 a0,.int .i64 num,.string ⟨#[]⟩,.slice none 0 0,.slice none 0 0,.int .i64 0,.string ⟨#[]⟩,.int .i64 0,.slice none 0 0] 27))
   case first =>
    cases hi:isP sMinus l with
    | true =>
     replace HEQ:=am (HEQ.out.trans (if_pos hi))
     have HI:=am hi
     clear hi
     go_wp2_with ((
           go_at_call 41
           (with_reducible refine Calls.mono (take_yes sMinus HP.out HI.out) ?_)
           rintro en w4 ⟨he4,hk4,hp4⟩
           subst he4
           replace HK:=am (Kept.then_ HK.out hk4)
           replace HR:=am (Kept.has hk4 HR.out (by omega))
           replace HX:=am (Kept.has hk4 HX.out (by omega))
           replace HP:=am hp4
           have hs4:=Kept.size hk4
           try simp at hs4
           have c5:=hci HX.out 0 rfl
           have f5:=Has.frozen HX.out 0))
     replace HK:=am (Kept.setCellX HK.out (a:=⟨w3.heap.size,0,none⟩) (.inr (by show w.heap.size <= w3.heap.size;omega)) (.int .i64 5))
     replace HP:=am (PS.setT HP.out HX.out (by decide) (by decide) 0 (.int .i64 5))
     replace HR:=am (Has.other HR.out (a:=⟨w3.heap.size,0,none⟩) (by show w.heap.size ≠ w3.heap.size;omega) (.int .i64 5))
     replace HX:Aside0 (Has (w4.setCell ⟨w3.heap.size,0,none⟩ (.int .i64 5)) (w3.heap.size) #[.int .i64 5,.int .i64 a0,.int .i64 0,.string ⟨#[]⟩,.slice none 0 0,.slice none 0 0,.int .i64 0,.string ⟨#[]⟩,.int .i64 0,.slice none 0 0] 27):=⟨by have h:=Has.set_ HX.out 0 (.int .i64 5);exact h⟩
     go_meet
     case rel=>exact ⟨5,0,_,HEQ,HK,HP,HR,HX⟩
    | false =>
     replace HEQ:=am (HEQ.out.trans (if_neg (by rw [hi];decide)))
     have HI:=am hi
     clear hi
     go_wp2_with ((
           go_at_call 41
           (with_reducible refine Calls.mono (take_no sMinus HP.out HI.out) ?_)
           rintro en w4 ⟨he4,hk4,hp4⟩
           subst he4
           replace HK:=am (Kept.then_ HK.out hk4)
           replace HR:=am (Kept.has hk4 HR.out (by omega))
           replace HX:=am (Kept.has hk4 HX.out (by omega))
           replace HP:=am hp4
           have hs4:=Kept.size hk4
           try simp at hs4))
     clear HI
     cases hi:isP sBang l with
     | true =>
      replace HEQ:=am (HEQ.out.trans (if_pos hi))
      have HI:=am hi
      clear hi
      go_wp2_with ((
            go_at_call 41
            (with_reducible refine Calls.mono (take_yes sBang HP.out HI.out) ?_)
            rintro en w5 ⟨he5,hk5,hp5⟩
            subst he5
            replace HK:=am (Kept.then_ HK.out hk5)
            replace HR:=am (Kept.has hk5 HR.out (by omega))
            replace HX:=am (Kept.has hk5 HX.out (by omega))
            replace HP:=am hp5
            have hs5:=Kept.size hk5
            try simp at hs5
            have c6:=hci HX.out 0 rfl
            have f6:=Has.frozen HX.out 0))
      replace HK:=am (Kept.setCellX HK.out (a:=⟨w3.heap.size,0,none⟩) (.inr (by show w.heap.size <= w3.heap.size;omega)) (.int .i64 6))
      replace HP:=am (PS.setT HP.out HX.out (by decide) (by decide) 0 (.int .i64 6))
      replace HR:=am (Has.other HR.out (a:=⟨w3.heap.size,0,none⟩) (by show w.heap.size ≠ w3.heap.size;omega) (.int .i64 6))
      replace HX:Aside0 (Has (w5.setCell ⟨w3.heap.size,0,none⟩ (.int .i64 6)) (w3.heap.size) #[.int .i64 6,.int .i64 a0,.int .i64 0,.string ⟨#[]⟩,.slice none 0 0,.slice none 0 0,.int .i64 0,.string ⟨#[]⟩,.int .i64 0,.slice none 0 0] 27):=⟨by have h:=Has.set_ HX.out 0 (.int .i64 6);exact h⟩
      go_meet
      case rel=>exact ⟨6,0,_,HEQ,HK,HP,HR,HX⟩
     | false =>
      replace HEQ:=am (HEQ.out.trans (if_neg (by rw [hi];decide)))
      have HI:=am hi
      clear hi
      go_wp2_with ((
            go_at_call 41
            (with_reducible refine Calls.mono (take_no sBang HP.out HI.out) ?_)
            rintro en w5 ⟨he5,hk5,hp5⟩
            subst he5
            replace HK:=am (Kept.then_ HK.out hk5)
            replace HR:=am (Kept.has hk5 HR.out (by omega))
            replace HX:=am (Kept.has hk5 HX.out (by omega))
            replace HP:=am hp5
            have hs5:=Kept.size hk5
            try simp at hs5))
      clear HI
      cases hi:isP sStar l with
      | true =>
       replace HEQ:=am (HEQ.out.trans (if_pos hi))
       have HI:=am hi
       clear hi
       go_wp2_with ((
             go_at_call 41
             (with_reducible refine Calls.mono (take_yes sStar HP.out HI.out) ?_)
             rintro en w6 ⟨he6,hk6,hp6⟩
             subst he6
             replace HK:=am (Kept.then_ HK.out hk6)
             replace HR:=am (Kept.has hk6 HR.out (by omega))
             replace HX:=am (Kept.has hk6 HX.out (by omega))
             replace HP:=am hp6
             have hs6:=Kept.size hk6
             try simp at hs6
             have c7:=hci HX.out 0 rfl
             have f7:=Has.frozen HX.out 0))
       replace HK:=am (Kept.setCellX HK.out (a:=⟨w3.heap.size,0,none⟩) (.inr (by show w.heap.size <= w3.heap.size;omega)) (.int .i64 7))
       replace HP:=am (PS.setT HP.out HX.out (by decide) (by decide) 0 (.int .i64 7))
       replace HR:=am (Has.other HR.out (a:=⟨w3.heap.size,0,none⟩) (by show w.heap.size ≠ w3.heap.size;omega) (.int .i64 7))
       replace HX:Aside0 (Has (w6.setCell ⟨w3.heap.size,0,none⟩ (.int .i64 7)) (w3.heap.size) #[.int .i64 7,.int .i64 a0,.int .i64 0,.string ⟨#[]⟩,.slice none 0 0,.slice none 0 0,.int .i64 0,.string ⟨#[]⟩,.int .i64 0,.slice none 0 0] 27):=⟨by have h:=Has.set_ HX.out 0 (.int .i64 7);exact h⟩
       go_meet
       case rel=>exact ⟨7,0,_,HEQ,HK,HP,HR,HX⟩
      | false =>
       replace HEQ:=am (HEQ.out.trans (if_neg (by rw [hi];decide)))
       have HI:=am hi
       clear hi
       go_wp2_with ((
             go_at_call 41
             (with_reducible refine Calls.mono (take_no sStar HP.out HI.out) ?_)
             rintro en w6 ⟨he6,hk6,hp6⟩
             subst he6
             replace HK:=am (Kept.then_ HK.out hk6)
             replace HR:=am (Kept.has hk6 HR.out (by omega))
             replace HX:=am (Kept.has hk6 HX.out (by omega))
             replace HP:=am hp6
             have hs6:=Kept.size hk6
             try simp at hs6))
       clear HI
       cases hi:isP sAmp l with
       | true =>
        replace HEQ:=am (HEQ.out.trans (if_pos hi))
        have HI:=am hi
        clear hi
        cases hj:isP sMut l.tail with
        | true =>
         replace HEQ:=am (HEQ.out.trans (if_pos hj))
         have HJ:=am hj
         clear hj
         go_wp2_with ((
               go_at_call 41
               (with_reducible refine Calls.mono (take_yes sAmp HP.out HI.out) ?_)
               rintro en w7 ⟨he7,hk7,hp7⟩
               subst he7
               replace HK:=am (Kept.then_ HK.out hk7)
               replace HR:=am (Kept.has hk7 HR.out (by omega))
               replace HX:=am (Kept.has hk7 HX.out (by omega))
               replace HP:=am hp7
               have hs7:=Kept.size hk7
               try simp at hs7
               have c8:=hci HX.out 0 rfl
               have f8:=Has.frozen HX.out 0))
         clear c8 f8
         replace HK:=am (Kept.setCellX HK.out (a:=⟨w3.heap.size,0,none⟩) (.inr (by show w.heap.size <= w3.heap.size;omega)) (.int .i64 8))
         replace HP:=am (PS.setT HP.out HX.out (by decide) (by decide) 0 (.int .i64 8))
         replace HR:=am (Has.other HR.out (a:=⟨w3.heap.size,0,none⟩) (by show w.heap.size ≠ w3.heap.size;omega) (.int .i64 8))
         replace HX:Aside0 (Has (w7.setCell ⟨w3.heap.size,0,none⟩ (.int .i64 8)) (w3.heap.size) #[.int .i64 8,.int .i64 a0,.int .i64 0,.string ⟨#[]⟩,.slice none 0 0,.slice none 0 0,.int .i64 0,.string ⟨#[]⟩,.int .i64 0,.slice none 0 0] 27):=⟨by have h:=Has.set_ HX.out 0 (.int .i64 8);exact h⟩
         go_wp2_with ((
               go_at_call 41
               (with_reducible refine Calls.mono (take_yes sMut HP.out HJ.out) ?_)
               rintro en w9 ⟨he9,hk9,hp9⟩
               subst he9
               replace HK:=am (Kept.then_ HK.out hk9)
               replace HR:=am (Kept.has hk9 HR.out (by omega))
               replace HX:=am (Kept.has hk9 HX.out (by omega))
               replace HP:=am hp9
               have hs9:=Kept.size hk9
               try simp at hs9
               have c10:=hci HX.out 2 rfl
               have f10:=Has.frozen HX.out 2))
         replace HK:=am (Kept.setCellX HK.out (a:=⟨w3.heap.size,2,none⟩) (.inr (by show w.heap.size <= w3.heap.size;omega)) (.int .i64 1))
         replace HP:=am (PS.setT HP.out HX.out (by decide) (by decide) 2 (.int .i64 1))
         replace HR:=am (Has.other HR.out (a:=⟨w3.heap.size,2,none⟩) (by show w.heap.size ≠ w3.heap.size;omega) (.int .i64 1))
         replace HX:Aside0 (Has (w9.setCell ⟨w3.heap.size,2,none⟩ (.int .i64 1)) (w3.heap.size) #[.int .i64 8,.int .i64 a0,.int .i64 1,.string ⟨#[]⟩,.slice none 0 0,.slice none 0 0,.int .i64 0,.string ⟨#[]⟩,.int .i64 0,.slice none 0 0] 27):=⟨by have h:=Has.set_ HX.out 2 (.int .i64 1);exact h⟩
         go_meet
         case rel=>exact ⟨8,1,_,HEQ,HK,HP,HR,HX⟩
        | false =>
         replace HEQ:=am (HEQ.out.trans (if_neg (by rw [hj];decide)))
         have HJ:=am hj
         clear hj
         go_wp2_with ((
               go_at_call 41
               (with_reducible refine Calls.mono (take_yes sAmp HP.out HI.out) ?_)
               rintro en w7 ⟨he7,hk7,hp7⟩
               subst he7
               replace HK:=am (Kept.then_ HK.out hk7)
               replace HR:=am (Kept.has hk7 HR.out (by omega))
               replace HX:=am (Kept.has hk7 HX.out (by omega))
               replace HP:=am hp7
               have hs7:=Kept.size hk7
               try simp at hs7
               have c8:=hci HX.out 0 rfl
               have f8:=Has.frozen HX.out 0))
         clear c8 f8
         replace HK:=am (Kept.setCellX HK.out (a:=⟨w3.heap.size,0,none⟩) (.inr (by show w.heap.size <= w3.heap.size;omega)) (.int .i64 8))
         replace HP:=am (PS.setT HP.out HX.out (by decide) (by decide) 0 (.int .i64 8))
         replace HR:=am (Has.other HR.out (a:=⟨w3.heap.size,0,none⟩) (by show w.heap.size ≠ w3.heap.size;omega) (.int .i64 8))
         replace HX:Aside0 (Has (w7.setCell ⟨w3.heap.size,0,none⟩ (.int .i64 8)) (w3.heap.size) #[.int .i64 8,.int .i64 a0,.int .i64 0,.string ⟨#[]⟩,.slice none 0 0,.slice none 0 0,.int .i64 0,.string ⟨#[]⟩,.int .i64 0,.slice none 0 0] 27):=⟨by have h:=Has.set_ HX.out 0 (.int .i64 8);exact h⟩
         go_wp2_with ((
               go_at_call 41
               (with_reducible refine Calls.mono (take_no sMut HP.out HJ.out) ?_)
               rintro en w9 ⟨he9,hk9,hp9⟩
               subst he9
               replace HK:=am (Kept.then_ HK.out hk9)
               replace HR:=am (Kept.has hk9 HR.out (by omega))
               replace HX:=am (Kept.has hk9 HX.out (by omega))
               replace HP:=am hp9
               have hs9:=Kept.size hk9
               try simp at hs9))
         go_meet
         case rel=>exact ⟨8,0,_,HEQ,HK,HP,HR,HX⟩
       | false =>
        replace HEQ:=am (HEQ.out.trans (if_neg (by rw [hi];decide)))
        have HI:=am hi
        clear hi
        cases hr:primaryP e n d op l with
        | out=>exact absurd (by rw [HEQ.out,hr] <;> rfl) HNE.out
        | bad a er =>
         have HRR:=am hr
         have HE:Aside0 (R = .bad a er):=⟨by rw [HEQ.out,hr] <;> rfl⟩
         clear hr HEQ
         go_wp2_with (first
           | (
            go_at_call 41
            (with_reducible refine Calls.mono (take_no sAmp HP.out HI.out) ?_)
            rintro en w7 ⟨he7,hk7,hp7⟩
            subst he7
            replace HK:=am (Kept.then_ HK.out hk7)
            replace HR:=am (Kept.has hk7 HR.out (by omega))
            replace HX:=am (Kept.has hk7 HX.out (by omega))
            replace HP:=am hp7
            have hs7:=Kept.size hk7
            try simp at hs7)
           | (
            go_at_call 79
            (with_reducible refine Calls.mono (HPP.out g e d op l _ h0 hd HP.out (by rw [HRR.out];exact PR.bad_ne _ _)) ?_)
            rintro en w8 ⟨hk8,he8⟩
            rw [HRR.out] at he8
            subst he8
            replace HK:=am (Kept.then_ HK.out hk8)
            replace HR:=am (Kept.has hk8 HR.out (by omega))
            replace HX:=am (Kept.has hk8 HX.out (by omega))
            have hs8:=Kept.size hk8
            try simp at hs8))
         rw [HE.out]
         exact ⟨rfl,HK.out,rfl⟩
        | ok x l1 =>
         have HRR:=am hr
         replace HEQ:Aside0 (R = behindP e n d x l1):=⟨by rw [HEQ.out,hr] <;> rfl⟩
         clear hr
         cases hr:behindP e n d x l1 with
         | out=>exact absurd (by rw [HEQ.out,hr]) HNE.out
         | bad a er =>
          have HRB:=am hr
          replace HEQ:=am (HEQ.out.trans hr)
          clear hr
          go_wp2_with (first
            | (
             go_at_call 41
             (with_reducible refine Calls.mono (take_no sAmp HP.out HI.out) ?_)
             rintro en w7 ⟨he7,hk7,hp7⟩
             subst he7
             replace HK:=am (Kept.then_ HK.out hk7)
             replace HR:=am (Kept.has hk7 HR.out (by omega))
             replace HX:=am (Kept.has hk7 HX.out (by omega))
             replace HP:=am hp7
             have hs7:=Kept.size hk7
             try simp at hs7)
            | (
             go_at_call 79
             (with_reducible refine Calls.mono (HPP.out g e d op l _ h0 hd HP.out (by rw [HRR.out];exact PR.ok_ne _ _)) ?_)
             rintro en w8 ⟨hk8,he8⟩
             rw [HRR.out] at he8
             obtain ⟨v8,rfl,hv8,hp8⟩:=he8
             have HV:=am hv8
             replace HK:=am (Kept.then_ HK.out hk8)
             replace HR:=am (Kept.has hk8 HR.out (by omega))
             replace HX:=am (Kept.has hk8 HX.out (by omega))
             replace HP:=am hp8
             have hs8:=Kept.size hk8
             try simp at hs8)
            | (
             go_at_call 78
             (with_reducible refine Calls.mono (HBB.out g e d x v8 w7.heap.size l1 _ h0 hd HP.out HV.out (by omega) (by rw [HRB.out];exact PR.bad_ne _ _)) ?_)
             rintro en w9 ⟨hk9,he9⟩
             rw [HRB.out] at he9
             subst he9
             replace HK:=am (Kept.then_ HK.out hk9)
             replace HR:=am (Kept.has hk9 HR.out (by omega))
             replace HX:=am (Kept.has hk9 HX.out (by omega))
             have hs9:=Kept.size hk9
             try simp at hs9))
          rw [HEQ.out]
          exact ⟨rfl,HK.out,rfl⟩
         | ok y l2 =>
          have HRB:=am hr
          replace HEQ:=am (HEQ.out.trans hr)
          clear hr
          go_wp2_with (first
            | (
             go_at_call 41
             (with_reducible refine Calls.mono (take_no sAmp HP.out HI.out) ?_)
             rintro en w7 ⟨he7,hk7,hp7⟩
             subst he7
             replace HK:=am (Kept.then_ HK.out hk7)
             replace HR:=am (Kept.has hk7 HR.out (by omega))
             replace HX:=am (Kept.has hk7 HX.out (by omega))
             replace HP:=am hp7
             have hs7:=Kept.size hk7
             try simp at hs7)
            | (
             go_at_call 79
             (with_reducible refine Calls.mono (HPP.out g e d op l _ h0 hd HP.out (by rw [HRR.out];exact PR.ok_ne _ _)) ?_)
             rintro en w8 ⟨hk8,he8⟩
             rw [HRR.out] at he8
             obtain ⟨v8,rfl,hv8,hp8⟩:=he8
             have HV:=am hv8
             replace HK:=am (Kept.then_ HK.out hk8)
             replace HR:=am (Kept.has hk8 HR.out (by omega))
             replace HX:=am (Kept.has hk8 HX.out (by omega))
             replace HP:=am hp8
             have hs8:=Kept.size hk8
             try simp at hs8)
            | (
             go_at_call 78
             (with_reducible refine Calls.mono (HBB.out g e d x v8 w7.heap.size l1 _ h0 hd HP.out HV.out (by omega) (by rw [HRB.out];exact PR.ok_ne _ _)) ?_)
             rintro en w9 ⟨hk9,he9⟩
             rw [HRB.out] at he9
             obtain ⟨v9,rfl,hv9,hp9⟩:=he9
             obtain ⟨a4,ac4,a5,ac5,a9,ac9,rfl⟩:=VO.form hv9
             have HV:=am hv9
             replace HK:=am (Kept.then_ HK.out hk9)
             replace HR:=am (Kept.has hk9 HR.out (by omega))
             replace HX:=am (Kept.has hk9 HX.out (by omega))
             replace HP:=am hp9
             have hs9:=Kept.size hk9
             try simp at hs9)
            | (
             (with_reducible refine gate_store (t:=27) (p:=6) rfl ?_)
             go_must (refine store_event (t:=27) (p:=6) (v:=.tmp 37) (w1:=w9.setRow w.heap.size #[.int .i64 y.f0,.int .i64 y.f1,.int .i64 y.f2,.string y.f3,.slice a4 y.f4.length ac4,.slice a5 y.f5.length ac5,.int .i64 y.f6.f0,.string y.f6.f1,.int .i64 y.f6.f2,.slice a9 y.f6.f3.length ac9]) ?hg ?ho ?hn ?hr ?_;(case ho=>rfl);(case hg=>rfl);(case hn=>rfl);(case hr=>exact store27 w9 _ _ _ HR.out rfl rfl (by first | kernel_rfl | (simp [Value.oneCell'])) _ _ _ _ rfl rfl rfl);intro w77 hw77;subst hw77)))
          replace HK:=am (kept_rowX HK.out (g:=w.heap.size) (.inr (by show w.heap.size <= w.heap.size;omega)) #[.int .i64 y.f0,.int .i64 y.f1,.int .i64 y.f2,.string y.f3,.slice a4 y.f4.length ac4,.slice a5 y.f5.length ac5,.int .i64 y.f6.f0,.string y.f6.f1,.int .i64 y.f6.f2,.slice a9 y.f6.f3.length ac9])
          replace HP:=am (PS.rowP HP.out HR.out #[.int .i64 y.f0,.int .i64 y.f1,.int .i64 y.f2,.string y.f3,.slice a4 y.f4.length ac4,.slice a5 y.f5.length ac5,.int .i64 y.f6.f0,.string y.f6.f1,.int .i64 y.f6.f2,.slice a9 y.f6.f3.length ac9])
          replace HX:=am (has_row_other HX.out (g:=w.heap.size) (cs':=#[.int .i64 y.f0,.int .i64 y.f1,.int .i64 y.f2,.string y.f3,.slice a4 y.f4.length ac4,.slice a5 y.f5.length ac5,.int .i64 y.f6.f0,.string y.f6.f1,.int .i64 y.f6.f2,.slice a9 y.f6.f3.length ac9]) (by omega))
          replace HV:=am (VO.rowO HV.out (g:=w.heap.size) (fun kk h1 h2=>by omega) #[.int .i64 y.f0,.int .i64 y.f1,.int .i64 y.f2,.string y.f3,.slice a4 y.f4.length ac4,.slice a5 y.f5.length ac5,.int .i64 y.f6.f0,.string y.f6.f1,.int .i64 y.f6.f2,.slice a9 y.f6.f3.length ac9])
          replace HR:=am (has_row HR.out #[.int .i64 y.f0,.int .i64 y.f1,.int .i64 y.f2,.string y.f3,.slice a4 y.f4.length ac4,.slice a5 y.f5.length ac5,.int .i64 y.f6.f0,.string y.f6.f1,.int .i64 y.f6.f2,.slice a9 y.f6.f3.length ac9])
          refine bodyPost_ret (results_cell_row rfl _ _ w.heap.size 27 #[.int .i64 y.f0,.int .i64 y.f1,.int .i64 y.f2,.string y.f3,.slice a4 y.f4.length ac4,.slice a5 y.f5.length ac5,.int .i64 y.f6.f0,.string y.f6.f1,.int .i64 y.f6.f2,.slice a9 y.f6.f3.length ac9] (0,0) _ rfl HR.out Tryd.underlying27 rfl (by rfl)) rfl ?_
          rw [HEQ.out]
          exact ⟨HK.out,_,rfl,HV.out.lower (by omega),HP.out⟩
   case rest =>
    clear HK HP HR HX HEQ
    obtain ⟨k,num,l',HEQ,HK,HP,HR,HX⟩:=hcut
    have hsx:=HX.out.lt
    cases hr:operandP e n (d + 1) op l' with
    | out=>exact absurd (by rw [HEQ.out,hr] <;> rfl) HNE.out
    | bad a er =>
     have HRR:=am hr
     have HE:Aside0 (R = .bad a er):=⟨by rw [HEQ.out,hr] <;> rfl⟩
     clear hr HEQ
     go_wp2_with ((
           go_at_call 70
           (with_reducible refine Calls.mono (HOO.out g e (d + 1) op l' _ (by omega) (by omega) HP.out (by rw [HRR.out];exact PR.bad_ne _ _)) ?_)
           rintro en w4 ⟨hk4,he4⟩
           rw [HRR.out] at he4
           subst he4
           replace HK:=am (Kept.then_ HK.out hk4)
           replace HR:=am (Kept.has hk4 HR.out (by omega))
           replace HX:=am (Kept.has hk4 HX.out (by omega))
           have hs4:=Kept.size hk4
           try simp at hs4))
     rw [HE.out]
     exact ⟨rfl,HK.out,rfl⟩
    | ok x l2 =>
     have HRR:=am hr
     have HE:Aside0 (R = .ok (mkE k a0 num ⟨#[]⟩ [x] []) l2):=⟨by rw [HEQ.out,hr] <;> rfl⟩
     clear hr HEQ
     go_wp2_with (first
       | (
        go_at_call 70
        (with_reducible refine Calls.mono (HOO.out g e (d + 1) op l' _ (by omega) (by omega) HP.out (by rw [HRR.out];exact PR.ok_ne _ _)) ?_)
        rintro en w4 ⟨hk4,he4⟩
        rw [HRR.out] at he4
        obtain ⟨v4,rfl,hv4,hp4⟩:=he4
        obtain ⟨a4,ac4,a5,ac5,a9,ac9,rfl⟩:=VO.form hv4
        have HV:=am hv4
        replace HK:=am (Kept.then_ HK.out hk4)
        replace HR:=am (Kept.has hk4 HR.out (by omega))
        replace HX:=am (Kept.has hk4 HX.out (by omega))
        replace HP:=am hp4
        have hs4:=Kept.size hk4
        try simp at hs4
        have HKID:=am (kidA HV.out (by omega))
        have ba3:=below_alloc (Below.refl (w4).heap.size (w4)) (Obj.cells #[.int .i64 x.f0,.int .i64 x.f1,.int .i64 x.f2,.string x.f3,.slice a4 x.f4.length ac4,.slice a5 x.f5.length ac5,.int .i64 x.f6.f0,.string x.f6.f1,.int .i64 x.f6.f2,.slice a9 x.f6.f3.length ac9] 27)
        replace HK:=am (Kept.below HK.out ba3)
        replace HP:=am (HP.out.below ba3)
        replace HR:=am (HR.out.belowS ba3)
        replace HX:=am (HX.out.belowS ba3)
        replace HV:=am (HV.out.below ba3)
        clear ba3
        have c5:=hci HX.out 4 rfl
        have f5:=Has.frozen HX.out 4)
       | (
        (with_reducible refine gate_dst (N:=64) rfl ?_)
        clear c5 f5
        replace HK:=am (Kept.setCellX HK.out (a:=⟨w3.heap.size,4,none⟩) (.inr (by show w.heap.size <= w3.heap.size;omega)) (.slice (some ⟨w4.heap.size,0,none⟩) 1 1))
        replace HP:=am (PS.setT HP.out HX.out (by decide) (by decide) 4 (.slice (some ⟨w4.heap.size,0,none⟩) 1 1))
        replace HR:=am (Has.other HR.out (a:=⟨w3.heap.size,4,none⟩) (by show w.heap.size ≠ w3.heap.size;omega) (.slice (some ⟨w4.heap.size,0,none⟩) 1 1))
        replace HV:=am (VO.setO HV.out (a:=⟨w3.heap.size,4,none⟩) (fun kk h1 h2=>by show kk ≠ w3.heap.size;omega) (.slice (some ⟨w4.heap.size,0,none⟩) 1 1))
        replace HKID:=am (R_far HKID.out (fun kk h1 _=>Below.heap_setCell _ ⟨w3.heap.size,4,none⟩ (.slice (some ⟨w4.heap.size,0,none⟩) 1 1) kk (by show kk ≠ w3.heap.size;omega)))
        replace HX:Aside0 (Has (((w4.alloc (Obj.cells #[.int .i64 x.f0,.int .i64 x.f1,.int .i64 x.f2,.string x.f3,.slice a4 x.f4.length ac4,.slice a5 x.f5.length ac5,.int .i64 x.f6.f0,.string x.f6.f1,.int .i64 x.f6.f2,.slice a9 x.f6.f3.length ac9] 27))).setCell ⟨w3.heap.size,4,none⟩ (.slice (some ⟨w4.heap.size,0,none⟩) 1 1)) (w3.heap.size) #[.int .i64 k,.int .i64 a0,.int .i64 num,.string ⟨#[]⟩,.slice (some ⟨w4.heap.size,0,none⟩) 1 1,.slice none 0 0,.int .i64 0,.string ⟨#[]⟩,.int .i64 0,.slice none 0 0] 27):=⟨by have h:=Has.set_ HX.out 4 (.slice (some ⟨w4.heap.size,0,none⟩) 1 1);exact h⟩
        obtain ⟨w9,hw9⟩:∃ W,(((w4.alloc (Obj.cells #[.int .i64 x.f0,.int .i64 x.f1,.int .i64 x.f2,.string x.f3,.slice a4 x.f4.length ac4,.slice a5 x.f5.length ac5,.int .i64 x.f6.f0,.string x.f6.f1,.int .i64 x.f6.f2,.slice a9 x.f6.f3.length ac9] 27))).setCell ⟨w3.heap.size,4,none⟩ (.slice (some ⟨w4.heap.size,0,none⟩) 1 1)) = W:=⟨_,rfl⟩
        rw [hw9] at HK HP HR HX HV HKID ⊢
        clear hw9
        go_must (refine Kd.event_run rfl (load27 w9 (w3.heap.size) #[.int .i64 k,.int .i64 a0,.int .i64 num,.string ⟨#[]⟩,.slice (some ⟨w4.heap.size,0,none⟩) 1 1,.slice none 0 0,.int .i64 0,.string ⟨#[]⟩,.int .i64 0,.slice none 0 0] HX.out rfl _ _ _ rfl rfl) ?_))
       | (
        (with_reducible refine gate_store (t:=27) (p:=6) rfl ?_)
        go_must (refine store_event (t:=27) (p:=6) (v:=.tmp 64) (w1:=w9.setRow w.heap.size #[.int .i64 k,.int .i64 a0,.int .i64 num,.string ⟨#[]⟩,.slice (some ⟨w4.heap.size,0,none⟩) 1 1,.slice none 0 0,.int .i64 0,.string ⟨#[]⟩,.int .i64 0,.slice none 0 0]) ?hg ?ho ?hn ?hr ?_;(case ho=>rfl);(case hg=>rfl);(case hn=>rfl);(case hr=>exact store27 w9 _ _ _ HR.out rfl rfl (by first | kernel_rfl | (simp [Value.oneCell'])) _ _ _ _ rfl rfl rfl);intro w77 hw77;subst hw77)))
     replace HK:=am (kept_rowX HK.out (g:=w.heap.size) (.inr (by show w.heap.size <= w.heap.size;omega)) #[.int .i64 k,.int .i64 a0,.int .i64 num,.string ⟨#[]⟩,.slice (some ⟨w4.heap.size,0,none⟩) 1 1,.slice none 0 0,.int .i64 0,.string ⟨#[]⟩,.int .i64 0,.slice none 0 0])
     replace HP:=am (PS.rowP HP.out HR.out #[.int .i64 k,.int .i64 a0,.int .i64 num,.string ⟨#[]⟩,.slice (some ⟨w4.heap.size,0,none⟩) 1 1,.slice none 0 0,.int .i64 0,.string ⟨#[]⟩,.int .i64 0,.slice none 0 0])
     replace HX:=am (has_row_other HX.out (g:=w.heap.size) (cs':=#[.int .i64 k,.int .i64 a0,.int .i64 num,.string ⟨#[]⟩,.slice (some ⟨w4.heap.size,0,none⟩) 1 1,.slice none 0 0,.int .i64 0,.string ⟨#[]⟩,.int .i64 0,.slice none 0 0]) (by omega))
     replace HV:=am (VO.rowO HV.out (g:=w.heap.size) (fun kk h1 h2=>by omega) #[.int .i64 k,.int .i64 a0,.int .i64 num,.string ⟨#[]⟩,.slice (some ⟨w4.heap.size,0,none⟩) 1 1,.slice none 0 0,.int .i64 0,.string ⟨#[]⟩,.int .i64 0,.slice none 0 0])
     replace HKID:=am (R_far HKID.out (fun kk h1 _=>row_block _ (w.heap.size) kk #[.int .i64 k,.int .i64 a0,.int .i64 num,.string ⟨#[]⟩,.slice (some ⟨w4.heap.size,0,none⟩) 1 1,.slice none 0 0,.int .i64 0,.string ⟨#[]⟩,.int .i64 0,.slice none 0 0] (by omega)))
     replace HR:=am (has_row HR.out #[.int .i64 k,.int .i64 a0,.int .i64 num,.string ⟨#[]⟩,.slice (some ⟨w4.heap.size,0,none⟩) 1 1,.slice none 0 0,.int .i64 0,.string ⟨#[]⟩,.int .i64 0,.slice none 0 0])
     refine bodyPost_ret (results_cell_row rfl _ _ w.heap.size 27 #[.int .i64 k,.int .i64 a0,.int .i64 num,.string ⟨#[]⟩,.slice (some ⟨w4.heap.size,0,none⟩) 1 1,.slice none 0 0,.int .i64 0,.string ⟨#[]⟩,.int .i64 0,.slice none 0 0] (0,0) _ rfl HR.out Tryd.underlying27 rfl (by rfl)) rfl ?_
     rw [HE.out]
     exact ⟨HK.out,_,rfl,VO.node k a0 num ⟨#[]⟩ (Kd.R_lower HKID.out (by omega)),HP.out⟩
end Go.Proofs.YtngpgdmafmkddaaDoor.Par
end
