/- Steps toward the laws of the parser (B), merged from several texts (some of them began as the kit's print). No condition. -/
import Derived.Lib.SliceRun
import Derived.Maps.OwnSet
import Derived.Test.YtngpgdmafmkddaaDoorZB2
section
namespace Go.Proofs.YtngpgdmafmkddaaDoor.Lex
open Go.Proofs.YtngpgdmafmkddaaDoor.Calm Go.Proofs.YtngpgdmafmkddaaDoor.Par Go.RowKit Go.Proofs.YtngpgdmafmkddaaDoorW.PrintWords Go.Proofs.YtngpgdmafmkddaaDoorW.PrintLast Go.Proofs.YtngpgdmafmkddaaDoorW.PrintMore
open Go.Proofs.YtngpgdmafmkddaaDoor.PParseBlanks (S35 S25 S27 k35 k25 k27 rd_T35 rd_T25 rd_T27 at_T35 at_T25 at_T27)
set_option linter.unusedVariables false
set_option linter.unusedSimpArgs false
open Go.Maps Go.WideMaps
set_option maxRecDepth 100000 in
theorem bool_back {v:Value} {x:Bool} {ps:List MemPlace} (h:E4 v = some (.lit (.bool x),ps)):v = .bool x:=by
 simp only [E4,plainElem,Tryd.underlying4] at h
 cases v <;> simp at h
 rw [h.1]
theorem look_word {w:World} {b:Nat} (h:w.ownsMap Tryd.prog 9 E4 b 17 (wdD wordL)) (t:ByteArray) (ht:t.size <= maxLen):(Instr.lookup 62 (.map (some b)) (.string t) false).run Tryd.prog w = .ok (.bool (wordB t.data.toList)) w:=by
 obtain ⟨v,ps,hrun,hv⟩:=World.ownsMap.lookup h law9 Tryd.underlying62 (z:=.bool false) (by kernel_rfl) (zd:=.lit (.bool false)) (zp:=[]) (plainElem_bool Tryd.underlying4 false) (keyOf_string_mk Tryd.underlying9 ht)
 rw [wd_at] at hv
 rw [hrun,bool_back hv]
theorem own_kept {w w' : World} {m b n:Nat} {D:DataW Unit} (h:w.ownsMap Tryd.prog 9 E4 b n D) (hk:Par.Kept (fun k=>k = m) w w') (hn:b ≠ m):w'.ownsMap Tryd.prog 9 E4 b n D:=
 h.kept (row:=some m) ⟨hk.os,hk.tape,hk.output,hk.size,fun k h1 h2=>hk.block k h1 fun e=>h2 (by rw [e])⟩ fun e=>hn (Option.some.inj e)
theorem own_below {w w' : World} {b n:Nat} {D:DataW Unit} (h:w.ownsMap Tryd.prog 9 E4 b n D) (hb:Below w.heap.size w w'):w'.ownsMap Tryd.prog 9 E4 b n D:=
 h.kept (row:=none) ⟨hb.os,hb.tape,hb.output,hb.size,fun k h1 _=>hb.block k h1⟩ (by simp)
theorem i35:(Tryd.prog.info? 35).map (·.size) = some 3:=by kernel_rfl
theorem store35 (W:World) (g:Nat) (old c:Array Value) (hg:Has W g old 35) (ho:old.size = 3) (hs:c.size = 3) (h1:c.all (·.oneCell') = true) (a:Act) (o:Oper) (x y:Operand) (h:o.op = .store 35 x y) (hx:a.eval x = .pointer (some ⟨g,0,none⟩)) (hy:a.eval y = .agg c) :
  (execOp a.eval o).run Tryd.prog W = .ok .skip (W.setRow g c):=by
 have hst:=run_storeVar_row (P:=Tryd.prog) W g 35 35 old c hg (by rw [hs];exact i35) (by rw [ho,hs]) h1
 unfold execOp
 simp only [h,hx,hy,Instr.storeAt,Instr.sureAddr,Sem.run_bind,Sem.run_pure,Result.andThen_ok,hst]
theorem load35 (W:World) (g:Nat) (c:Array Value) (hg:Has W g c 35) (hs:c.size = 3) (a:Act) (o:Oper) (x:Operand) (h:o.op = .load 35 x) (hx:a.eval x = .pointer (some ⟨g,0,none⟩)) :
  (execOp a.eval o).run Tryd.prog W = .ok (.value (.agg c)) W:=by
 have hld:=run_loadVar_row (P:=Tryd.prog) W g 35 35 c (0,0) _ hg Tryd.underlying35 (by first | rfl | simp) (by rw [hs];exact i35)
 unfold execOp
 simp only [h,hx,Instr.loadAt,Instr.sureAddr,Sem.run_bind,Sem.run_pure,Result.andThen_ok,hld]
def nextN (l:List UInt8):Int × Nat × Int:=
 if spanL isPartB l = 0 then (if signN l = 0 then (4,0,20) else (4,signN l,0))
 else if isDig ((l.headD 0).toNat:Int) = true then (if (numP ⟨(l.take (spanL isPartB l)).toArray⟩).2.2 = 0 then (2,spanL isPartB l,0) else (2,0,(numP ⟨(l.take (spanL isPartB l)).toArray⟩).2.2))
 else if spanL isPartB l > 40 then (4,0,20)
 else if wordB (l.take (spanL isPartB l)) = true then (3,spanL isPartB l,0) else (1,spanL isPartB l,0)
theorem ext_take (s:ByteArray) (a n:Nat) (h:a + n <= s.size):s.extract a (a + n) = ⟨((fromN s a).take n).toArray⟩:=by
 apply ByteArray.ext
 apply Array.toList_inj.1
 rw [ByteArray.data_extract,Array.toList_extract,List.extract_eq_take_drop]
 simp
theorem dig_said (c:Int) (w:World):Calls Tryd.prog 37 #[.int .u8 c] w fun e w' => e = .returned (.bool (isDig c)) /\ Below w.heap.size w w' :=
 (PParseBlanks.lex_isDigit.calls c _ w (dig_f c)).mono fun e w' h=>⟨h.1,Drawn0.below h.2⟩
theorem sign_le (l:List UInt8):signN l <= l.length:=by
 unfold signN
 split
 ·rename_i h
  obtain ⟨p,hp,h2⟩:=List.any_eq_true.1 h
  have h3:=(List.isPrefixOf_iff_prefix.1 h2).length_le
  have h4:(twoSigns.all fun p=>p.length == 2) = true:=by kernel_rfl
  have h5:=List.all_eq_true.1 h4 p hp
  have h6:p.length = 2:=by simpa using h5
  omega
 ·cases l with
  | nil=>simp
  | cons b r =>
   simp only [List.length_cons]
   split <;> omega
def NPost (m:Nat) (s:ByteArray) (a:Nat) (mp:Value) (w:World) (en:Ending) (w' : World):Prop:=
 Par.Kept (fun b=>b = m) w w' /\ (if (nextN (fromN s a)).2.1 = 0 then ∃ k,en = .returned (.tuple #[.agg #[.int .i64 k,.string ⟨#[]⟩,.int .i64 (a:Int)],.int .i64 (nextN (fromN s a)).2.2]) /\ Has w' m (lxC s a mp) 65
  else en = .returned (.tuple #[.agg #[.int .i64 (nextN (fromN s a)).1,.string (s.extract a (a + (nextN (fromN s a)).2.1)),.int .i64 (a:Int)],.int .i64 0]) /\ Has w' m (lxC s (a + (nextN (fromN s a)).2.1:Nat) mp) 65 /\ a + (nextN (fromN s a)).2.1 <= s.size)
set_option maxRecDepth 100000 in
set_option maxHeartbeats 4000000 in
theorem next_said (m:Nat) (s:ByteArray) (a wb:Nat) (w:World) (H:Has w m (lxC s a (.map (some wb))) 65) (HM:w.ownsMap Tryd.prog 9 E4 wb 17 (wdD wordL)) (hwm:wb ≠ m) (ha:a < s.size) (hs:s.size < 4611686018427387904) :
  Calls Tryd.prog 23 #[.pointer (some ⟨m,0,none⟩)] w (NPost m s a (.map (some wb)) w):=by
 have hu35:=Tryd.underlying35
 have hml:=H.lt
 obtain ⟨mp,hmp⟩:∃ mp,Value.map (some wb) = mp:=⟨_,rfl⟩
 have HMP:=am hmp
 rw [hmp] at H ⊢
 clear hmp
 have b1:=below_alloc (Below.refl w.heap.size w) (Obj.cells #[.int .i64 0,.string ⟨#[]⟩,.int .i64 0] 35)
 have HH:=am (H.belowS b1)
 have HM:=am (own_below HM b1)
 have HR:=am (Has.new w #[.int .i64 0,.string ⟨#[]⟩,.int .i64 0] 35)
 have HK:=am (Par.Kept.of_below (S:=fun b=>b = m) b1)
 clear H b1
 obtain ⟨n,hn⟩:∃ n,spanL isPartB (fromN s a) = n:=⟨_,rfl⟩
 have hle:n <= s.size - a:=by rw [<- hn, <- from_len];exact spanL_le _
 have HN:=am hn
 clear hn
 have kwn:IntKind.i64.wrap ((a:Int) + (n:Int)) = (a:Int) + (n:Int):=IntWalk.i64_in _ (by omega)
 obtain ⟨b0,e0,hb0⟩:=bt_get ha
 have HG:Aside0 (s[a]'ha = b0):=⟨by
  unfold bt at hb0
  rw [dif_pos (show (a:Int).toNat < s.size by simpa using ha)] at hb0
  exact UInt8.toNat_inj.1 (Int.ofNat.inj hb0)⟩
 have HE0:=am e0
 clear hb0 e0
 go_enter Tryd.func23,Tryd.ntmps23
 go_upto_block 0 with (
  go_at_call 31
  (with_reducible refine Calls.mono (span_said 35 isPartB part_pred m s a mp _ HH.out (by omega) hs) ?_)
  rintro en w1 ⟨he,hb⟩
  rw [HN.out] at he
  subst he
  replace HH:=am (HH.out.belowS hb)
  replace HM:=am (own_below HM.out hb)
  replace HR:=am (HR.out.belowS hb)
  replace HK:=am (HK.out.below hb)
  have hs1:=hb.size
  try simp at hs1
  have b2:=below_alloc (Below.refl w1.heap.size w1) (Obj.cells #[.int .i64 4,.string ⟨#[]⟩,.int .i64 (a:Int)] 35)
  have HT:=am (Has.new w1 #[.int .i64 4,.string ⟨#[]⟩,.int .i64 (a:Int)] 35)
  have c1:=hci HH.out 1 rfl
  replace HH:=am (HH.out.belowS b2)
  replace HM:=am (own_below HM.out b2)
  replace HR:=am (HR.out.belowS b2)
  replace HK:=am (HK.out.below b2)
  clear b2)
 clear c1
 go_cut [4] (fun v4 wc => ∃ (k:Int) (n' : Nat),v4 = .int .i64 (n' : Int) /\ Aside0 (Par.Kept (fun b=>b = m) w wc) /\ Aside0 (Has wc m (lxC s a mp) 65) /\ Aside0 (Has wc w.heap.size #[.int .i64 0,.string ⟨#[]⟩,.int .i64 0] 35) /\ Aside0 (Has wc w1.heap.size #[.int .i64 k,.string ⟨#[]⟩,.int .i64 (a:Int)] 35) /\ Aside0 (nextN (fromN s a) = if n' = 0 then ((nextN (fromN s a)).1,0,20) else (k,n',0)) /\ Aside0 (a + n' <= s.size))
 case first =>
  by_cases hz:n = 0
  ·have kz:((n:Int) == 0) = true:=by simp [hz]
   have hnx:nextN (fromN s a) = if signN (fromN s a) = 0 then (4,0,20) else (4,signN (fromN s a),0):=by
    unfold nextN
    rw [HN.out,if_pos hz]
   have HNX:=am hnx
   have HSL:=am (sign_le (fromN s a))
   clear hnx hz
   go_wp2_with (
     go_at_call 36
     (with_reducible refine Calls.mono (sign_said m s a mp _ HH.out ha hs) ?_)
     rintro en w2 ⟨rfl,hb2⟩
     replace HH:=am (HH.out.belowS hb2)
     replace HR:=am (HR.out.belowS hb2)
     replace HT:=am (HT.out.belowS hb2)
     replace HK:=am (HK.out.below hb2))
   go_meet
   case rel =>
    refine ⟨4,signN (fromN s a),rfl,HK,HH,HR,HT,⟨?_⟩,⟨?_⟩⟩
    ·rw [HNX.out]
     by_cases h0:signN (fromN s a) = 0 <;> simp [h0]
    ·have h1:=HSL.out
     rw [from_len] at h1
     omega
  ·have kz:((n:Int) == 0) = false:=by simp;omega
   go_upto_region 6 with (fail)
   have hD:=below_drew (Below.refl ((w1.alloc (Obj.cells #[.int .i64 4,.string ⟨#[]⟩,.int .i64 (a:Int)] 35))).heap.size ((w1.alloc (Obj.cells #[.int .i64 4,.string ⟨#[]⟩,.int .i64 (a:Int)] 35))))
   replace HH:=am (HH.out.belowS hD)
   replace HM:=am (own_below HM.out hD)
   replace HR:=am (HR.out.belowS hD)
   replace HT:=am (HT.out.belowS hD)
   replace HK:=am (HK.out.below hD)
   clear hD
   obtain ⟨W2,hW⟩:∃ W,((w1.alloc (Obj.cells #[.int .i64 4,.string ⟨#[]⟩,.int .i64 (a:Int)] 35))).drew = W:=⟨_,rfl⟩
   rw [hW] at HH HM HR HT HK
   refine region_treeQ (by kernel_rfl) (fun w' => Has w' m (lxC s a mp) 65) (hW ▸ HH.out) fun hS => ?_
   rw [hW] at hS ⊢
   clear hW
   generalize hQQ:Exit.then _ _ = QQ
   have hsure:Sure QQ:=by
    rw [<- hQQ]
    intro c a a' w1 hd h
    simp +zetaDelta only [Exit.then,Exit.inBlock,bodyPost] at h ⊢
    first | (simp at h;done) | simpa [hd] using h
   have hg:=HG.out
   have hai:(a:Int) < (s.size:Int):=by omega
   refine tqh hsure hS 0 ?_
   apply Exists.intro
   apply And.intro
   ·rintro w' k1
    apply VR.mk
    go_simp
    with_reducible rfl
   simp only [sA,sB,sC]
   refine tqh hsure hS 1 ?_
   apply Exists.intro
   apply And.intro
   ·rintro w' k1
    apply VR.mk
    go_simp
    with_reducible rfl
   simp only [sA,sB,sC]
   refine tqh hsure hS 2 ?_
   apply Exists.intro
   apply And.intro
   ·rintro w' k1
    apply VR.mk
    go_simp
    with_reducible rfl
   simp only [sA,sB,sC]
   refine tqh hsure hS 3 ?_
   apply Exists.intro
   apply And.intro
   ·rintro w' k1
    have cc0:=hci k1 0 rfl
    apply VR.mk
    go_simp
    with_reducible rfl
   simp only [sA,sB,sC]
   refine tqh hsure hS 4 ?_
   apply Exists.intro
   apply And.intro
   ·rintro w' k1
    apply VR.mk
    go_simp
    with_reducible rfl
   simp only [sA,sB,sC]
   refine tqh hsure hS 5 ?_
   apply Exists.intro
   apply And.intro
   ·rintro w' k1
    apply VR.mk
    go_simp
    with_reducible rfl
   simp only [sA,sB,sC]
   refine tqh hsure hS 6 ?_
   apply Exists.intro
   apply And.intro
   ·rintro w' k1
    apply VR.mk
    go_simp
    with_reducible rfl
   simp only [sA,sB,sC]
   refine tqh hsure hS 7 ?_
   apply Exists.intro
   apply And.intro
   ·rintro w' k1
    have cc0:=hci k1 1 rfl
    apply VR.mk
    go_simp
    with_reducible rfl
   simp only [sA,sB,sC]
   refine tqh hsure hS 8 ?_
   apply Exists.intro
   apply And.intro
   ·rintro w' k1
    apply VR.mk
    go_simp
    with_reducible rfl
   simp only [sA,sB,sC]
   refine tree_1Q (i:=9) (by kernel_rfl) ?_
   refine step_callQ (by rfl) (by rfl) (by rfl) (ER_go (by go_simp;first | with_reducible exact ⟨rfl,rfl⟩ | with_reducible rfl)) ?_
   refine (dig_said _ W2).mono ?_
   rintro en w3 ⟨rfl,hb3⟩
   refine .inl ⟨_,rfl,hS.belowS hb3, ?_⟩
   simp only [sA,sB,sC]
   refine treeQ_h hsure (hS.belowS hb3) (i:=10) (by kernel_rfl) (by rfl) (by rfl) (by kernel_rfl) (by rfl) ?_
   apply Exists.intro
   apply And.intro
   ·rintro w' k1
    apply VR.mk
    go_simp
    with_reducible rfl
   simp only [sA,sB,sC]
   refine tree_endQ (by kernel_rfl) ?_
   rw [<- hQQ]
   clear hsure hQQ hS hg hai
   replace HH:=am (HH.out.belowS hb3)
   replace HM:=am (own_below HM.out hb3)
   replace HR:=am (HR.out.belowS hb3)
   replace HT:=am (HT.out.belowS hb3)
   replace HK:=am (HK.out.below hb3)
   clear hb3
   have hhd:(fromN s a).headD 0 = b0:=by rw [HE0.out];rfl
   cases hd:isDig (b0.toNat:Int) with
   | true =>
    have hnx:nextN (fromN s a) = if (numP (s.extract a (a + n))).2.2 = 0 then (2,n,0) else (2,0,(numP (s.extract a (a + n))).2.2):=by
     unfold nextN
     rw [HN.out,if_neg hz,hhd,if_pos hd, <- ext_take s a n (by omega)]
    have HNX:=am hnx
    clear hnx hd
    have c3:=hci HT.out 0 rfl
    have f3:=HT.out.frozen 0
    go_upto_region 8 with (fail)
    clear c3 f3
    have hx:Has (w3.setCell ⟨w1.heap.size,0,none⟩ (.int .i64 2)) w1.heap.size #[.int .i64 2,.string ⟨#[]⟩,.int .i64 (a:Int)] 35:=HT.out.set_ 0 _
    have hl1:=HH.out.lt
    replace HH:=am (HH.out.other (a:=⟨w1.heap.size,0,none⟩) (by show _ ≠ w1.heap.size;omega) (.int .i64 2))
    replace HR:=am (HR.out.other (a:=⟨w1.heap.size,0,none⟩) (by show _ ≠ w1.heap.size;omega) (.int .i64 2))
    replace HK:=am (HK.out.setCellG (a:=⟨w1.heap.size,0,none⟩) (by show w.heap.size <= w1.heap.size;omega) (.int .i64 2))
    replace HT:=am hx
    clear hx
    have hD:=below_drew (Below.refl (w3.setCell ⟨w1.heap.size,0,none⟩ (.int .i64 2)).heap.size (w3.setCell ⟨w1.heap.size,0,none⟩ (.int .i64 2)))
    replace HH:=am (HH.out.belowS hD)
    replace HR:=am (HR.out.belowS hD)
    replace HT:=am (HT.out.belowS hD)
    replace HK:=am (HK.out.below hD)
    clear hD
    obtain ⟨W4,hW⟩:∃ W,(w3.setCell ⟨w1.heap.size,0,none⟩ (.int .i64 2)).drew = W:=⟨_,rfl⟩
    rw [hW] at HH HR HT HK
    refine region_treeQ (by kernel_rfl) (fun w' => Has w' m (lxC s a mp) 65) (hW ▸ HH.out) fun hS => ?_
    rw [hW] at hS ⊢
    clear hW
    generalize hQQ:Exit.then _ _ = QQ
    have hsure:Sure QQ:=by
     rw [<- hQQ]
     intro c a a' w1 hd h
     simp +zetaDelta only [Exit.then,Exit.inBlock,bodyPost] at h ⊢
     first | (simp at h;done) | simpa [hd] using h
    obtain ⟨t,ht⟩:∃ t,s.extract a (a + n) = t:=⟨_,rfl⟩
    have htz:t.size < 4611686018427387904:=by rw [<- ht,ByteArray.size_extract];omega
    refine tqh hsure hS 0 ?_
    apply Exists.intro
    apply And.intro
    ·rintro w' k1
     apply VR.mk
     go_simp
     with_reducible rfl
    simp only [sA,sB,sC]
    refine tqh hsure hS 1 ?_
    apply Exists.intro
    apply And.intro
    ·rintro w' k1
     apply VR.mk
     go_simp
     with_reducible rfl
    simp only [sA,sB,sC]
    refine tqh hsure hS 2 ?_
    apply Exists.intro
    apply And.intro
    ·rintro w' k1
     apply VR.mk
     go_simp
     with_reducible rfl
    simp only [sA,sB,sC]
    refine tqh hsure hS 3 ?_
    apply Exists.intro
    apply And.intro
    ·rintro w' k1
     have cc0:=hci k1 0 rfl
     apply VR.mk
     go_simp
     with_reducible rfl
    simp only [sA,sB,sC]
    refine tqh hsure hS 4 ?_
    apply Exists.intro
    apply And.intro
    ·rintro w' k1
     apply VR.mk
     go_simp
     with_reducible rfl
    simp only [sA,sB,sC]
    refine tqh hsure hS 5 ?_
    apply Exists.intro
    apply And.intro
    ·rintro w' k1
     apply VR.mk
     go_simp
     with_reducible rfl
    simp only [sA,sB,sC]
    refine tqh hsure hS 6 ?_
    apply Exists.intro
    apply And.intro
    ·rintro w' k1
     apply VR.mk
     go_simp
     with_reducible rfl
    simp only [sA,sB,sC]
    refine tqh hsure hS 7 ?_
    apply Exists.intro
    apply And.intro
    ·rintro w' k1
     have cc0:=hci k1 1 rfl
     apply VR.mk
     go_simp
     with_reducible rfl
    simp only [sA,sB,sC]
    refine tqh hsure hS 8 ?_
    apply Exists.intro
    apply And.intro
    ·rintro w' k1
     apply VR.mk
     go_simp
     with_reducible rfl
    simp only [sA,sB,sC]
    refine tqh hsure hS 9 ?_
    apply Exists.intro
    apply And.intro
    ·rintro w' k1
     apply VR.mk
     go_simp
     with_reducible rfl
    simp only [sA,sB,sC]
    refine tqh hsure hS 10 ?_
    apply Exists.intro
    apply And.intro
    ·rintro w' k1
     apply VR.mk
     go_simp
     with_reducible rfl
    simp only [sA,sB,sC]
    refine tqh hsure hS 11 ?_
    apply Exists.intro
    apply And.intro
    ·rintro w' k1
     have cc0:=hci k1 1 rfl
     apply VR.mk
     go_simp
     with_reducible rfl
    simp only [sA,sB,sC]
    refine tqh hsure hS 12 ?_
    apply Exists.intro
    apply And.intro
    ·rintro w' k1
     apply VR.mk
     go_simp
     with_reducible rfl
    simp only [sA,sB,sC]
    refine tqh hsure hS 13 ?_
    apply Exists.intro
    apply And.intro
    ·rintro w' k1
     apply VR.mk
     go_simp
     with_reducible rfl
    simp only [sA,sB,sC]
    have kn:((a:Int) + (n:Int)).toNat = a + n:=by omega
    refine tqh hsure hS 14 ?_
    apply Exists.intro
    apply And.intro
    ·rintro w' k1
     apply VR.mk
     go_simp
     repeat (refine (if_pos (by first | omega | exact ⟨by omega,by omega⟩)).trans ?_)
     with_reducible rfl
    simp only [sA,sB,sC]
    rw [ht] at HNX
    clear ht
    refine tree_1Q (i:=15) (by kernel_rfl) ?_
    refine step_callQ (by rfl) (by rfl) (by rfl) (ER_go (by go_simp;first | with_reducible exact ⟨rfl,rfl⟩ | with_reducible rfl)) ?_
    refine (number_fn t W4 htz).mono ?_
    rintro en w5 ⟨rfl,hb5⟩
    refine .inl ⟨_,rfl,hS.belowS hb5, ?_⟩
    simp only [sA,sB,sC]
    obtain ⟨⟨nv,nk,ne⟩,hnp⟩:∃ x,numP t = x:=⟨_,rfl⟩
    rw [hnp] at HNX ⊢
    refine treeQ_h hsure (hS.belowS hb5) (i:=16) (by kernel_rfl) (by rfl) (by rfl) (by kernel_rfl) (by rfl) ?_
    apply Exists.intro
    apply And.intro
    ·rintro w' k1
     apply VR.mk
     go_simp
     with_reducible rfl
    simp only [sA,sB,sC]
    refine treeQ_h hsure (hS.belowS hb5) (i:=17) (by kernel_rfl) (by rfl) (by rfl) (by kernel_rfl) (by rfl) ?_
    apply Exists.intro
    apply And.intro
    ·rintro w' k1
     apply VR.mk
     go_simp
     with_reducible rfl
    simp only [sA,sB,sC]
    refine treeQ_h hsure (hS.belowS hb5) (i:=18) (by kernel_rfl) (by rfl) (by rfl) (by kernel_rfl) (by rfl) ?_
    apply Exists.intro
    apply And.intro
    ·rintro w' k1
     apply VR.mk
     go_simp
     with_reducible rfl
    simp only [sA,sB,sC]
    refine treeQ_h hsure (hS.belowS hb5) (i:=19) (by kernel_rfl) (by rfl) (by rfl) (by kernel_rfl) (by rfl) ?_
    apply Exists.intro
    apply And.intro
    ·rintro w' k1
     apply VR.mk
     go_simp
     with_reducible rfl
    simp only [sA,sB,sC]
    refine treeQ_h hsure (hS.belowS hb5) (i:=20) (by kernel_rfl) (by rfl) (by rfl) (by kernel_rfl) (by rfl) ?_
    apply Exists.intro
    apply And.intro
    ·rintro w' k1
     apply VR.mk
     go_simp
     with_reducible rfl
    simp only [sA,sB,sC]
    refine treeQ_h hsure (hS.belowS hb5) (i:=21) (by kernel_rfl) (by rfl) (by rfl) (by kernel_rfl) (by rfl) ?_
    apply Exists.intro
    apply And.intro
    ·rintro w' k1
     apply VR.mk
     go_simp
     with_reducible rfl
    simp only [sA,sB,sC]
    refine treeQ_h hsure (hS.belowS hb5) (i:=22) (by kernel_rfl) (by rfl) (by rfl) (by kernel_rfl) (by rfl) ?_
    apply Exists.intro
    apply And.intro
    ·rintro w' k1
     apply VR.mk
     go_simp
     with_reducible rfl
    simp only [sA,sB,sC]
    refine tree_endQ (by kernel_rfl) ?_
    rw [<- hQQ]
    clear hsure hQQ hS
    replace HH:=am (HH.out.belowS hb5)
    replace HR:=am (HR.out.belowS hb5)
    replace HT:=am (HT.out.belowS hb5)
    replace HK:=am (HK.out.below hb5)
    clear hb5 hnp
    by_cases hne:ne = 0
    ·have kne:(ne != 0) = false:=by simp [hne]
     replace HNX:=am (HNX.out.trans (if_pos hne))
     clear hne
     go_wp2
     go_meet
     case rel=>exact ⟨2,n,rfl,HK,HH,HR,HT,⟨by rw [HNX.out,if_neg hz]⟩,⟨by omega⟩⟩
    ·have kne:(ne != 0) = true:=by simp [hne]
     replace HNX:=am (HNX.out.trans (if_neg hne))
     clear hne
     go_wp2_with (first
       | (
        (with_reducible refine gate_dst (N:=56) rfl ?_)
        go_must (refine Kd.event_run rfl (load35 w5 w1.heap.size #[.int .i64 2,.string ⟨#[]⟩,.int .i64 (a:Int)] HT.out rfl _ _ _ rfl rfl) ?_))
       | (
        (with_reducible refine gate_store (t:=35) (p:=2) rfl ?_)
        go_must (refine store_event (t:=35) (p:=2) (v:=.tmp 56) (w1:=w5.setRow w.heap.size #[.int .i64 2,.string ⟨#[]⟩,.int .i64 (a:Int)]) ?hg ?ho ?hn ?hr ?_;(case ho=>rfl);(case hg=>rfl);(case hn=>rfl);(case hr=>exact store35 w5 _ _ _ HR.out rfl rfl (by first | kernel_rfl | (simp [Value.oneCell'])) _ _ _ _ rfl rfl rfl);intro w77 hw77;subst hw77)))
     refine bodyPost_ret (results_ct rfl _ _ w.heap.size 35 #[.int .i64 2,.string ⟨#[]⟩,.int .i64 (a:Int)] (0,0) _ rfl (has_row HR.out #[.int .i64 2,.string ⟨#[]⟩,.int .i64 (a:Int)]) Tryd.underlying35 rfl (by rfl)) rfl ?_
     refine ⟨kept_row HK.out (Nat.le_refl _) _, ?_⟩
     rw [HNX.out]
     exact ⟨2,rfl,has_row_other HH.out (by omega)⟩
   | false =>
    by_cases hbig:n > 40
    ·have kb:decide ((n:Int) > 40) = true:=decide_eq_true (by omega)
     have kb2:decide (40 < (n:Int)) = true:=decide_eq_true (by omega)
     have hnx:nextN (fromN s a) = (4,0,20):=by
      unfold nextN
      rw [HN.out,if_neg hz,hhd,if_neg (by rw [hd];decide),if_pos hbig]
     have HNX:=am hnx
     clear hnx hd hbig
     go_wp2
     go_meet
     case rel=>exact ⟨4,0,rfl,HK,HH,HR,HT,⟨by rw [HNX.out];rfl⟩,⟨by omega⟩⟩
    ·have kb:decide ((n:Int) > 40) = false:=decide_eq_false (by omega)
     have kb2:decide (40 < (n:Int)) = false:=decide_eq_false (by omega)
     have hnx:nextN (fromN s a) = if wordB (s.extract a (a + n)).data.toList = true then (3,n,0) else (1,n,0):=by
      unfold nextN
      rw [HN.out,if_neg hz,hhd,if_neg (by rw [hd];decide),if_neg hbig,ext_take s a n (by omega)]
     have HNX:=am hnx
     clear hnx hd
     go_upto_region 13 with (fail)
     have hmp:=HMP.out
     subst hmp
     have hD:=below_drew (Below.refl (w3).heap.size (w3))
     replace HH:=am (HH.out.belowS hD)
     replace HM:=am (own_below HM.out hD)
     replace HR:=am (HR.out.belowS hD)
     replace HT:=am (HT.out.belowS hD)
     replace HK:=am (HK.out.below hD)
     clear hD
     obtain ⟨W4,hW⟩:∃ W,(w3).drew = W:=⟨_,rfl⟩
     rw [hW] at HH HM HR HT HK
     refine region_treeQ (by kernel_rfl) (fun w' => Has w' m (lxC s a (.map (some wb))) 65 /\ w'.ownsMap Tryd.prog 9 E4 wb 17 (wdD wordL)) (hW ▸ ⟨HH.out,HM.out⟩) fun hS => ?_
     rw [hW] at hS ⊢
     clear hW
     generalize hQQ:Exit.then _ _ = QQ
     have hsure:Sure QQ:=by
      rw [<- hQQ]
      intro c a a' w1 hd h
      simp +zetaDelta only [Exit.then,Exit.inBlock,bodyPost] at h ⊢
      first | (simp at h;done) | simpa [hd] using h
     obtain ⟨t,ht⟩:∃ t,s.extract a (a + n) = t:=⟨_,rfl⟩
     have htz:t.size < 4611686018427387904:=by rw [<- ht,ByteArray.size_extract];omega
     have kn:((a:Int) + (n:Int)).toNat = a + n:=by omega
     refine tqh hsure hS 0 ?_
     apply Exists.intro
     apply And.intro
     ·rintro w' ⟨k1,k2⟩
      apply VR.mk
      go_simp
      with_reducible rfl
     simp only [sA,sB,sC]
     refine tqh hsure hS 1 ?_
     apply Exists.intro
     apply And.intro
     ·rintro w' ⟨k1,k2⟩
      apply VR.mk
      go_simp
      with_reducible rfl
     simp only [sA,sB,sC]
     refine tqh hsure hS 2 ?_
     apply Exists.intro
     apply And.intro
     ·rintro w' ⟨k1,k2⟩
      apply VR.mk
      go_simp
      with_reducible rfl
     simp only [sA,sB,sC]
     refine tqh hsure hS 3 ?_
     apply Exists.intro
     apply And.intro
     ·rintro w' ⟨k1,k2⟩
      have cc0:=hci k1 2 rfl
      apply VR.mk
      go_simp
      with_reducible rfl
     simp only [sA,sB,sC]
     refine tqh hsure hS 4 ?_
     apply Exists.intro
     apply And.intro
     ·rintro w' ⟨k1,k2⟩
      apply VR.mk
      go_simp
      with_reducible rfl
     simp only [sA,sB,sC]
     refine tqh hsure hS 5 ?_
     apply Exists.intro
     apply And.intro
     ·rintro w' ⟨k1,k2⟩
      apply VR.mk
      go_simp
      with_reducible rfl
     simp only [sA,sB,sC]
     refine tqh hsure hS 6 ?_
     apply Exists.intro
     apply And.intro
     ·rintro w' ⟨k1,k2⟩
      apply VR.mk
      go_simp
      with_reducible rfl
     simp only [sA,sB,sC]
     refine tqh hsure hS 7 ?_
     apply Exists.intro
     apply And.intro
     ·rintro w' ⟨k1,k2⟩
      have cc0:=hci k1 0 rfl
      apply VR.mk
      go_simp
      with_reducible rfl
     simp only [sA,sB,sC]
     refine tqh hsure hS 8 ?_
     apply Exists.intro
     apply And.intro
     ·rintro w' ⟨k1,k2⟩
      apply VR.mk
      go_simp
      with_reducible rfl
     simp only [sA,sB,sC]
     refine tqh hsure hS 9 ?_
     apply Exists.intro
     apply And.intro
     ·rintro w' ⟨k1,k2⟩
      apply VR.mk
      go_simp
      with_reducible rfl
     simp only [sA,sB,sC]
     refine tqh hsure hS 10 ?_
     apply Exists.intro
     apply And.intro
     ·rintro w' ⟨k1,k2⟩
      apply VR.mk
      go_simp
      with_reducible rfl
     simp only [sA,sB,sC]
     refine tqh hsure hS 11 ?_
     apply Exists.intro
     apply And.intro
     ·rintro w' ⟨k1,k2⟩
      have cc0:=hci k1 1 rfl
      apply VR.mk
      go_simp
      with_reducible rfl
     simp only [sA,sB,sC]
     refine tqh hsure hS 12 ?_
     apply Exists.intro
     apply And.intro
     ·rintro w' ⟨k1,k2⟩
      apply VR.mk
      go_simp
      with_reducible rfl
     simp only [sA,sB,sC]
     refine tqh hsure hS 13 ?_
     apply Exists.intro
     apply And.intro
     ·rintro w' ⟨k1,k2⟩
      apply VR.mk
      go_simp
      with_reducible rfl
     simp only [sA,sB,sC]
     refine tqh hsure hS 14 ?_
     apply Exists.intro
     apply And.intro
     ·rintro w' ⟨k1,k2⟩
      apply VR.mk
      go_simp
      with_reducible rfl
     simp only [sA,sB,sC]
     refine tqh hsure hS 15 ?_
     apply Exists.intro
     apply And.intro
     ·rintro w' ⟨k1,k2⟩
      have cc0:=hci k1 1 rfl
      apply VR.mk
      go_simp
      with_reducible rfl
     simp only [sA,sB,sC]
     refine tqh hsure hS 16 ?_
     apply Exists.intro
     apply And.intro
     ·rintro w' ⟨k1,k2⟩
      apply VR.mk
      go_simp
      with_reducible rfl
     simp only [sA,sB,sC]
     refine tqh hsure hS 17 ?_
     apply Exists.intro
     apply And.intro
     ·rintro w' ⟨k1,k2⟩
      apply VR.mk
      go_simp
      with_reducible rfl
     simp only [sA,sB,sC]
     refine tqh hsure hS 18 ?_
     apply Exists.intro
     apply And.intro
     ·rintro w' ⟨k1,k2⟩
      apply VR.mk
      go_simp
      repeat (refine (if_pos (by first | omega | exact ⟨by omega,by omega⟩)).trans ?_)
      with_reducible rfl
     simp only [sA,sB,sC]
     refine tqh hsure hS 19 ?_
     apply Exists.intro
     apply And.intro
     ·rintro w' ⟨k1,k2⟩
      have hlw:=look_word k2 t (by unfold maxLen;omega)
      apply VR.mk
      go_simp
      with_reducible rfl
     simp only [sA,sB,sC]
     refine tqh hsure hS 20 ?_
     apply Exists.intro
     apply And.intro
     ·rintro w' ⟨k1,k2⟩
      apply VR.mk
      go_simp
      with_reducible rfl
     simp only [sA,sB,sC]
     rw [ht] at HNX
     clear ht
     refine tree_endQ (by kernel_rfl) ?_
     rw [<- hQQ]
     clear hsure hQQ hS
     have hbig2 : ¬ n > 40:=hbig
     clear hbig
     have c4:=hci HT.out 0 rfl
     have f4:=HT.out.frozen 0
     cases hw:wordB t.data.toList with
     | true =>
      replace HNX:=am (HNX.out.trans (if_pos hw))
      clear hw
      have hl1:=HH.out.lt
      go_wp2
      go_meet
      case rel=>exact ⟨3,n,rfl,⟨HK.out.setCellG (a:=⟨w1.heap.size,0,none⟩) (by show w.heap.size <= w1.heap.size;omega) _⟩,⟨HH.out.other (a:=⟨w1.heap.size,0,none⟩) (by show _ ≠ w1.heap.size;omega) _⟩,⟨HR.out.other (a:=⟨w1.heap.size,0,none⟩) (by show _ ≠ w1.heap.size;omega) _⟩,⟨HT.out.set_ 0 _⟩,⟨by rw [HNX.out,if_neg hz]⟩,⟨by omega⟩⟩
     | false =>
      replace HNX:=am (HNX.out.trans (if_neg (by rw [hw];decide)))
      clear hw
      have hl1:=HH.out.lt
      go_wp2
      go_meet
      case rel=>exact ⟨1,n,rfl,⟨HK.out.setCellG (a:=⟨w1.heap.size,0,none⟩) (by show w.heap.size <= w1.heap.size;omega) _⟩,⟨HH.out.other (a:=⟨w1.heap.size,0,none⟩) (by show _ ≠ w1.heap.size;omega) _⟩,⟨HR.out.other (a:=⟨w1.heap.size,0,none⟩) (by show _ ≠ w1.heap.size;omega) _⟩,⟨HT.out.set_ 0 _⟩,⟨by rw [HNX.out,if_neg hz]⟩,⟨by omega⟩⟩
 case rest =>
  clear HK HH HR HT HM
  obtain ⟨k,n',rfl,HK,HH,HR,HT,HX,HL⟩:=hcut
  have hl2:=HL.out
  by_cases hz:n' = 0
  ·have kz:((n' : Int) == 0) = true:=by simp [hz]
   replace HX:=am (HX.out.trans (if_pos hz))
   clear hz
   go_wp2_with (first
     | (
      (with_reducible refine gate_dst (N:=85) rfl ?_)
      go_must (refine Kd.event_run rfl (load35 wc w1.heap.size #[.int .i64 k,.string ⟨#[]⟩,.int .i64 (a:Int)] HT.out rfl _ _ _ rfl rfl) ?_))
     | (
      (with_reducible refine gate_store (t:=35) (p:=2) rfl ?_)
      go_must (refine store_event (t:=35) (p:=2) (v:=.tmp 85) (w1:=wc.setRow w.heap.size #[.int .i64 k,.string ⟨#[]⟩,.int .i64 (a:Int)]) ?hg ?ho ?hn ?hr ?_;(case ho=>rfl);(case hg=>rfl);(case hn=>rfl);(case hr=>exact store35 wc _ _ _ HR.out rfl rfl (by first | kernel_rfl | (simp [Value.oneCell'])) _ _ _ _ rfl rfl rfl);intro w77 hw77;subst hw77)))
   refine bodyPost_ret (results_ct rfl _ _ w.heap.size 35 #[.int .i64 k,.string ⟨#[]⟩,.int .i64 (a:Int)] (0,0) _ rfl (has_row HR.out #[.int .i64 k,.string ⟨#[]⟩,.int .i64 (a:Int)]) Tryd.underlying35 rfl (by rfl)) rfl ?_
   refine ⟨kept_row HK.out (Nat.le_refl _) _, ?_⟩
   have h2:(nextN (fromN s a)).2.1 = 0:=by rw [HX.out]
   have h3:(nextN (fromN s a)).2.2 = 20:=by rw [HX.out]
   rw [if_pos h2,h3]
   exact ⟨k,rfl,has_row_other HH.out (by omega)⟩
  ·have kz:((n' : Int) == 0) = false:=by simp;omega
   replace HX:=am (HX.out.trans (if_neg hz))
   go_upto_region 17 with (fail)
   have hD:=below_drew (Below.refl (wc).heap.size (wc))
   replace HH:=am (HH.out.belowS hD)
   replace HR:=am (HR.out.belowS hD)
   replace HT:=am (HT.out.belowS hD)
   replace HK:=am (HK.out.below hD)
   clear hD
   obtain ⟨W6,hW⟩:∃ W,(wc).drew = W:=⟨_,rfl⟩
   rw [hW] at HH HR HT HK
   refine region_treeQ (by kernel_rfl) (fun w' => Has w' m (lxC s a mp) 65) (hW ▸ HH.out) fun hS => ?_
   rw [hW] at hS ⊢
   clear hW
   generalize hQQ:Exit.then _ _ = QQ
   have hsure:Sure QQ:=by
    rw [<- hQQ]
    intro c a a' w1 hd h
    simp +zetaDelta only [Exit.then,Exit.inBlock,bodyPost] at h ⊢
    first | (simp at h;done) | simpa [hd] using h
   obtain ⟨t,ht⟩:∃ t,s.extract a (a + n') = t:=⟨_,rfl⟩
   have kn:((a:Int) + (n' : Int)).toNat = a + n':=by omega
   have kwn2:IntKind.i64.wrap ((a:Int) + (n' : Int)) = (a:Int) + (n' : Int):=IntWalk.i64_in _ (by omega)
   have hl1:=HH.out.lt
   refine tqh hsure hS 0 ?_
   apply Exists.intro
   apply And.intro
   ·rintro w' k1
    apply VR.mk
    go_simp
    with_reducible rfl
   simp only [sA,sB,sC]
   refine tqh hsure hS 1 ?_
   apply Exists.intro
   apply And.intro
   ·rintro w' k1
    apply VR.mk
    go_simp
    with_reducible rfl
   simp only [sA,sB,sC]
   refine tqh hsure hS 2 ?_
   apply Exists.intro
   apply And.intro
   ·rintro w' k1
    apply VR.mk
    go_simp
    with_reducible rfl
   simp only [sA,sB,sC]
   refine tqh hsure hS 3 ?_
   apply Exists.intro
   apply And.intro
   ·rintro w' k1
    have cc0:=hci k1 0 rfl
    apply VR.mk
    go_simp
    with_reducible rfl
   simp only [sA,sB,sC]
   refine tqh hsure hS 4 ?_
   apply Exists.intro
   apply And.intro
   ·rintro w' k1
    apply VR.mk
    go_simp
    with_reducible rfl
   simp only [sA,sB,sC]
   refine tqh hsure hS 5 ?_
   apply Exists.intro
   apply And.intro
   ·rintro w' k1
    apply VR.mk
    go_simp
    with_reducible rfl
   simp only [sA,sB,sC]
   refine tqh hsure hS 6 ?_
   apply Exists.intro
   apply And.intro
   ·rintro w' k1
    apply VR.mk
    go_simp
    with_reducible rfl
   simp only [sA,sB,sC]
   refine tqh hsure hS 7 ?_
   apply Exists.intro
   apply And.intro
   ·rintro w' k1
    have cc0:=hci k1 1 rfl
    apply VR.mk
    go_simp
    with_reducible rfl
   simp only [sA,sB,sC]
   refine tqh hsure hS 8 ?_
   apply Exists.intro
   apply And.intro
   ·rintro w' k1
    apply VR.mk
    go_simp
    with_reducible rfl
   simp only [sA,sB,sC]
   refine tqh hsure hS 9 ?_
   apply Exists.intro
   apply And.intro
   ·rintro w' k1
    apply VR.mk
    go_simp
    with_reducible rfl
   simp only [sA,sB,sC]
   refine tqh hsure hS 10 ?_
   apply Exists.intro
   apply And.intro
   ·rintro w' k1
    apply VR.mk
    go_simp
    with_reducible rfl
   simp only [sA,sB,sC]
   refine tqh hsure hS 11 ?_
   apply Exists.intro
   apply And.intro
   ·rintro w' k1
    have cc0:=hci k1 1 rfl
    apply VR.mk
    go_simp
    with_reducible rfl
   simp only [sA,sB,sC]
   refine tqh hsure hS 12 ?_
   apply Exists.intro
   apply And.intro
   ·rintro w' k1
    apply VR.mk
    go_simp
    with_reducible rfl
   simp only [sA,sB,sC]
   refine tqh hsure hS 13 ?_
   apply Exists.intro
   apply And.intro
   ·rintro w' k1
    apply VR.mk
    go_simp
    with_reducible rfl
   simp only [sA,sB,sC]
   refine tqh hsure hS 14 ?_
   apply Exists.intro
   apply And.intro
   ·rintro w' k1
    apply VR.mk
    go_simp
    repeat (refine (if_pos (by first | omega | exact ⟨by omega,by omega⟩)).trans ?_)
    with_reducible rfl
   simp only [sA,sB,sC]
   refine tqh hsure hS 15 ?_
   apply Exists.intro
   apply And.intro
   ·rintro w' k1
    apply VR.mk
    go_simp
    with_reducible rfl
   simp only [sA,sB,sC]
   refine tree_1Q (i:=16) (by kernel_rfl) ?_
   refine step_list (by rfl) ?_
   have c5:=hci HT.out 1 rfl
   have f5:=HT.out.frozen 1
   go_wp2
   clear c5 f5
   have hx:Has (W6.setCell ⟨w1.heap.size,1,none⟩ (.string t)) w1.heap.size #[.int .i64 k,.string t,.int .i64 (a:Int)] 35:=HT.out.set_ 1 _
   replace HH:=am (HH.out.other (a:=⟨w1.heap.size,1,none⟩) (by show _ ≠ w1.heap.size;omega) (.string t))
   replace HR:=am (HR.out.other (a:=⟨w1.heap.size,1,none⟩) (by show _ ≠ w1.heap.size;omega) (.string t))
   replace HK:=am (HK.out.setCellG (a:=⟨w1.heap.size,1,none⟩) (by show w.heap.size <= w1.heap.size;omega) (.string t))
   replace HT:=am hx
   clear hx
   refine ⟨HH.out,tree_endQ (by kernel_rfl) ?_⟩
   rw [<- hQQ]
   clear hsure hQQ hS
   obtain ⟨w7,hw7⟩:∃ W,W6.setCell ⟨w1.heap.size,1,none⟩ (.string t) = W:=⟨_,rfl⟩
   rw [hw7] at HH HR HT HK ⊢
   clear hw7
   have c6:=hci HH.out 1 rfl
   have f6:=HH.out.frozen 1
   have hx:Has (w7.setCell ⟨m,1,none⟩ (.int .i64 ((a:Int) + (n' : Int)))) m (lxC s ((a + n' : Nat):Int) mp) 65:=HH.out.set_ 1 _
   replace HR:=am (HR.out.other (a:=⟨m,1,none⟩) (by show _ ≠ m;omega) (.int .i64 ((a:Int) + (n' : Int))))
   replace HT:=am (HT.out.other (a:=⟨m,1,none⟩) (by show _ ≠ m;omega) (.int .i64 ((a:Int) + (n' : Int))))
   replace HK:=am (HK.out.setCell (a:=⟨m,1,none⟩) rfl (.int .i64 ((a:Int) + (n' : Int))))
   replace HH:=am hx
   clear hx
   go_wp2_with (first
     | (
      (with_reducible refine gate_dst (N:=110) rfl ?_)
      go_must (refine Kd.event_run rfl (load35 (w7.setCell ⟨m,1,none⟩ (.int .i64 ((a:Int) + (n' : Int)))) w1.heap.size #[.int .i64 k,.string t,.int .i64 (a:Int)] HT.out rfl _ _ _ rfl rfl) ?_))
     | (
      (with_reducible refine gate_store (t:=35) (p:=2) rfl ?_)
      go_must (refine store_event (t:=35) (p:=2) (v:=.tmp 110) (w1:=(w7.setCell ⟨m,1,none⟩ (.int .i64 ((a:Int) + (n' : Int)))).setRow w.heap.size #[.int .i64 k,.string t,.int .i64 (a:Int)]) ?hg ?ho ?hn ?hr ?_;(case ho=>rfl);(case hg=>rfl);(case hn=>rfl);(case hr=>exact store35 (w7.setCell ⟨m,1,none⟩ (.int .i64 ((a:Int) + (n' : Int)))) _ _ _ HR.out rfl rfl (by first | kernel_rfl | (simp [Value.oneCell'])) _ _ _ _ rfl rfl rfl);intro w77 hw77;subst hw77)))
   refine bodyPost_ret (results_ct rfl _ _ w.heap.size 35 #[.int .i64 k,.string t,.int .i64 (a:Int)] (0,0) _ rfl (has_row HR.out #[.int .i64 k,.string t,.int .i64 (a:Int)]) Tryd.underlying35 rfl (by rfl)) rfl ?_
   refine ⟨kept_row HK.out (Nat.le_refl _) _, ?_⟩
   have h2:(nextN (fromN s a)).2.1 = n':=by rw [HX.out]
   have h3:(nextN (fromN s a)).1 = k:=by rw [HX.out]
   rw [h2,h3,if_neg hz,ht]
   exact ⟨rfl,has_row_other HH.out (by omega),hl2⟩
end Go.Proofs.YtngpgdmafmkddaaDoor.Lex
end
section
namespace Go.Proofs.YtngpgdmafmkddaaDoor.Lex
open Go.Proofs.YtngpgdmafmkddaaDoor.PParseBlanks (k35_mkM) 
open Go.Proofs.YtngpgdmafmkddaaDoor.Calm Go.Proofs.YtngpgdmafmkddaaDoor.Par Go.RowKit Go.Proofs.YtngpgdmafmkddaaDoorW.PrintWords Go.Proofs.YtngpgdmafmkddaaDoorW.PrintLast Go.Proofs.YtngpgdmafmkddaaDoorW.PrintMore
open Go.Proofs.YtngpgdmafmkddaaDoor.PParseBlanks (S35 S25 S27 k35 k25 k27 rd_T35 rd_T25 rd_T27 at_T35 at_T25 at_T27)
set_option linter.unusedVariables false
set_option linter.unusedSimpArgs false
theorem nextN_two (l:List UInt8):((nextN l).2.1 = 0 /\ (nextN l).2.2 ≠ 0) \/ (¬ (nextN l).2.1 = 0 /\ (nextN l).2.2 = 0):=by
 unfold nextN
 repeat' split
 all_goals simp_all
theorem nextN_bad {l:List UInt8} (h:(nextN l).2.1 = 0):(nextN l).2.2 ≠ 0:=(nextN_two l).elim (fun h=>h.2) fun h2=>absurd h h2.1
theorem nextN_ok {l:List UInt8} (h : ¬ (nextN l).2.1 = 0):(nextN l).2.2 = 0:=(nextN_two l).elim (fun h2=>absurd h2.1 h) fun h=>h.2
def lexN:Nat -> Nat -> List UInt8 -> Except (Nat × Int) (List S35)
 | 0,_,_=>.error (0,0)
 | _ + 1,_,[]=>.ok []
 | k + 1,a,b :: r =>
  if (nextN (b :: r)).2.1 = 0 then .error (a,(nextN (b :: r)).2.2)
  else match lexN k (a + (nextN (b :: r)).2.1 + skipN (((b :: r).drop (nextN (b :: r)).2.1).length + 1) ((b :: r).drop (nextN (b :: r)).2.1)) (((b :: r).drop (nextN (b :: r)).2.1).drop (skipN (((b :: r).drop (nextN (b :: r)).2.1).length + 1) ((b :: r).drop (nextN (b :: r)).2.1))) with
   | .error e=>.error e
   | .ok ts=>.ok (⟨(nextN (b :: r)).1,⟨((b :: r).take (nextN (b :: r)).2.1).toArray⟩,a⟩ :: ts)
def lexP (s:ByteArray):Except (Nat × Int) (List S35):=
 if s.size > 65536 then .error (0,3) else lexN (s.size + 1) (skipN (s.size + 1) s.data.toList) (s.data.toList.drop (skipN (s.size + 1) s.data.toList))
def preE (acc:List S35):Except (Nat × Int) (List S35) -> Except (Nat × Int) (List S35)
 | .error e=>.error e
 | .ok ts=>.ok (acc ++ ts)
def XPost (R:Except (Nat × Int) (List S35)) (w:World) (en:Ending) (w' : World):Prop:=
 Below w.heap.size w w' /\ match R with
 | .ok ts => ∃ A c,en = .returned (.tuple #[.slice A ts.length c,.int .i64 0,.int .i64 0]) /\ ts.length <= c /\ Kd.C k35 w' A ts.length ts /\ RowT w' A
 | .error e=>en = .returned (.tuple #[.slice none 0 0,.int .i64 e.1,.int .i64 e.2])
theorem R35_kept {w w' : World} {m B:Nat} {v:Value} {ts:List S35} (h:k35.R 35 w B Any v ts) (hk:Par.Kept (fun b=>b = m) w w') (hm:m < B):k35.R 35 w' B Any v ts:=
 Kd.R_mono (Kd.R_step (Kd.R_bound h) fun k hk1 hk2=>hk.block k hk2 (by have:=hk1.2.1;omega)) fun _ _=>trivial
theorem info35:(Tryd.prog.info? 35).map (fun i=>(i.zero,i.size,i.bytes)) = some (some (.agg #[.int .i64 0,.string ⟨#[]⟩,.int .i64 0]),3,32):=by kernel_rfl
theorem lexN_step {s:ByteArray} {a k:Nat} (ha:a < s.size) (n:Nat) (hn:(nextN (fromN s a)).2.1 = n):lexN (k + 1) a (fromN s a) = if n = 0 then .error (a,(nextN (fromN s a)).2.2) else preE [⟨(nextN (fromN s a)).1,s.extract a (a + n),a⟩] (lexN k (a + n + skipN (s.size - (a + n) + 1) (fromN s (a + n))) (fromN s (a + n + skipN (s.size - (a + n) + 1) (fromN s (a + n))))):=by
 obtain ⟨b,e,_⟩:=bt_get ha
 by_cases hle:a + n <= s.size
 ·rw [ext_take s a n hle]
  have h2:lexN (k + 1) a (fromN s a) = lexN (k + 1) a (b :: fromN s (a + 1)):=by rw [<- e]
  rw [h2]
  simp only [lexN]
  rw [<- e,hn,from_from,from_len,from_from]
  by_cases hz:n = 0
  ·rw [if_pos hz,if_pos hz]
  ·rw [if_neg hz,if_neg hz]
   cases lexN k (a + n + skipN (s.size - (a + n) + 1) (fromN s (a + n))) (fromN s (a + n + skipN (s.size - (a + n) + 1) (fromN s (a + n)))) <;> rfl
 ·have h3:s.extract a (a + n) = ⟨((fromN s a).take n).toArray⟩:=by
   apply ByteArray.ext
   apply Array.toList_inj.1
   rw [ByteArray.data_extract,Array.toList_extract,List.extract_eq_take_drop]
   simp
  rw [h3]
  have h2:lexN (k + 1) a (fromN s a) = lexN (k + 1) a (b :: fromN s (a + 1)):=by rw [<- e]
  rw [h2]
  simp only [lexN]
  rw [<- e,hn,from_from,from_len,from_from]
  by_cases hz:n = 0
  ·rw [if_pos hz,if_pos hz]
  ·rw [if_neg hz,if_neg hz]
   cases lexN k (a + n + skipN (s.size - (a + n) + 1) (fromN s (a + n))) (fromN s (a + n + skipN (s.size - (a + n) + 1) (fromN s (a + n)))) <;> rfl
theorem below_tr {B:Nat} {w w1 w2:World} (h1:Below B w w1) (h2:Below B w1 w2):Below B w w2:=⟨h2.os.trans h1.os,h2.tape.trans h1.tape,h2.output.trans h1.output,Nat.le_trans h1.size h2.size,fun k hk=>(h2.block k hk).trans (h1.block k hk)⟩
theorem preE_pre (x y:List S35) (R:Except (Nat × Int) (List S35)):preE x (preE y R) = preE (x ++ y) R:=by
 cases R <;> simp [preE]
set_option maxRecDepth 100000 in
set_option maxHeartbeats 4000000 in
theorem lex_said (s:ByteArray) (w:World) (HT:Tab w) :
  Calls Tryd.prog 9 #[.string s] w (XPost (lexP s) w):=by
 by_cases hbig:s.size > 65536
 ·have h:lexP s = .error (0,3):=if_pos hbig
  rw [h]
  have kb:decide ((s.size:Int) > 65536) = true:=decide_eq_true (by omega)
  have kb2:decide (65536 < (s.size:Int)) = true:=decide_eq_true (by omega)
  clear h hbig
  go_enter Tryd.func9,Tryd.ntmps9
  go_wp2
  go_ret3
  exact ⟨Below.refl _ _,rfl⟩
 have hs:s.size < 4611686018427387904:=by omega
 have hsz:s.size <= 65536:=by omega
 have kb:decide ((s.size:Int) > 65536) = false:=decide_eq_false (by omega)
 have kb2:decide (65536 < (s.size:Int)) = false:=decide_eq_false (by omega)
 have hR:lexP s = lexN (s.size + 1) (0 + skipN (s.size - 0 + 1) (fromN s 0)) (fromN s (0 + skipN (s.size - 0 + 1) (fromN s 0))):=by
  unfold lexP
  rw [if_neg hbig]
  simp
 obtain ⟨R,hRR⟩:∃ R,lexP s = R:=⟨_,rfl⟩
 rw [hRR] at hR ⊢
 have HRX:=am hR
 have HTT:=am HT
 clear hR hRR hbig HT
 go_enter Tryd.func9,Tryd.ntmps9
 go_upto_block 0 with (first
  | (
   go_at_call 21
   (with_reducible refine Calls.mono (words_said _ HTT.out) ?_)
   rintro en w1 ⟨wb,rfl,hM,hwb,hb1⟩
   have hwl:=World.ownsMap.lt hM
   have b2:=below_alloc (Below.refl w1.heap.size w1) (Obj.cells (lxC s 0 (.map (some wb))) 65)
   have HM:=am (own_below hM b2)
   have HH:Aside0 (Has (w1.alloc (Obj.cells (lxC s 0 (.map (some wb))) 65)) w1.heap.size (lxC s ((0:Nat):Int) (.map (some wb))) 65):=⟨Has.new w1 (lxC s 0 (.map (some wb))) 65⟩
   have HB:=am (below_then hb1 hb1.size b2)
   clear b2 hM)
  | (
   go_at_call 22
   (with_reducible refine Calls.mono (skip_said w1.heap.size s 0 (.map (some wb)) _ HH.out (Nat.zero_le _) hs) ?_)
   rintro en w2 ⟨rfl,hk2,hh2,hl2⟩
   replace HM:=am (own_kept HM.out hk2 (by omega))
   replace HH:=am hh2
   have HK:=am hk2
   have HL:=am hl2
   have hz2:=hk2.size
   try simp at hz2
   clear hk2 hh2 hl2))
 obtain ⟨a0,ha0⟩:∃ a,0 + skipN (s.size - 0 + 1) (fromN s 0) = a:=⟨_,rfl⟩
 rw [ha0] at HH HL HRX
 have hw1:w.heap.size <= w1.heap.size:=hb1.size
 obtain ⟨m,hm⟩:∃ m,w1.heap.size = m:=⟨_,rfl⟩
 rw [hm] at HH hwl hz2 hw1
 have hwb' : wb ≠ m:=by omega
 have hlx:=am (below_tr HB.out (Par.Kept.below_of HK.out (B:=w.heap.size) (fun b hb=>by omega) HB.out.size))
 have HST:Aside0 (∃ (a:Nat) (acc:List S35),a <= s.size /\ Has w2 m (lxC s a (.map (some wb))) 65 /\ w2.ownsMap Tryd.prog 9 E4 wb 17 (wdD wordL) /\ k35.R 35 w2 (m + 1) Any (.slice none 0 0) acc /\ (acc = [] -> (Value.slice none 0 0) = .slice none 0 0) /\ acc.length <= a /\ Below w.heap.size w w2 /\ preE acc (lexN (s.size + 1) a (fromN s a)) = R /\ s.size - a < s.size + 1):=
  ⟨a0,[],HL.out,HH.out,HM.out,Kd.R_nil _ _ _ _ _,fun _=>rfl,Nat.zero_le _,hlx.out,by rw [HRX.out];cases lexN (s.size + 1) a0 (fromN s a0) <;> rfl,by omega⟩
 have hmw:m < w2.heap.size:=HH.out.lt
 clear HL HH HM HB HK HRX hlx HTT hb1 hz2
 go_wp2
 go_loopg [6] (s.size + 1) (fun k v wr=>Aside0 (∃ (a:Nat) (acc:List S35),a <= s.size /\ Has wr m (lxC s a (.map (some wb))) 65 /\ wr.ownsMap Tryd.prog 9 E4 wb 17 (wdD wordL) /\ k35.R 35 wr (m + 1) Any v acc /\ (acc = [] -> v = .slice none 0 0) /\ acc.length <= a /\ Below w.heap.size w wr /\ preE acc (lexN k a (fromN s a)) = R /\ s.size - a < k))
 case atStart =>
  obtain ⟨a,acc,h1,h2,h3,h4,h5,h6,h7,h8,h9⟩:=HST.out
  exact ⟨⟨a,acc,h1,h2,h3,h4,fun _=>rfl,h6,h7,h8,h9⟩⟩
 case round =>
  clear HST
  obtain ⟨a,acc,ha,hH,hM,hR,hv,hl,hB,hE,hk⟩:=hrel.out
  clear hrel
  cases gk with
  | zero=>omega
  | succ k =>
   have HH:=am hH
   have HM:=am hM
   have HR:=am hR
   have HV:=am hv
   have HB:=am hB
   have hml:=hH.lt
   clear hH hM hB hv
   obtain ⟨A,c,rfl⟩:=Kd.R_slice hR
   clear hR
   have c1:=hci HH.out 1 rfl
   by_cases hlt:a < s.size
   ·have kl:decide ((a:Int) < (s.size:Int)) = true:=decide_eq_true (by omega)
    rw [lexN_step hlt _ rfl] at hE
    obtain ⟨t,ht⟩:∃ t,nextN (fromN s a) = t:=⟨_,rfl⟩
    obtain ⟨tk,n,ne⟩:=t
    have HNX:=am ht
    rw [ht] at hE
    by_cases hz:n = 0
    ·rw [if_pos hz] at hE
     have HE:=am hE
     have hne:ne ≠ 0:=by have h:=nextN_bad (l:=fromN s a) (by rw [ht];exact hz);rwa [ht] at h
     have kne:(ne != 0) = true:=by simp [hne]
     clear hE ht hne
     go_upto_region 10 with (
      go_at_call 23
      (with_reducible refine Calls.mono (next_said m s a wb _ HH.out HM.out hwb' hlt hs) ?_)
      rintro en w4 ⟨hk4,hq4⟩
      clear c1
      rw [HNX.out,if_pos hz] at hq4
      obtain ⟨kk,rfl,hh4⟩:=hq4
      replace HB:=am (below_tr HB.out (Par.Kept.below_of hk4 (B:=w.heap.size) (fun b hb=>by omega) HB.out.size)))
     have b5:=below_drew (below_alloc HB.out (Obj.cells #[.int .i64 kk,.string ⟨#[]⟩,.int .i64 (a:Int)] 35))
     have h5:Has (w4.alloc (Obj.cells #[.int .i64 kk,.string ⟨#[]⟩,.int .i64 (a:Int)] 35)).drew w4.heap.size #[.int .i64 kk,.string ⟨#[]⟩,.int .i64 (a:Int)] 35:=(Has.new w4 #[.int .i64 kk,.string ⟨#[]⟩,.int .i64 (a:Int)] 35).drewN 1
     obtain ⟨W,hW⟩:∃ W,(w4.alloc (Obj.cells #[.int .i64 kk,.string ⟨#[]⟩,.int .i64 (a:Int)] 35)).drew = W:=⟨_,rfl⟩
     rw [hW] at b5 h5
     refine region_treeQ (by kernel_rfl) (fun w' => Has w' w4.heap.size #[.int .i64 kk,.string ⟨#[]⟩,.int .i64 (a:Int)] 35) (hW ▸ h5) fun hS => ?_
     rw [hW] at hS ⊢
     clear hW
     generalize hQQ:Exit.then _ _ = QQ
     have hsure:Sure QQ:=by
      rw [<- hQQ]
      intro c a a' w1 hd h
      simp +zetaDelta only [Exit.then,Exit.inBlock,bodyPost] at h ⊢
      first | (simp at h;done) | simpa [hd] using h
     refine tqh hsure hS 0 ?_
     apply Exists.intro
     apply And.intro
     ·rintro w' k1
      apply VR.mk
      go_simp
      with_reducible rfl
     simp only [sA,sB,sC]
     refine tqh hsure hS 1 ?_
     apply Exists.intro
     apply And.intro
     ·rintro w' k1
      have cc0:=hci k1 2 rfl
      apply VR.mk
      go_simp
      with_reducible rfl
     simp only [sA,sB,sC]
     refine tqh hsure hS 2 ?_
     apply Exists.intro
     apply And.intro
     ·rintro w' k1
      apply VR.mk
      go_simp
      with_reducible rfl
     simp only [sA,sB,sC]
     refine tqh hsure hS 3 ?_
     apply Exists.intro
     apply And.intro
     ·rintro w' k1
      apply VR.mk
      go_simp
      with_reducible rfl
     simp only [sA,sB,sC]
     refine tqh hsure hS 4 ?_
     apply Exists.intro
     apply And.intro
     ·rintro w' k1
      apply VR.mk
      go_simp
      with_reducible rfl
     simp only [sA,sB,sC]
     refine tqh hsure hS 5 ?_
     apply Exists.intro
     apply And.intro
     ·rintro w' k1
      apply VR.mk
      go_simp
      with_reducible rfl
     simp only [sA,sB,sC]
     refine tree_endQ (by kernel_rfl) ?_
     rw [<- hQQ]
     go_wp2
     go_ret3
     rw [<- HE.out]
     exact ⟨b5,rfl⟩
    ·rw [if_neg hz] at hE
     have HE:=am hE
     have hne:ne = 0:=by have h:=nextN_ok (l:=fromN s a) (by rw [ht];exact hz);rwa [ht] at h
     have kne:(ne != 0) = false:=by simp [hne]
     skip
     go_wp2_with (first
       | (
        go_at_call 23
        (with_reducible refine Calls.mono (next_said m s a wb _ HH.out HM.out hwb' hlt hs) ?_)
        rintro en w4 ⟨hk4,hq4⟩
        clear c1
        rw [HNX.out,if_neg hz] at hq4
        obtain ⟨rfl,hh4,hle4⟩:=hq4
        replace HB:=am (below_tr HB.out (Par.Kept.below_of hk4 (B:=w.heap.size) (fun b hb=>by omega) HB.out.size))
        replace HM:=am (own_kept HM.out hk4 hwb')
        replace HR:=am (R35_kept HR.out hk4 (Nat.lt_succ_self m))
        replace HH:=am hh4
        have hml4:=hh4.lt
        have b5:=below_alloc (Below.refl w4.heap.size w4) (Obj.cells #[.int .i64 tk,.string (s.extract a (a + n)),.int .i64 (a:Int)] 35)
        have HT:=am (Has.new w4 #[.int .i64 tk,.string (s.extract a (a + n)),.int .i64 (a:Int)] 35)
        replace HH:=am (HH.out.belowS b5)
        replace HM:=am (own_below HM.out b5)
        replace HR:=am (Kd.R_below HR.out b5)
        replace HB:=am (below_alloc HB.out (Obj.cells #[.int .i64 tk,.string (s.extract a (a + n)),.int .i64 (a:Int)] 35))
        clear b5 hh4 hk4
        obtain ⟨w5,hw5⟩:∃ W,w4.alloc (Obj.cells #[.int .i64 tk,.string (s.extract a (a + n)),.int .i64 (a:Int)] 35) = W:=⟨_,rfl⟩
        rw [hw5] at HH HM HR HB HT
        have hz5:w4.heap.size < w5.heap.size:=HT.out.lt
        have HW5:=am hw5
        clear hw5)
       | (
        (with_reducible refine gate_dst (N:=38) rfl ?_)
        rw [HW5.out]
        go_must (refine Kd.event_run rfl (load35 w5 w4.heap.size #[.int .i64 tk,.string (s.extract a (a + n)),.int .i64 (a:Int)] HT.out rfl _ _ _ rfl rfl) ?_))
       | (
        at_builtin
        refine Kd.R_append k35 (w0:=w5) (m + 1) rfl (.tmp 37) (.tmp 39) 31 35 (.agg #[.int .i64 0,.string ⟨#[]⟩,.int .i64 0]) 32 rfl Tryd.underlying31 info35 rfl (by decide) (by decide) (.slice A acc.length c) acc ⟨tk,s.extract a (a + n),(a:Int)⟩ _ Any (fun _=>False) rfl rfl (k35_mkM _ _ _ _) (fun _ h=>h.elim) (fun _ _=>trivial) HR.out (Below.refl _ _) (by omega) (by omega) ?_
        intro v6 w6 hR6 _ hG6 hat6)
       | (
        go_at_call 22
        have hrow:∀ kk,(Value.slice A acc.length c).ownBlock = some kk -> m + 1 <= kk:=fun kk h=>((Kd.R_bound HR.out).1 kk h).2.1
        have hm6:some m ≠ (Value.slice A acc.length c).ownBlock:=fun h=>by have:=hrow m h.symm;omega
        have hw6:some wb ≠ (Value.slice A acc.length c).ownBlock:=fun h=>by have:=hrow wb h.symm;omega
        replace HH:=am (HH.out.of_block (hG6.block m HH.out.lt hm6))
        replace HM:=am (HM.out.kept hG6 hw6)
        replace HB:=am (pw_below_grown HB.out _ HB.out.size hG6 (fun kk h=>by have:=hrow kk h;omega))
        have HR6:=am hR6
        clear hR6 hrow hm6 hw6 hat6 hG6
        (with_reducible refine Calls.mono (skip_said m s (a + n) (.map (some wb)) _ HH.out hle4 hs) ?_)
        rintro en w7 ⟨rfl,hk7,hh7,hl7⟩
        replace HB:=am (below_tr HB.out (Par.Kept.below_of hk7 (B:=w.heap.size) (fun b hb=>by omega) HB.out.size))
        replace HM:=am (own_kept HM.out hk7 hwb')
        replace HR6:=am (R35_kept HR6.out hk7 (Nat.lt_succ_self m))
        replace HH:=am hh7
        clear hk7 hh7))
     go_roundg k
     case measure=>omega
     case rel =>
      have HE2:=HE.out
      rw [preE_pre] at HE2
      exact ⟨⟨_,_,hl7,HH.out,HM.out,HR6.out,fun h=>by simp at h,by simp;omega,HB.out,HE2,by omega⟩⟩
   ·have kl:decide ((a:Int) < (s.size:Int)) = false:=decide_eq_false (by omega)
    rw [from_end (by omega)] at hE
    have HE:=am hE
    clear hE
    by_cases hnil:acc = []
    ·subst hnil
     have hv0:=HV.out rfl
     injection hv0 with hA hn hc
     subst hA hc
     go_wp2
     go_ret3
     rw [<- HE.out]
     exact ⟨HB.out,none,0,rfl,Nat.le_refl 0,nil_row _ _,fun ad h=>by cases h⟩
    ·obtain ⟨hcl,hcc,hC⟩:=Kd.R_reads' HR.out
     obtain ⟨_,inner,hown,_⟩:=HR.out
     obtain ⟨g,cap,h1,h2,h3⟩:=hown.form (by
      rcases Nat.eq_zero_or_pos acc.length with h | h
      ·exact absurd (List.eq_nil_of_length_eq_zero h) hnil
      ·exact h)
     injection h1 with hA hn hc
     subst hA hc
     have hrt:Aside0 (RowT wr (some ⟨g,0,none⟩)):=⟨fun ad h=>by
      injection h with h
      subst h
      exact own_typed hown g rfl⟩
     have hC:=am hC
     clear hown
     go_wp2
     go_ret3
     rw [<- HE.out]
     simp only [preE,List.append_nil,lexN]
     exact ⟨HB.out,_,_,rfl,Nat.le_refl _,hC.out,hrt.out⟩
end Go.Proofs.YtngpgdmafmkddaaDoor.Lex
end
section
namespace Go.Proofs.YtngpgdmafmkddaaDoor.Par
open Go.RowKit Go.Proofs.YtngpgdmafmkddaaDoorW.PrintWords Go.Proofs.YtngpgdmafmkddaaDoorW.PrintLast Go.Proofs.YtngpgdmafmkddaaDoorW.PrintMore
open Go.Proofs.YtngpgdmafmkddaaDoor.PParseBlanks (S35 S25 S27 k35 k25 k27 rd_T35 rd_T25 rd_T27 at_T35 at_T25 at_T27)
set_option linter.unusedVariables false
set_option linter.unusedSimpArgs false
def TreeOK (n:Nat):Prop := ∀ (g:Nat) (e d:Int) (op:Bool) (l:List S35) (w:World),0 <= d -> d <= 1000 -> PS w g l e -> climbP e n d op 1 l ≠ .out ->
 Calls Tryd.prog 18 #[.pointer (some ⟨g,0,none⟩),.int .i64 d,.bool op] w (PPost g e (VE w.heap.size) (climbP e n d op 1 l) w)
def BehindOK (n:Nat):Prop := ∀ (g:Nat) (e d:Int) (x:S27) (v:Value) (B:Nat) (l:List S35) (w:World),0 <= d -> d < 60 -> PS w g l e -> VE B w v x -> B <= w.heap.size -> behindP e n d x l ≠ .out ->
 Calls Tryd.prog 78 #[.pointer (some ⟨g,0,none⟩),v,.int .i64 d] w (PPost g e (VE B) (behindP e n d x l) w)
theorem PS.rowP {w:World} {g r0:Nat} {l:List S35} {e:Int} {old:Array Value} (h:PS w g l e) (hr:Has w r0 old 27) (cs:Array Value):PS (w.setRow r0 cs) g l e:=by
 obtain ⟨A,c,HP⟩:=h
 exact ⟨A,c,has_row_other HP.has (HP.has.ne hr (by decide)),HP.le,C_row HP.toks (HP.row.ne hr (by decide)) _,HP.row.of fun ad ea=>row_block _ _ _ _ (HP.row.ne hr (by decide) ad ea)⟩
set_option maxRecDepth 100000 in
set_option maxHeartbeats 2000000 in
theorem tree_ok {n:Nat} (HC:ClimbOK n):TreeOK n:=by
 intro g e d op l w h0 h1 HP hne
 unfold ClimbOK at HC
 have HPS:=am HP
 have HCC:=am HC
 have hu27:=Tryd.underlying27
 have B0:=below_alloc (Below.refl w.heap.size w) (Obj.cells #[.int .i64 0,.int .i64 0,.int .i64 0,.string ⟨#[]⟩,.slice none 0 0,.slice none 0 0,.int .i64 0,.string ⟨#[]⟩,.int .i64 0,.slice none 0 0] 27)
 obtain ⟨A0,c0,HP0⟩:=HP
 have hgw:g < w.heap.size:=HP0.has.lt
 clear HP0 HC
 cases hr:climbP e n d op 1 l with
 | out=>exact absurd hr hne
 | bad a er =>
  have HR:=am hr
  clear hr hne
  go_enter Tryd.func18,Tryd.ntmps18
  go_wp2_with (go_at_call 28;(with_reducible refine (HCC.out g e d op 1 l _ h0 h1 (by omega) (by omega) (HPS.out.below B0) (by rw [HR.out];exact PR.bad_ne _ _)).mono ?_);rintro en w1 ⟨hk,hq⟩;rw [HR.out] at hq;subst hq)
  exact ⟨rfl,(Kept.of_below B0).then_ hk,rfl⟩
 | ok x l2 =>
  have HR:=am hr
  clear hr hne
  go_enter Tryd.func18,Tryd.ntmps18
  go_wp2_with (first | (go_at_call 28;(with_reducible refine (HCC.out g e d op 1 l _ h0 h1 (by omega) (by omega) (HPS.out.below B0) (by rw [HR.out];exact PR.ok_ne _ _)).mono ?_);rintro en w1 ⟨hk,hq⟩;rw [HR.out] at hq;obtain ⟨v,rfl,hv,hp⟩:=hq;obtain ⟨a4,ac4,a5,ac5,a9,ac9,rfl⟩:=hv.form;have HZ1:=am (Kept.has hk (Has.new w #[.int .i64 0,.int .i64 0,.int .i64 0,.string ⟨#[]⟩,.slice none 0 0,.slice none 0 0,.int .i64 0,.string ⟨#[]⟩,.int .i64 0,.slice none 0 0] 27) (by omega))) | ((with_reducible refine gate_store (t:=27) (p:=6) rfl ?_);go_must (refine store_event (t:=27) (p:=6) (v:=.tmp 10) (w1:=w1.setRow w.heap.size #[.int .i64 x.f0,.int .i64 x.f1,.int .i64 x.f2,.string x.f3,.slice a4 x.f4.length ac4,.slice a5 x.f5.length ac5,.int .i64 x.f6.f0,.string x.f6.f1,.int .i64 x.f6.f2,.slice a9 x.f6.f3.length ac9]) ?hg ?ho ?hn ?hr ?_;(case ho=>rfl);(case hg=>rfl);(case hn=>rfl);(case hr=>exact store27 w1 _ _ _ HZ1.out rfl rfl (by first | kernel_rfl | (simp [Value.oneCell'])) _ _ _ _ rfl rfl rfl);intro w7 hw7;subst hw7)))
  have HR7:=has_row HZ1.out #[.int .i64 x.f0,.int .i64 x.f1,.int .i64 x.f2,.string x.f3,.slice a4 x.f4.length ac4,.slice a5 x.f5.length ac5,.int .i64 x.f6.f0,.string x.f6.f1,.int .i64 x.f6.f2,.slice a9 x.f6.f3.length ac9]
  have HV7:VE w.heap.size (w1.setRow w.heap.size #[.int .i64 x.f0,.int .i64 x.f1,.int .i64 x.f2,.string x.f3,.slice a4 x.f4.length ac4,.slice a5 x.f5.length ac5,.int .i64 x.f6.f0,.string x.f6.f1,.int .i64 x.f6.f2,.slice a9 x.f6.f3.length ac9]) (.agg #[.int .i64 x.f0,.int .i64 x.f1,.int .i64 x.f2,.string x.f3,.slice a4 x.f4.length ac4,.slice a5 x.f5.length ac5,.int .i64 x.f6.f0,.string x.f6.f1,.int .i64 x.f6.f2,.slice a9 x.f6.f3.length ac9]) x:=(VO.row (hv.lower (show w.heap.size + 1 <= _ from by simp)) (Nat.lt_succ_self _) _).lower (Nat.le_succ _)
  refine bodyPost_ret (results_cell_row rfl _ _ w.heap.size 27 #[.int .i64 x.f0,.int .i64 x.f1,.int .i64 x.f2,.string x.f3,.slice a4 x.f4.length ac4,.slice a5 x.f5.length ac5,.int .i64 x.f6.f0,.string x.f6.f1,.int .i64 x.f6.f2,.slice a9 x.f6.f3.length ac9] (0,0) _ rfl HR7 Tryd.underlying27 rfl (by rfl)) rfl ?_
  exact ⟨kept_row ((Kept.of_below B0).then_ hk) (Nat.le_refl _) _,_,rfl,HV7,hp.rowP HZ1.out _⟩
end Go.Proofs.YtngpgdmafmkddaaDoor.Par
end
section
namespace Go.Proofs.YtngpgdmafmkddaaDoor.Par
open Go.RowKit Go.Proofs.YtngpgdmafmkddaaDoorW.PrintWords Go.Proofs.YtngpgdmafmkddaaDoorW.PrintLast Go.Proofs.YtngpgdmafmkddaaDoorW.PrintMore
open Go.Proofs.YtngpgdmafmkddaaDoor.PParseBlanks (S35 S25 S27 k35 k25 k27 rd_T35 rd_T25 rd_T27 at_T35 at_T25 at_T27)
set_option linter.unusedVariables false
set_option linter.unusedSimpArgs false
open Go.Proofs.YtngpgdmafmkddaaDoor.Calm
theorem info35:(Tryd.prog.info? 35).map (fun i=>(i.zero,i.size,i.bytes)) = some (some (.agg #[.int .i64 0,.string ⟨#[]⟩,.int .i64 0]),3,32):=by kernel_rfl
theorem none35 (W:World) (B:Nat) (hB:B <= W.heap.size):k35.R 35 (W.alloc (.cells #[] 35)) B Any (.slice (some ⟨W.heap.size,0,none⟩) 0 0) []:=
 ⟨fun _ _=>trivial,OwnRow.lit W B (Reps.none _ _) hB (by simp)⟩
set_option maxRecDepth 100000 in
set_option maxHeartbeats 2000000 in
theorem clone_said (l:List S35) (ad:Addr) (c:Nat) (w:World) (HT:Kd.C k35 w (some ad) l.length l) (hl:l.length < 1000000) :
  Calls Tryd.prog 74 #[.slice (some ad) l.length c] w fun en w' => Below w.heap.size w w' /\ ∃ v,en = .returned v /\ k35.R 35 w' w.heap.size Any v l:=by
 have HTT:=am HT
 have HLL:=am hl
 have hbq:∀ w:World,(binOp .eql 31 (.slice (some ad) l.length c) (.slice none 0 0)).run Tryd.prog w = .ok (.bool false) w:=fun w=>Go.Lib.run_eql_slice_nil w 31 35 (some ad) l.length c 0 0 Tryd.underlying31
 clear HT hl
 go_enter Tryd.func74,Tryd.ntmps74
 go_wp2_with (refine Kd.R_append_rows k35 (w0:=w) w.heap.size rfl (.tmp 5) (.tmp 6) 31 35 (.agg #[.int .i64 0,.string ⟨#[]⟩,.int .i64 0]) 32 rfl Tryd.underlying31 info35 rfl (by decide) (by decide) (.slice (some ⟨w.heap.size,0,none⟩) 0 0) [] l (some ad) l.length c Any (fun _=>False) (by rfl) (by rfl) (none35 w _ (Nat.le_refl _)) (Kd.C_below HTT.out (below_alloc (Below.refl _ _) _)) (fun x cs h=>by rw [PParseBlanks.k35_open h];exact PParseBlanks.k35_mkM _ _ _ _) (fun _ h=>h.elim) (fun _ _=>trivial) (below_alloc (Below.refl _ _) _) (by simp) (by have:=HLL.out;simp;omega) ?_;intro v1 w1 h1 h2 _ _)
 go_ret
 exact ⟨h2,_,rfl,h1⟩
theorem C_split {W:World} {b:Nat} {t:S35} {r:List S35} {cur:Array Value} (h:Kd.C k35 W (some ⟨b,0,none⟩) (t :: r).length (t :: r)) (hb:Has W b cur 35) (s:ByteArray) (a:Int) :
  Kd.C k35 ((W.setCell ⟨b,1,none⟩ (.string s)).setCell ⟨b,2,none⟩ (.int .i64 a)) (some ⟨b,0,none⟩) (t :: r).length (⟨t.f0,s,a⟩ :: r):=by
 obtain ⟨ad,e0,q0,q1,q2⟩:=tok0 h
 obtain rfl:=Option.some.inj e0
 have h2:=(hb.set_ 1 (.string s)).set_ 2 (.int .i64 a)
 rw [hb.cell] at q0
 have q1':=q1
 rw [show (⟨b,0 + 1,none⟩:Addr) = ⟨b,1,none⟩ from rfl,hb.cell] at q1
 rw [show (⟨b,0 + 2,none⟩:Addr) = ⟨b,2,none⟩ from rfl,hb.cell] at q2
 have z1:1 < cur.size:=(Array.getElem?_eq_some_iff.1 q1).1
 have z2:2 < cur.size:=(Array.getElem?_eq_some_iff.1 q2).1
 obtain ⟨h1,hm,hc⟩:=h
 obtain ⟨ad,e,hc⟩:=hc (by simp)
 obtain rfl:=Option.some.inj e
 refine ⟨by simp,hm,fun _=>⟨_,rfl,fun j p hj => ?_⟩⟩
 have A:∀ k:Nat,((⟨b,0,none⟩:Addr).add k) = ⟨b,k,none⟩:=fun k=>by
  unfold Addr.add
  split
  ·next h=>subst h;rfl
  ·simp
 cases j with
 | zero =>
  obtain rfl:(⟨t.f0,s,a⟩:S35) = p:=by simpa using hj
  refine ⟨_,rfl,PParseBlanks.k35_mk _ _,fun i u hi => ?_⟩
  rw [A,h2.cell]
  match i,hi with
  | 0,hi=>simpa [q0,k35,Kd.iso] using hi
  | 1,hi=>simpa [z1,k35,Kd.iso] using hi
  | 2,hi=>simpa [z2,k35,Kd.iso] using hi
  | i + 3,hi=>simp at hi
 | succ j =>
  obtain ⟨c,hl,hr,hcell⟩:=hc (j + 1) p (by simpa using hj)
  refine ⟨c,hl,by rw [PParseBlanks.k35_open hr];exact PParseBlanks.k35_mk _ _,fun i u hi => ?_⟩
  have:=hcell i u hi
  rw [A,hb.cell] at this
  rw [A,h2.cell]
  have e3:(j + 1) * k35.sz + i = (j + 1) * 3 + i:=rfl
  rw [e3] at this ⊢
  simpa [show ¬ 1 = (j + 1) * 3 + i by omega,show ¬ 2 = (j + 1) * 3 + i by omega,Array.getElem?_setIfInBounds] using this
theorem own35 {w:World} {B:Nat} {v:Value} {xs:List S35} (h:k35.R 35 w B Any v xs) (hn:0 < xs.length):∃ b c cur,v = .slice (some ⟨b,0,none⟩) xs.length c /\ B <= b /\ xs.length <= c /\ Has w b cur 35 /\ Kd.C k35 w (some ⟨b,0,none⟩) xs.length xs:=by
 obtain ⟨A,c,rfl,hc,hC⟩:=Kd.R_reads h
 obtain ⟨_,inner,hown,_⟩:=h
 rcases hown.2 with ⟨e1,e2⟩ | ⟨b,cap,cur,e,hb,hg,_⟩
 ·injection e1 with e1 e3 e4
  omega
 ·injection e with e1 e2 e3
  subst e1
  exact ⟨b,c,cur,rfl,hb,hc,hg,hC⟩
set_option maxRecDepth 100000 in
set_option maxHeartbeats 2000000 in
theorem close_said (g:Nat) (l:List S35) (e:Int) (w:World) (H:PS w g l e) (hne:closeP e l ≠ .out) :
  Calls Tryd.prog 65 #[.pointer (some ⟨g,0,none⟩)] w (PPost g e (fun _ v (_:Unit)=>v = .tuple #[]) (closeP e l) w):=by
 have HP:=am H
 cases hi:isP sShr l with
 | false =>
  have HI:=am hi
  have HC:Aside0 (closeP e l = needP e sGt l):=⟨by
   cases l with
   | nil=>rfl
   | cons t r=>exact if_neg (by rw [hi];decide)⟩
  clear H hi hne
  cases h2:isP sGt l with
  | true =>
   have H2:=am h2
   have HC2:Aside0 (closeP e l = .ok () l.tail):=⟨HC.out.trans (if_pos h2)⟩
   clear h2 HC
   go_enter Tryd.func65,Tryd.ntmps65
   go_wp2_with (first
    | (go_at_call 60;(with_reducible refine (is_ps sShr HP.out).mono ?_);rintro en w1 ⟨he,hb⟩;rw [HI.out] at he;subst he)
    | (go_at_call 42;(with_reducible refine Calls.mono (need_yes sGt (HP.out.below hb) H2.out) ?_);rintro en w2 ⟨rfl,hk,hp⟩))
   refine bodyPost_end (results_none rfl _ _ _) rfl ?_
   rw [HC2.out]
   exact ⟨(Kept.of_below hb).then_ hk,_,rfl,rfl,hp⟩
  | false =>
   have H2:=am h2
   have HC2:Aside0 (closeP e l = .bad (atP e l) 30):=⟨HC.out.trans (if_neg (by rw [h2];decide))⟩
   clear h2 HC
   go_enter Tryd.func65,Tryd.ntmps65
   go_wp2_with (first
    | (go_at_call 60;(with_reducible refine (is_ps sShr HP.out).mono ?_);rintro en w1 ⟨he,hb⟩;rw [HI.out] at he;subst he)
    | (go_at_call 42;(with_reducible refine Calls.mono (need_no sGt (HP.out.below hb) H2.out) ?_);rintro en w2 ⟨rfl,hk⟩))
   rw [HC2.out]
   exact ⟨rfl,(Kept.of_below hb).then_ hk,rfl⟩
 | true =>
  cases l with
  | nil=>exact Bool.noConfusion hi
  | cons t r =>
   have HC:closeP e (t :: r) = (if 0 <= t.f2 /\ t.f2 < 4611686018427387904 /\ (t :: r).length < 1000000 then .ok () (⟨t.f0,sGt,t.f2 + 1⟩ :: r) else .out):=by simp only [closeP];rw [if_pos hi]
   by_cases hb0:0 <= t.f2 /\ t.f2 < 4611686018427387904 /\ (t :: r).length < 1000000
   ·rw [if_pos hb0] at HC
    obtain ⟨A,c,HPA⟩:=H
    obtain ⟨ad,rfl, -, -, -⟩:=tok0 HPA.toks
    have hn:0 < (t :: r).length:=by simp
    have HCC:=am HC
    have HI:=am hi
    have HPP:=am HPA
    have HL:=am hb0
    clear HC hi hne hb0
    obtain ⟨n,hN⟩:∃ n,(t :: r).length = n:=⟨_,rfl⟩
    have B0:=am (Below.refl w.heap.size w)
    have HCL:Aside0 (∀ w' : World,Kd.C k35 w' (some ad) (t :: r).length (t :: r) -> Calls Tryd.prog 74 #[.slice (some ad) n c] w' fun en w2=>Below w'.heap.size w' w2 /\ ∃ v,en = .returned v /\ k35.R 35 w2 w'.heap.size Any v (t :: r)):=⟨fun w' h=>by rw [<- hN];exact clone_said (t :: r) ad c w' h HL.out.2.2⟩
    clear HPA
    go_enter Tryd.func65,Tryd.ntmps65
    go_wp2_with (first
     | (go_at_call 60;(with_reducible refine (is_ps sShr HP.out).mono ?_);rintro en w1 ⟨he,hb⟩;rw [HI.out] at he;subst he;have hs1:=hb.size;replace B0:=am hb;replace HPP:=am (HPP.out.below hb);have c1:=hci HPP.out.has 0 rfl;clear HP)
     | (go_at_call 74;refine Calls.mono (HCL.out _ HPP.out.toks) ?_;rintro en w2 ⟨hb,v,rfl,hR⟩;obtain ⟨b,cp,cur,rfl,hbB,hcp,hHb,hTk⟩:=own35 hR hn;rw [hN];replace B0:=am (below_then B0.out B0.out.size hb);replace HPP:=am (HPP.out.below hb);clear c1;have c1:=HPP.out.has.cell 0;have f1:=HPP.out.has.frozen 0;simp only [List.getElem?_toArray,List.getElem?_cons_zero,List.getElem?_cons_succ] at c1))
    have hbg:b ≠ g:=hHb.ne HPP.out.has (by decide)
    have hX:=am (HPP.out.has.set_ 0 (.slice (some ⟨b,0,none⟩) n cp))
    have hB:=am (hHb.other (a:=⟨g,0,none⟩) hbg (.slice (some ⟨b,0,none⟩) n cp))
    have hT:=am (C_far hTk (p:=⟨g,0,none⟩) (fun ad e=>by injection e with e;subst e;exact hbg) (.slice (some ⟨b,0,none⟩) n cp))
    have hK:=am (((Kept.refl (fun x=>x = g) w).below B0.out).setCell (a:=⟨g,0,none⟩) rfl (.slice (some ⟨b,0,none⟩) n cp))
    have hbw:w.heap.size <= b:=by omega
    have hSZ:=am HPP.out.le.2
    clear hR hTk hHb HPP B0 hb c1 f1
    generalize w2.setCell ⟨g,0,none⟩ (.slice (some ⟨b,0,none⟩) n cp) = w3 at *
    have hD:=below_drew (Below.refl w3.heap.size w3)
    replace hX:=am (hX.out.belowS hD)
    replace hB:=am (hB.out.belowS hD)
    replace hT:=am (Kd.C_below hT.out hD)
    replace hK:=am (Kept.below hK.out hD)
    clear hD
    obtain ⟨W,hW⟩:∃ W,w3.drew = W:=⟨_,rfl⟩
    rw [hW] at hX hB hT hK
    obtain ⟨ad2,e2,q0,q1,q2⟩:=tok0 hT.out
    obtain rfl:=Option.some.inj e2
    simp only [Nat.zero_add] at q1 q2
    have fb1:=hB.out.frozen 1
    have fb2:=hB.out.frozen 2
    have fb12:=(hB.out.set_ 1 (.string sGt)).frozen 2
    have hl:0 < n:=by omega
    have kw:IntKind.i64.wrap (t.f2 + 1) = t.f2 + 1:=IntWalk.i64_in _ (by have:=HL.out;omega)
    have HN:=am hN
    clear hN hn
    refine region_treeR 21 (by kernel_rfl) (by kernel_rfl) (fun w' => Has w' g #[.slice (some ⟨b,0,none⟩) n cp,.int .i64 e] 76 /\ w'.cell? ⟨b,2,none⟩ = some (.int .i64 t.f2)) (hW ▸ ⟨hX.out,q2⟩) fun hS => ?_
    rw [hW] at hS ⊢
    clear hW
    simp only [List.take_succ_cons,List.take_zero]
    generalize hQQ:tailK _ _ = QQ
    have hsure:Sure QQ:=by
     rw [<- hQQ]
     intro c a a' w1 hd h
     simp +zetaDelta only [tailK,Exit.then,Exit.inBlock,bodyPost] at h ⊢
     simpa [hd] using h
    refine tqh hsure hS 0 ?_
    apply Exists.intro
    apply And.intro
    ·rintro w' ⟨k1,k2⟩
     have cc0:=hci k1 0 rfl
     clear k1
     apply VR.mk
     go_simp
     with_reducible rfl
    simp only [sA,sB,sC]
    refine tqh hsure hS 1 ?_
    apply Exists.intro
    apply And.intro
    ·rintro w' ⟨k1,k2⟩
     have cc0:=hci k1 0 rfl
     clear k1
     apply VR.mk
     go_simp
     with_reducible rfl
    simp only [sA,sB,sC]
    refine tqh hsure hS 2 ?_
    apply Exists.intro
    apply And.intro
    ·rintro w' ⟨k1,k2⟩
     have cc0:=hci k1 0 rfl
     clear k1
     apply VR.mk
     go_simp
     with_reducible rfl
    simp only [sA,sB,sC]
    refine tqh hsure hS 3 ?_
    apply Exists.intro
    apply And.intro
    ·rintro w' ⟨k1,k2⟩
     have cc0:=hci k1 0 rfl
     clear k1
     apply VR.mk
     go_simp
     with_reducible rfl
    simp only [sA,sB,sC]
    refine tqh hsure hS 4 ?_
    apply Exists.intro
    apply And.intro
    ·rintro w' ⟨k1,k2⟩
     have cc0:=hci k1 0 rfl
     clear k1
     apply VR.mk
     go_simp
     with_reducible rfl
    simp only [sA,sB,sC]
    refine tqh hsure hS 5 ?_
    apply Exists.intro
    apply And.intro
    ·rintro w' ⟨k1,k2⟩
     have cc0:=hci k1 0 rfl
     clear k1
     apply VR.mk
     go_simp
     with_reducible rfl
    simp only [sA,sB,sC]
    refine tqh hsure hS 6 ?_
    apply Exists.intro
    apply And.intro
    ·rintro w' ⟨k1,k2⟩
     have cc0:=hci k1 0 rfl
     clear k1
     apply VR.mk
     go_simp
     with_reducible rfl
    simp only [sA,sB,sC]
    refine tqh hsure hS 7 ?_
    apply Exists.intro
    apply And.intro
    ·rintro w' ⟨k1,k2⟩
     have cc0:=hci k1 0 rfl
     clear k1
     apply VR.mk
     go_simp
     with_reducible rfl
    simp only [sA,sB,sC]
    refine tqh hsure hS 8 ?_
    apply Exists.intro
    apply And.intro
    ·rintro w' ⟨k1,k2⟩
     have cc0:=hci k1 0 rfl
     clear k1
     apply VR.mk
     go_simp
     with_reducible rfl
    simp only [sA,sB,sC]
    refine tqh hsure hS 9 ?_
    apply Exists.intro
    apply And.intro
    ·rintro w' ⟨k1,k2⟩
     have cc0:=hci k1 0 rfl
     clear k1
     apply VR.mk
     go_simp
     with_reducible rfl
    simp only [sA,sB,sC]
    refine tqh hsure hS 10 ?_
    apply Exists.intro
    apply And.intro
    ·rintro w' ⟨k1,k2⟩
     have cc0:=hci k1 0 rfl
     clear k1
     apply VR.mk
     go_simp
     with_reducible rfl
    simp only [sA,sB,sC]
    refine tqh hsure hS 11 ?_
    apply Exists.intro
    apply And.intro
    ·rintro w' ⟨k1,k2⟩
     have cc0:=hci k1 0 rfl
     clear k1
     apply VR.mk
     go_simp
     with_reducible rfl
    simp only [sA,sB,sC]
    refine tqh hsure hS 12 ?_
    apply Exists.intro
    apply And.intro
    ·rintro w' ⟨k1,k2⟩
     have cc0:=hci k1 0 rfl
     clear k1
     apply VR.mk
     go_simp
     with_reducible rfl
    simp only [sA,sB,sC]
    refine tqh hsure hS 13 ?_
    apply Exists.intro
    apply And.intro
    ·rintro w' ⟨k1,k2⟩
     have cc0:=hci k1 0 rfl
     clear k1
     apply VR.mk
     go_simp
     with_reducible rfl
    simp only [sA,sB,sC]
    refine tqh hsure hS 14 ?_
    apply Exists.intro
    apply And.intro
    ·rintro w' ⟨k1,k2⟩
     have cc0:=hci k1 0 rfl
     clear k1
     apply VR.mk
     go_simp
     with_reducible rfl
    simp only [sA,sB,sC]
    refine tqh hsure hS 15 ?_
    apply Exists.intro
    apply And.intro
    ·rintro w' ⟨k1,k2⟩
     have cc0:=hci k1 0 rfl
     clear k1
     apply VR.mk
     go_simp
     with_reducible rfl
    simp only [sA,sB,sC]
    refine tqh hsure hS 16 ?_
    apply Exists.intro
    apply And.intro
    ·rintro w' ⟨k1,k2⟩
     have cc0:=hci k1 0 rfl
     clear k1
     apply VR.mk
     go_simp
     with_reducible rfl
    simp only [sA,sB,sC]
    refine tqh hsure hS 17 ?_
    apply Exists.intro
    apply And.intro
    ·rintro w' ⟨k1,k2⟩
     have cc0:=hci k1 0 rfl
     clear k1
     apply VR.mk
     go_simp
     with_reducible rfl
    simp only [sA,sB,sC]
    refine tree_1Q (i:=18) (by kernel_rfl) ?_
    refine step_list (by rfl) ?_
    go_wp2
    have hS2:Has (W.setCell ⟨b,1,none⟩ (.string sGt)) g #[.slice (some ⟨b,0,none⟩) n cp,.int .i64 e] 76 /\ (W.setCell ⟨b,1,none⟩ (.string sGt)).cell? ⟨b,2,none⟩ = some (.int .i64 t.f2):=⟨hX.out.other (a:=⟨b,1,none⟩) (Ne.symm hbg) _,by rw [hB.out.cell] at q2;rw [(hB.out.set_ 1 (.string sGt)).cell];simpa using q2⟩
    have q22:=hS2.2
    refine ⟨hS2, ?_⟩
    refine tqh hsure hS2 19 ?_
    apply Exists.intro
    apply And.intro
    ·rintro w' ⟨k1,k2⟩
     have cc0:=hci k1 0 rfl
     clear k1
     apply VR.mk
     go_simp
     with_reducible rfl
    simp only [sA,sB,sC]
    refine tqh hsure hS2 20 ?_
    apply Exists.intro
    apply And.intro
    ·rintro w' ⟨k1,k2⟩
     have cc0:=hci k1 0 rfl
     clear k1
     apply VR.mk
     go_simp
     with_reducible rfl
    simp only [sA,sB,sC]
    rw [<- hQQ]
    refine tree_doneR (by kernel_rfl) ?_
    refine restQ_tree (fun _=>True) ?_
    clear hsure hS hQQ
    refine tree_1Q (i:=21) (by kernel_rfl) ?_
    refine step_list (by rfl) ?_
    go_wp2
    refine ⟨trivial,tree_endQ (by kernel_rfl) ?_⟩
    go_wp2
    refine bodyPost_end (results_none rfl _ _ _) rfl ?_
    rw [HCC.out]
    have hK2:=(hK.out.setCellG (a:=⟨b,1,none⟩) hbw (.string sGt)).setCellG (a:=⟨b,2,none⟩) hbw (.int .i64 (t.f2 + 1))
    have hB2:=(hB.out.set_ 1 (.string sGt)).set_ 2 (.int .i64 (t.f2 + 1))
    have hX2:=(hX.out.other (a:=⟨b,1,none⟩) (Ne.symm hbg) (.string sGt)).other (a:=⟨b,2,none⟩) (Ne.symm hbg) (.int .i64 (t.f2 + 1))
    have hl2:(⟨t.f0,sGt,t.f2 + 1⟩ :: r:List S35).length = n:=HN.out
    refine ⟨hK2,_,rfl,rfl,some ⟨b,0,none⟩,cp, ?_,⟨by rw [hl2];exact HN.out ▸ hcp, ?_⟩, ?_, ?_⟩
    ·rw [hl2];exact hX2
    ·intro x hx
     rcases List.mem_cons.1 hx with rfl | hx
     ·show (1:Nat) < 4611686018427387904;decide
     ·exact hSZ.out x (List.mem_cons_of_mem _ hx)
    ·exact C_split hT.out hB.out sGt (t.f2 + 1)
    ·intro ad2 e2
     injection e2 with e2
     subst e2
     exact ⟨_,hB2⟩
   ·rw [if_neg hb0] at HC
    exact absurd HC hne
end Go.Proofs.YtngpgdmafmkddaaDoor.Par
end
section
namespace Go.Proofs.YtngpgdmafmkddaaDoor.Par
open Go.RowKit Go.Proofs.YtngpgdmafmkddaaDoorW.PrintWords Go.Proofs.YtngpgdmafmkddaaDoorW.PrintLast Go.Proofs.YtngpgdmafmkddaaDoorW.PrintMore
open Go.Proofs.YtngpgdmafmkddaaDoor.PParseBlanks (S35 S25 S27 k35 k25 k27 rd_T35 rd_T25 rd_T27 at_T35 at_T25 at_T27)
set_option linter.unusedVariables false
set_option linter.unusedSimpArgs false
open Go.Maps Go.WideMaps
theorem PS.rowX {w:World} {g r0:Nat} {l:List S35} {e:Int} {old:Array Value} {t:TypeId} (h:PS w g l e) (hr:Has w r0 old t) (h1:t ≠ 35) (h2:t ≠ 76) (cs:Array Value):PS (w.setRow r0 cs) g l e:=by
 obtain ⟨A,c,HP⟩:=h
 exact ⟨A,c,has_row_other HP.has (HP.has.ne hr (Ne.symm h2)),HP.le,C_row HP.toks (HP.row.ne hr h1) _,HP.row.of fun ad ea=>row_block _ _ _ _ (HP.row.ne hr h1 ad ea)⟩
theorem VT.row {B g:Nat} {w:World} {v:Value} {t:S25} (h:VT B w v t) (hg:g < B) (cs:Array Value):VT B (w.setRow g cs) v t:=h.far fun k h1 _=>row_block w g k cs (by omega)
set_option maxRecDepth 100000 in
set_option maxHeartbeats 2000000 in
theorem within_ok {n:Nat} (HT:TypOK n) (g:Nat) (e d k:Int) (l:List S35) (b0 b1:Nat) (w:World) (h0:0 <= d) (h1:d + 1 <= 2000) (HP:PS w g l e) (H0:Has w b0 #[.pointer (some ⟨g,0,none⟩)] 52) (H1:Has w b1 #[.int .i64 d] 3) (hne:typP e n (d + 1) l ≠ .out) :
  Calls Tryd.prog 63 #[.int .i64 k,.pointer (some ⟨b0,0,none⟩),.pointer (some ⟨b1,0,none⟩)] w (PPost g e (VT w.heap.size) ((typP e n (d + 1) l).andThen fun t l1=>.ok ⟨k,⟨#[]⟩,0,[t]⟩ l1) w):=by
 unfold TypOK at HT
 have hu25:=Tryd.underlying25
 have kw:IntKind.i64.wrap (d + 1) = d + 1:=IntWalk.i64_in _ (by omega)
 have B0:=below_alloc (Below.refl w.heap.size w) (Obj.cells #[.int .i64 0,.string ⟨#[]⟩,.int .i64 0,.slice none 0 0] 25)
 have c0:=(H0.belowS B0).cell 0
 have c1:=(H1.belowS B0).cell 0
 simp only [List.getElem?_toArray,List.getElem?_cons_zero] at c0 c1
 have HPS:=am (HP.below B0)
 have hgw:=HP.glt
 have HTT:=am HT
 have HNE:=am hne
 clear HP HT H0 H1 hne
 cases hr:typP e n (d + 1) l with
 | out=>exact absurd hr HNE.out
 | bad a er =>
  have HR:=am hr
  clear hr
  go_enter Tryd.func63,Tryd.ntmps63
  go_wp2_with (go_at_call 46;(with_reducible refine (HTT.out g e (d + 1) l _ (by omega) (by omega) HPS.out HNE.out).mono ?_);rintro en w1 ⟨hk,hq⟩;rw [HR.out] at hq;subst hq)
  exact ⟨rfl,(Kept.of_below B0).then_ hk,rfl⟩
 | ok t l1 =>
  have HR:=am hr
  clear hr
  go_enter Tryd.func63,Tryd.ntmps63
  go_wp2_with (first | (go_at_call 46;(with_reducible refine (HTT.out g e (d + 1) l _ (by omega) (by omega) HPS.out HNE.out).mono ?_);rintro en w1 ⟨hk,hq⟩;rw [HR.out] at hq;obtain ⟨v,rfl,hv,hp⟩:=hq;obtain ⟨y3,yc3,rfl⟩:=hv.form;have HZ:=am ((Kept.has hk (Has.new w #[.int .i64 0,.string ⟨#[]⟩,.int .i64 0,.slice none 0 0] 25) (by omega)).alloc (Obj.cells #[.int .i64 t.f0,.string t.f1,.int .i64 t.f2,.slice y3 t.f3.length yc3] 25))) | ((with_reducible refine gate_store (t:=25) (p:=4) rfl ?_);go_must (refine store_event (t:=25) (p:=4) (v:=.tmp 11) (w1:=World.setRow (w1.alloc (Obj.cells #[.int .i64 t.f0,.string t.f1,.int .i64 t.f2,.slice y3 t.f3.length yc3] 25)) (w.heap.size) #[.int .i64 k,.string ⟨#[]⟩,.int .i64 0,.slice (some ⟨w1.heap.size,0,none⟩) 1 1]) ?hg ?ho ?hn ?hr ?_;(case ho=>rfl);(case hg=>rfl);(case hn=>rfl);(case hr=>exact store25 (w1.alloc (Obj.cells #[.int .i64 t.f0,.string t.f1,.int .i64 t.f2,.slice y3 t.f3.length yc3] 25)) (w.heap.size) _ _ HZ.out rfl rfl (by first | kernel_rfl | (simp [Value.oneCell'])) _ _ _ _ rfl rfl rfl);intro w7 hw7;subst hw7)))
  have bA:=below_alloc (Below.refl w1.heap.size w1) (Obj.cells #[.int .i64 t.f0,.string t.f1,.int .i64 t.f2,.slice y3 t.f3.length yc3] 25)
  have hz:=hk.size
  have hz2:(w.alloc (Obj.cells #[.int .i64 0,.string ⟨#[]⟩,.int .i64 0,.slice none 0 0] 25)).heap.size = w.heap.size + 1:=by simp
  have hR:=tyA (cs:=[.int .i64 t.f0,.string t.f1,.int .i64 t.f2,.slice y3 t.f3.length yc3]) hv (by omega)
  have HV:VT (w.heap.size + 1) (w1.alloc (Obj.cells #[.int .i64 t.f0,.string t.f1,.int .i64 t.f2,.slice y3 t.f3.length yc3] 25)) (.agg #[.int .i64 k,.string ⟨#[]⟩,.int .i64 0,.slice (some ⟨w1.heap.size,0,none⟩) 1 1]) ⟨k,⟨#[]⟩,0,[t]⟩:=⟨_,rfl,Kd.R_lower hR (by omega)⟩
  refine bodyPost_ret (results_cell_row rfl _ _ w.heap.size 25 #[.int .i64 k,.string ⟨#[]⟩,.int .i64 0,.slice (some ⟨w1.heap.size,0,none⟩) 1 1] (0,0) _ rfl (has_row HZ.out _) Tryd.underlying25 rfl (by rfl)) rfl ?_
  exact ⟨kept_row (((Kept.of_below B0).then_ hk).below bA) (Nat.le_refl _) _,_,rfl,(HV.row (Nat.lt_succ_self _) _).lower (Nat.le_succ _),(hp.below bA).rowX HZ.out (by decide) (by decide) _⟩
end Go.Proofs.YtngpgdmafmkddaaDoor.Par
end
