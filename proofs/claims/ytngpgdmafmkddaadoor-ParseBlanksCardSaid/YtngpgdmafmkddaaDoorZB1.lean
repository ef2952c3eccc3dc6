/- Steps toward the laws of the parser (B), merged from several texts (some of them began as the kit's print). No condition. -/
import Derived.Test.YtngpgdmafmkddaaDoorProg
import Derived.Below
import Derived.Deep.Draws
import Derived.Deep.AppendLies
import Derived.Maps.AppendAt
import Derived.OwnWalk
import Derived.Laws.BytesArg
import Derived.Laws.MakeOwn
import Derived.Laws.OwnMore
import Derived.Deep.OwnRows
import Derived.Tactics
import Derived.Lib.ConvBytes
import Derived.Laws.Slices
import Derived.WalkKit
import Derived.KernelRfl
import Derived.RowKit3
import Derived.Deep.LoopGhost
import Derived.Deep.QuietTactic
import Derived.BigQuiet
import Derived.WideLaws
import Derived.Deep.DeepCutAuto
import Derived.Deep.CutBlock
import Derived.Deep.RegionHeld3
import Derived.Laws.Rows
import Derived.Lib.AppendStr
import Derived.ArgAppend
import Derived.Laws.IdiomCopy
import Derived.OrdersHeld
import Derived.Laws.BitsLemmas
import Derived.RowKit
import Derived.Maps.OwnSet
import Derived.WalkSpells
import Derived.ProofKit
import Derived.Deep.WholeRow
import Derived.Deep.DeepMust
import Derived.Test.YtngpgdmafmkddaaDoorZB0
namespace Go.Proofs.YtngpgdmafmkddaaDoor
theorem am {p : Prop} (h : p) : Go.Proofs.YtngpgdmafmkddaaDoorW.PrintWords.Aside0 p := ⟨h⟩
theorem tt : Go.Proofs.YtngpgdmafmkddaaDoorW.PrintWords.Aside0 True := ⟨trivial⟩
theorem sA (l : List Go.Value) (i : Nat) (a : Go.Value) : l.toArray.setIfInBounds i a = (l.set i a).toArray := List.setIfInBounds_toArray ..
theorem sB (a b : Go.Value) (l : List Go.Value) : (a :: l).set 0 b = b :: l := rfl
theorem sC (a b : Go.Value) (l : List Go.Value) (n : Nat) : (a :: l).set (n + 1) b = a :: l.set n b := rfl
end Go.Proofs.YtngpgdmafmkddaaDoor
section
namespace Go.Proofs.YtngpgdmafmkddaaDoor.PParseBlanks
open Go.RowKit Go.Proofs.YtngpgdmafmkddaaDoorW.PrintWords Go.Proofs.YtngpgdmafmkddaaDoorW.PrintLast Go.Proofs.YtngpgdmafmkddaaDoorW.PrintMore
attribute [local go_sem] max2_int min2_int max_two min_two max_three min_three max_four min_four   
set_option linter.unusedVariables false
set_option linter.unusedSimpArgs false
theorem info27:(Tryd.prog.info? 27).map (fun i=>(i.zero,i.size,i.bytes)) = some (some (.agg #[(.int .i64 0),(.int .i64 0),(.int .i64 0),(.string ⟨#[]⟩),(.slice none 0 0),(.slice none 0 0),(.int .i64 0),(.string ⟨#[]⟩),(.int .i64 0),(.slice none 0 0)]),10,144):=by kernel_rfl
structure S35 where
 f0:Int
 f1:ByteArray
 f2:Int
def z35:S35:=⟨(0:Int),(⟨#[]⟩:ByteArray),(0:Int)⟩
def k35:Kd S35:=Kd.iso (Kd.pair (Kd.int .i64) (Kd.pair Kd.string (Kd.int .i64))) (fun x:S35=>(x.f0,x.f1,x.f2))
theorem k35_open {w:World} {x:S35} {cs:List Value} (h:k35.K w x cs):cs = [.int .i64 x.f0,.string x.f1,.int .i64 x.f2]:=by
 obtain ⟨_,_,rfl,rfl,⟨_,_,rfl,rfl,rfl⟩⟩:=h
 exact rfl
theorem k35_mk (w:World) (x:S35)  : k35.K w x [.int .i64 x.f0,.string x.f1,.int .i64 x.f2]:=⟨[.int .i64 x.f0],[.string x.f1,.int .i64 x.f2],rfl,rfl,⟨[.string x.f1],[.int .i64 x.f2],rfl,rfl,rfl⟩⟩
theorem k35_mkM (w:World) (base:Nat) (ok:Nat -> Prop) (x:S35)  : k35.M w base ok x [.int .i64 x.f0,.string x.f1,.int .i64 x.f2]:=⟨[.int .i64 x.f0],[.string x.f1,.int .i64 x.f2],rfl,rfl,⟨[.string x.f1],[.int .i64 x.f2],rfl,rfl,rfl⟩⟩
def rd_T35 (xs:List S35) (i:Int):S35:=xs.getD i.toNat z35
theorem at_T35 {w:World} {A:Option Addr} {n:Nat} {xs:List S35} (h:Kd.C k35 w A n xs) (i:Int) (h0:0 <= i) (h1:i < n):∃ ad ,A = some ad /\ w.cell? (ad.add (i.toNat * 3)) = some (.int .i64 (rd_T35 xs i).f0) /\ w.cell? ⟨(ad.add (i.toNat * 3)).block,(ad.add (i.toNat * 3)).off + 1,none⟩ = some (.string (rd_T35 xs i).f1) /\ w.cell? ⟨(ad.add (i.toNat * 3)).block,(ad.add (i.toNat * 3)).off + 2,none⟩ = some (.int .i64 (rd_T35 xs i).f2):=by
 obtain ⟨ad,c,e,_,hK,hc0⟩:=Kd.C_get h z35 i h0 h1
 have hc:∀ j u,c[j]? = some u -> w.cell? (ad.add (i.toNat * 3 + j)) = some u:=hc0
 obtain rfl:=k35_open hK
 exact ⟨ad,e,hc 0 _ rfl,by rw [<- add_field _ _ 1 (by omega)];exact hc 1 _ rfl,by rw [<- add_field _ _ 2 (by omega)];exact hc 2 _ rfl⟩
structure S25 where
 f0:Int
 f1:ByteArray
 f2:Int
 f3:(List S25)
def z25:S25:=⟨(0:Int),(⟨#[]⟩:ByteArray),(0:Int),([]:List S25)⟩
def F25 (d:Kd S25):Kd S25:=Kd.iso (Kd.pair (Kd.int .i64) (Kd.pair Kd.string (Kd.pair (Kd.int .i64) (Kd.slice 25 d)))) (fun x:S25=>(x.f0,x.f1,x.f2,x.f3))
theorem mono25:Kd.Mono F25:=Kd.mono_iso _ (Kd.mono_pair (Kd.mono_const _) (Kd.mono_pair (Kd.mono_const _) (Kd.mono_pair (Kd.mono_const _) (Kd.mono_slice 25 Kd.mono_id))))
theorem sub25:Kd.Sub F25 [25]:=Kd.sub_iso _ (Kd.sub_pair (Kd.sub_const _ (by decide)) (Kd.sub_pair (Kd.sub_const _ (by decide)) (Kd.sub_pair (Kd.sub_const _ (by decide)) (Kd.sub_slice 25 (by decide) Kd.sub_id))))
theorem sz25:∀ n,(Kd.upto F25 4 [25] n).sz = 4:=Kd.upto_sz (fun _=>rfl)
def k25:Kd S25:=Kd.fix F25 4 [25] sz25 (Kd.upto_E sub25)
theorem k25_open {w:World} {x:S25} {cs:List Value} (h:k25.K w x cs):∃ A3 c3,cs = [.int .i64 x.f0,.string x.f1,.int .i64 x.f2,.slice A3 x.f3.length c3] /\ x.f3.length <= c3 /\ k25.C w A3 x.f3.length x.f3:=by
 obtain ⟨n,h⟩:=h
 cases n with
 | zero=>exact h.elim
 | succ n =>
  obtain ⟨_,_,rfl,rfl,⟨_,_,rfl,rfl,⟨_,_,rfl,rfl,⟨A3,c3,rfl,l3,g3⟩⟩⟩⟩:=h
  exact ⟨A3,c3,rfl,l3,Kd.fix_C g3⟩
theorem k25_openM {w:World} {base:Nat} {ok:Nat -> Prop} {x:S25} {cs:List Value} (h:k25.M w base ok x cs):∃ v3,cs = [.int .i64 x.f0,.string x.f1,.int .i64 x.f2,v3] /\ k25.R 25 w base ok v3 x.f3:=by
 obtain ⟨n,h⟩:=h
 cases n with
 | zero=>exact h.elim
 | succ n =>
  obtain ⟨_,_,rfl,rfl,⟨_,_,rfl,rfl,⟨_,_,rfl,rfl,⟨v3,rfl,g3⟩⟩⟩⟩:=h
  exact ⟨v3,rfl,Kd.fix_R g3⟩
theorem k25_mkM (w:World) (base:Nat) (ok:Nat -> Prop) (x:S25) {v3:Value} (g3:k25.R 25 w base ok v3 x.f3):k25.M w base ok x [.int .i64 x.f0,.string x.f1,.int .i64 x.f2,v3]:=by
 obtain ⟨n3,q3⟩:=Kd.fix_R_back mono25 g3
 have r3:=Kd.upto_R_le mono25 sz25 (show n3 <= n3 by omega) q3
 exact ⟨n3 + 1,⟨[.int .i64 x.f0],[.string x.f1,.int .i64 x.f2,v3],rfl,rfl,⟨[.string x.f1],[.int .i64 x.f2,v3],rfl,rfl,⟨[.int .i64 x.f2],[v3],rfl,rfl,⟨v3,rfl,r3⟩⟩⟩⟩⟩
def rd_T25 (xs:List S25) (i:Int):S25:=xs.getD i.toNat z25
theorem at_T25 {w:World} {A:Option Addr} {n:Nat} {xs:List S25} (h:Kd.C k25 w A n xs) (i:Int) (h0:0 <= i) (h1:i < n):∃ ad A3 c3,A = some ad /\ w.cell? (ad.add (i.toNat * 4)) = some (.int .i64 (rd_T25 xs i).f0) /\ w.cell? ⟨(ad.add (i.toNat * 4)).block,(ad.add (i.toNat * 4)).off + 1,none⟩ = some (.string (rd_T25 xs i).f1) /\ w.cell? ⟨(ad.add (i.toNat * 4)).block,(ad.add (i.toNat * 4)).off + 2,none⟩ = some (.int .i64 (rd_T25 xs i).f2) /\ w.cell? ⟨(ad.add (i.toNat * 4)).block,(ad.add (i.toNat * 4)).off + 3,none⟩ = some (.slice A3 (rd_T25 xs i).f3.length c3) /\ (rd_T25 xs i).f3.length <= c3 /\ k25.C w A3 (rd_T25 xs i).f3.length (rd_T25 xs i).f3:=by
 obtain ⟨ad,c,e,_,hK,hc0⟩:=Kd.C_get h z25 i h0 h1
 have hc:∀ j u,c[j]? = some u -> w.cell? (ad.add (i.toNat * 4 + j)) = some u:=hc0
 obtain ⟨A3,c3,rfl,l3,g3⟩:=k25_open hK
 exact ⟨ad,A3,c3,e,hc 0 _ rfl,by rw [<- add_field _ _ 1 (by omega)];exact hc 1 _ rfl,by rw [<- add_field _ _ 2 (by omega)];exact hc 2 _ rfl,by rw [<- add_field _ _ 3 (by omega)];exact hc 3 _ rfl,l3,g3⟩
structure S27 where
 f0:Int
 f1:Int
 f2:Int
 f3:ByteArray
 f4:(List S27)
 f5:(List S25)
 f6:S25
def z27:S27:=⟨(0:Int),(0:Int),(0:Int),(⟨#[]⟩:ByteArray),([]:List S27),([]:List S25),z25⟩
def F27 (d:Kd S27):Kd S27:=Kd.iso (Kd.pair (Kd.int .i64) (Kd.pair (Kd.int .i64) (Kd.pair (Kd.int .i64) (Kd.pair Kd.string (Kd.pair (Kd.slice 27 d) (Kd.pair (Kd.slice 25 k25) k25)))))) (fun x:S27=>(x.f0,x.f1,x.f2,x.f3,x.f4,x.f5,x.f6))
theorem mono27:Kd.Mono F27:=Kd.mono_iso _ (Kd.mono_pair (Kd.mono_const _) (Kd.mono_pair (Kd.mono_const _) (Kd.mono_pair (Kd.mono_const _) (Kd.mono_pair (Kd.mono_const _) (Kd.mono_pair (Kd.mono_slice 27 Kd.mono_id) (Kd.mono_pair (Kd.mono_const _) (Kd.mono_const _)))))))
theorem sub27:Kd.Sub F27 [25,27]:=Kd.sub_iso _ (Kd.sub_pair (Kd.sub_const _ (by decide)) (Kd.sub_pair (Kd.sub_const _ (by decide)) (Kd.sub_pair (Kd.sub_const _ (by decide)) (Kd.sub_pair (Kd.sub_const _ (by decide)) (Kd.sub_pair (Kd.sub_slice 27 (by decide) Kd.sub_id) (Kd.sub_pair (Kd.sub_const _ (by decide)) (Kd.sub_const _ (by decide))))))))
theorem sz27:∀ n,(Kd.upto F27 10 [25,27] n).sz = 10:=Kd.upto_sz (fun _=>rfl)
def k27:Kd S27:=Kd.fix F27 10 [25,27] sz27 (Kd.upto_E sub27)
theorem k27_open {w:World} {x:S27} {cs:List Value} (h:k27.K w x cs):∃ A4 c4 A5 c5 A9 c9,cs = [.int .i64 x.f0,.int .i64 x.f1,.int .i64 x.f2,.string x.f3,.slice A4 x.f4.length c4,.slice A5 x.f5.length c5,.int .i64 x.f6.f0,.string x.f6.f1,.int .i64 x.f6.f2,.slice A9 x.f6.f3.length c9] /\ x.f4.length <= c4 /\ k27.C w A4 x.f4.length x.f4 /\ x.f5.length <= c5 /\ k25.C w A5 x.f5.length x.f5 /\ x.f6.f3.length <= c9 /\ k25.C w A9 x.f6.f3.length x.f6.f3:=by
 obtain ⟨n,h⟩:=h
 cases n with
 | zero=>exact h.elim
 | succ n =>
  obtain ⟨_,_,rfl,rfl,⟨_,_,rfl,rfl,⟨_,_,rfl,rfl,⟨_,_,rfl,rfl,⟨_,_,rfl,⟨A4,c4,rfl,l4,g4⟩,⟨_,_,rfl,⟨A5,c5,rfl,l5,g5⟩,s6⟩⟩⟩⟩⟩⟩:=h
  obtain ⟨A9,c9,rfl,l9,g9⟩:=k25_open s6
  exact ⟨A4,c4,A5,c5,A9,c9,rfl,l4,Kd.fix_C g4,l5,g5,l9,g9⟩
theorem k27_openM {w:World} {base:Nat} {ok:Nat -> Prop} {x:S27} {cs:List Value} (h:k27.M w base ok x cs):∃ v4 v5 v9,cs = [.int .i64 x.f0,.int .i64 x.f1,.int .i64 x.f2,.string x.f3,v4,v5,.int .i64 x.f6.f0,.string x.f6.f1,.int .i64 x.f6.f2,v9] /\ k27.R 27 w base ok v4 x.f4 /\ k25.R 25 w base ok v5 x.f5 /\ k25.R 25 w base ok v9 x.f6.f3:=by
 obtain ⟨n,h⟩:=h
 cases n with
 | zero=>exact h.elim
 | succ n =>
  obtain ⟨_,_,rfl,rfl,⟨_,_,rfl,rfl,⟨_,_,rfl,rfl,⟨_,_,rfl,rfl,⟨_,_,rfl,⟨v4,rfl,g4⟩,⟨_,_,rfl,⟨v5,rfl,g5⟩,s6⟩⟩⟩⟩⟩⟩:=h
  obtain ⟨v9,rfl,g9⟩:=k25_openM s6
  exact ⟨v4,v5,v9,rfl,Kd.fix_R g4,g5,g9⟩
theorem k27_mkM (w:World) (base:Nat) (ok:Nat -> Prop) (x:S27) {v4:Value} (g4:k27.R 27 w base ok v4 x.f4) {v5:Value} (g5:k25.R 25 w base ok v5 x.f5) {v9:Value} (g9:k25.R 25 w base ok v9 x.f6.f3):k27.M w base ok x [.int .i64 x.f0,.int .i64 x.f1,.int .i64 x.f2,.string x.f3,v4,v5,.int .i64 x.f6.f0,.string x.f6.f1,.int .i64 x.f6.f2,v9]:=by
 obtain ⟨n4,q4⟩:=Kd.fix_R_back mono27 g4
 have r4:=Kd.upto_R_le mono27 sz27 (show n4 <= n4 by omega) q4
 exact ⟨n4 + 1,⟨[.int .i64 x.f0],[.int .i64 x.f1,.int .i64 x.f2,.string x.f3,v4,v5,.int .i64 x.f6.f0,.string x.f6.f1,.int .i64 x.f6.f2,v9],rfl,rfl,⟨[.int .i64 x.f1],[.int .i64 x.f2,.string x.f3,v4,v5,.int .i64 x.f6.f0,.string x.f6.f1,.int .i64 x.f6.f2,v9],rfl,rfl,⟨[.int .i64 x.f2],[.string x.f3,v4,v5,.int .i64 x.f6.f0,.string x.f6.f1,.int .i64 x.f6.f2,v9],rfl,rfl,⟨[.string x.f3],[v4,v5,.int .i64 x.f6.f0,.string x.f6.f1,.int .i64 x.f6.f2,v9],rfl,rfl,⟨[v4],[v5,.int .i64 x.f6.f0,.string x.f6.f1,.int .i64 x.f6.f2,v9],rfl,⟨v4,rfl,r4⟩,⟨[v5],[.int .i64 x.f6.f0,.string x.f6.f1,.int .i64 x.f6.f2,v9],rfl,⟨v5,rfl,g5⟩,(k25_mkM w base ok x.f6 g9)⟩⟩⟩⟩⟩⟩⟩
def rd_T27 (xs:List S27) (i:Int):S27:=xs.getD i.toNat z27
theorem at_T27 {w:World} {A:Option Addr} {n:Nat} {xs:List S27} (h:Kd.C k27 w A n xs) (i:Int) (h0:0 <= i) (h1:i < n):∃ ad A4 c4 A5 c5 A9 c9,A = some ad /\ w.cell? (ad.add (i.toNat * 10)) = some (.int .i64 (rd_T27 xs i).f0) /\ w.cell? ⟨(ad.add (i.toNat * 10)).block,(ad.add (i.toNat * 10)).off + 1,none⟩ = some (.int .i64 (rd_T27 xs i).f1) /\ w.cell? ⟨(ad.add (i.toNat * 10)).block,(ad.add (i.toNat * 10)).off + 2,none⟩ = some (.int .i64 (rd_T27 xs i).f2) /\ w.cell? ⟨(ad.add (i.toNat * 10)).block,(ad.add (i.toNat * 10)).off + 3,none⟩ = some (.string (rd_T27 xs i).f3) /\ w.cell? ⟨(ad.add (i.toNat * 10)).block,(ad.add (i.toNat * 10)).off + 4,none⟩ = some (.slice A4 (rd_T27 xs i).f4.length c4) /\ w.cell? ⟨(ad.add (i.toNat * 10)).block,(ad.add (i.toNat * 10)).off + 5,none⟩ = some (.slice A5 (rd_T27 xs i).f5.length c5) /\ w.cell? ⟨(ad.add (i.toNat * 10)).block,(ad.add (i.toNat * 10)).off + 6,none⟩ = some (.int .i64 (rd_T27 xs i).f6.f0) /\ w.cell? ⟨(ad.add (i.toNat * 10)).block,(ad.add (i.toNat * 10)).off + 7,none⟩ = some (.string (rd_T27 xs i).f6.f1) /\ w.cell? ⟨(ad.add (i.toNat * 10)).block,(ad.add (i.toNat * 10)).off + 8,none⟩ = some (.int .i64 (rd_T27 xs i).f6.f2) /\ w.cell? ⟨(ad.add (i.toNat * 10)).block,(ad.add (i.toNat * 10)).off + 9,none⟩ = some (.slice A9 (rd_T27 xs i).f6.f3.length c9) /\ (rd_T27 xs i).f4.length <= c4 /\ k27.C w A4 (rd_T27 xs i).f4.length (rd_T27 xs i).f4 /\ (rd_T27 xs i).f5.length <= c5 /\ k25.C w A5 (rd_T27 xs i).f5.length (rd_T27 xs i).f5 /\ (rd_T27 xs i).f6.f3.length <= c9 /\ k25.C w A9 (rd_T27 xs i).f6.f3.length (rd_T27 xs i).f6.f3:=by
 obtain ⟨ad,c,e,_,hK,hc0⟩:=Kd.C_get h z27 i h0 h1
 have hc:∀ j u,c[j]? = some u -> w.cell? (ad.add (i.toNat * 10 + j)) = some u:=hc0
 obtain ⟨A4,c4,A5,c5,A9,c9,rfl,l4,g4,l5,g5,l9,g9⟩:=k27_open hK
 exact ⟨ad,A4,c4,A5,c5,A9,c9,e,hc 0 _ rfl,by rw [<- add_field _ _ 1 (by omega)];exact hc 1 _ rfl,by rw [<- add_field _ _ 2 (by omega)];exact hc 2 _ rfl,by rw [<- add_field _ _ 3 (by omega)];exact hc 3 _ rfl,by rw [<- add_field _ _ 4 (by omega)];exact hc 4 _ rfl,by rw [<- add_field _ _ 5 (by omega)];exact hc 5 _ rfl,by rw [<- add_field _ _ 6 (by omega)];exact hc 6 _ rfl,by rw [<- add_field _ _ 7 (by omega)];exact hc 7 _ rfl,by rw [<- add_field _ _ 8 (by omega)];exact hc 8 _ rfl,by rw [<- add_field _ _ 9 (by omega)];exact hc 9 _ rfl,l4,g4,l5,g5,l9,g9⟩
end Go.Proofs.YtngpgdmafmkddaaDoor.PParseBlanks
end
section
namespace Go.Proofs.YtngpgdmafmkddaaDoor.Par
open Go.RowKit Go.Proofs.YtngpgdmafmkddaaDoorW.PrintWords Go.Proofs.YtngpgdmafmkddaaDoorW.PrintLast Go.Proofs.YtngpgdmafmkddaaDoorW.PrintMore
open Go.Proofs.YtngpgdmafmkddaaDoor.PParseBlanks (S35 S25 S27 k35 k25 k27 rd_T35 rd_T25 rd_T27 at_T35 at_T25 at_T27)
set_option linter.unusedVariables false
set_option linter.unusedSimpArgs false
def Has (w:World) (b:Nat) (cs:Array Value) (t:TypeId):Prop:=w.heap[b]? = some (.cells cs t (0,0))
namespace Has
variable {w w' : World} {b b' : Nat} {cs cs' : Array Value} {t t' : TypeId}
theorem lt (h:Has w b cs t):b < w.heap.size:=(Array.getElem?_eq_some_iff.1 h).1
theorem cell (h:Has w b cs t) (i:Nat):w.cell? ⟨b,i,none⟩ = cs[i]?:=by
 unfold Has at h;simp [World.cell?,h]
theorem frozen (h:Has w b cs t) (i:Nat):w.frozen? ⟨b,i,none⟩ = false:=by
 unfold Has at h;simp [World.frozen?,h]
theorem of_block (h:Has w b cs t) (e:w'.heap[b]? = w.heap[b]?):Has w' b cs t:=by unfold Has;rw [e];exact h
theorem ne (h:Has w b cs t) (h' : Has w b' cs' t') (hne:t ≠ t'):b ≠ b':=by
 rintro rfl
 unfold Has at h h'
 rw [h] at h'
 injection h' with h'
 injection h' with _ h'
 exact hne h'
theorem set_ (h:Has w b cs t) (i:Nat) (v:Value):Has (w.setCell ⟨b,i,none⟩ v) b (cs.setIfInBounds i v) t:=by
 unfold Has at *
 simp [World.setCell,Array.getElem?_modify,h]
theorem other (h:Has w b cs t) {a:Addr} (hne:b ≠ a.block) (v:Value):Has (w.setCell a v) b cs t:=
 h.of_block (Below.heap_setCell w a v b hne)
theorem alloc (h:Has w b cs t) (o:Obj):Has (w.alloc o) b cs t:=h.of_block (Below.heap_alloc w o b h.lt)
theorem drewN (h:Has w b cs t) (n:Nat):Has (w.drewN n) b cs t:=h
theorem below {B:Nat} (h:Has w b cs t) (hb:Below B w w') (hB:b < B):Has w' b cs t:=h.of_block (hb.block b hB)
theorem belowS (h:Has w b cs t) (hb:Below w.heap.size w w'):Has w' b cs t:=h.of_block (hb.block b h.lt)
theorem new (w:World) (cs:Array Value) (t:TypeId):Has (w.alloc (.cells cs t)) w.heap.size cs t:=by
 exact heap_alloc_new w _
end Has
structure Kept (S:Nat -> Prop) (w w' : World):Prop where
 os:w'.os = w.os
 tape:w'.tape = w.tape
 output:w'.output = w.output
 size:w.heap.size <= w'.heap.size
 block:∀ k,k < w.heap.size -> ¬ S k -> w'.heap[k]? = w.heap[k]?
def Grow (S:Nat -> Prop) (w w' : World) (b:Nat):Prop:=S b \/ (w.heap.size <= b /\ b < w'.heap.size)
namespace Kept
variable {S S' : Nat -> Prop} {w w1 w2:World}
theorem refl (S:Nat -> Prop) (w:World):Kept S w w:=⟨rfl,rfl,rfl,Nat.le_refl _,fun _ _ _=>rfl⟩
theorem mono (h:Kept S w w1) (hS:∀ b,S b -> S' b):Kept S' w w1:=⟨h.os,h.tape,h.output,h.size,fun k hk hn=>h.block k hk (fun x=>hn (hS k x))⟩
theorem trans (h:Kept S w w1) (k:Kept (Grow S w w1) w1 w2):Kept S w w2:=
 ⟨k.os.trans h.os,k.tape.trans h.tape,k.output.trans h.output,Nat.le_trans h.size k.size,fun i hi hn =>
  (k.block i (Nat.lt_of_lt_of_le hi h.size) (fun x=>x.elim hn (fun y=>by omega))).trans (h.block i hi hn)⟩
theorem then_ (h:Kept S w w1) (k:Kept S w1 w2):Kept S w w2:=h.trans (k.mono fun _ x=>.inl x)
theorem of_below (h:Below w.heap.size w w1):Kept S w w1:=⟨h.os,h.tape,h.output,h.size,fun k hk _=>h.block k hk⟩
theorem drewN (h:Kept S w w1) (n:Nat):Kept S w (w1.drewN n):=⟨h.os,h.tape,h.output,h.size,h.block⟩
theorem alloc (h:Kept S w w1) (o:Obj):Kept S w (w1.alloc o):=
 h.then_ (of_below (below_alloc (Below.refl _ _) o))
theorem setCell (h:Kept S w w1) {a:Addr} (ha:S a.block) (v:Value):Kept S w (w1.setCell a v):=
 h.then_ ⟨rfl,rfl,rfl,by simp [World.setCell],fun k hk hn=>Below.heap_setCell _ _ _ _ (fun e=>hn (e ▸ ha))⟩
theorem setCellG (h:Kept S w w1) {a:Addr} (ha:w.heap.size <= a.block) (v:Value):Kept S w (w1.setCell a v):=
 ⟨h.os,h.tape,h.output,by simp [World.setCell,h.size],fun k hk hn=>(Below.heap_setCell _ _ _ _ (by omega)).trans (h.block k hk hn)⟩
theorem grown (h:Kept S w w1) {row:Option Nat} (hg:w1.grownBy w2 row) (hr:∀ k,row = some k -> Grow S w w1 k):Kept S w w2:=
 h.trans ⟨hg.os,hg.tape,hg.output,hg.size,fun k hk hn=>hg.block k hk (fun e=>hn (hr k e.symm))⟩
theorem below (h:Kept S w w1) (hb:Below w1.heap.size w1 w2):Kept S w w2:=h.then_ (of_below hb)
theorem has {b:Nat} {cs:Array Value} {t:TypeId} (h:Kept S w w1) (hb:Has w b cs t) (hn : ¬ S b):Has w1 b cs t:=hb.of_block (h.block b hb.lt hn)
theorem below_of (h:Kept S w w1) {B:Nat} (hB:∀ b,S b -> B <= b) (hs:B <= w.heap.size):Below B w w1:=
 ⟨h.os,h.tape,h.output,h.size,fun k hk=>h.block k (by omega) (fun x=>by have:=hB k x;omega)⟩
end Kept
def RowT (w:World) (A:Option Addr):Prop := ∀ ad,A = some ad -> ∃ cs,Has w ad.block cs 35
theorem RowT.of {w w' : World} {A:Option Addr} (h:RowT w A) (hk:∀ ad,A = some ad -> w'.heap[ad.block]? = w.heap[ad.block]?):RowT w' A:=fun ad e=>by
 obtain ⟨cs,hc⟩:=h ad e
 exact ⟨cs,hc.of_block (hk ad e)⟩
theorem RowT.below {w w' : World} {A:Option Addr} (h:RowT w A) (hb:Below w.heap.size w w'):RowT w' A:=fun ad e=>by
 obtain ⟨cs,hc⟩:=h ad e
 exact ⟨cs,hc.belowS hb⟩
theorem RowT.ne {w:World} {A:Option Addr} (h:RowT w A) {g:Nat} {cs:Array Value} {t:TypeId} (hg:Has w g cs t) (ht:t ≠ 35):∀ ad,A = some ad -> ad.block ≠ g:=fun ad e=>by
 obtain ⟨cs',hc⟩:=h ad e
 exact hc.ne hg (Ne.symm ht)
theorem RowT.set {w:World} {A:Option Addr} (h:RowT w A) {a:Addr} (hn:∀ ad,A = some ad -> ad.block ≠ a.block) (u:Value):RowT (w.setCell a u) A:=h.of fun ad e=>Below.heap_setCell w a u _ (hn ad e)
def TokSz (l:List S35):Prop := ∀ t ∈ l,t.f1.size < 4611686018427387904
theorem TokSz.tail {t:S35} {r:List S35} (h:TokSz (t :: r)):TokSz r:=fun x hx=>h x (List.mem_cons_of_mem _ hx)
structure PAt (w:World) (g:Nat) (l:List S35) (e:Int) (A:Option Addr) (c:Nat):Prop where
 has:Has w g #[.slice A l.length c,.int .i64 e] 76
 le:l.length <= c /\ TokSz l
 toks:Kd.C k35 w A l.length l
 row:RowT w A
def PS (w:World) (g:Nat) (l:List S35) (e:Int):Prop := ∃ A c,PAt w g l e A c
theorem PAt.below {w w' : World} {g:Nat} {l:List S35} {e:Int} {A:Option Addr} {c:Nat} (H:PAt w g l e A c) (hb:Below w.heap.size w w'):PAt w' g l e A c:=
 ⟨H.has.belowS hb,H.le,Kd.C_below H.toks hb,H.row.below hb⟩
theorem PAt.ne {w:World} {g:Nat} {l:List S35} {e:Int} {A:Option Addr} {c:Nat} (H:PAt w g l e A c):∀ ad,A = some ad -> ad.block ≠ g:=H.row.ne H.has (by decide)
theorem PAt.ps {w:World} {g:Nat} {l:List S35} {e:Int} {A:Option Addr} {c:Nat} (H:PAt w g l e A c):PS w g l e:=⟨A,c,H⟩
theorem PS.below {w w' : World} {g:Nat} {l:List S35} {e:Int} (H:PS w g l e) (hb:Below w.heap.size w w'):PS w' g l e:=let ⟨A,c,h⟩:=H; ⟨A,c,h.below hb⟩
inductive PR (α:Type) where
 | ok (x:α) (l:List S35)
 | bad (a e:Int)
 | out
def PR.andThen {α β:Type} (r:PR α) (f:α -> List S35 -> PR β):PR β:=
 match r with
 | .ok x l=>f x l
 | .bad a e=>.bad a e
 | .out=>.out
def stopE (a e:Int):PanicEntry := { v:=.iface 78 (.agg #[.int .i64 a,.int .i64 e]),recovered:=false }
abbrev KeptG (g:Nat):World -> World -> Prop:=Kept (fun b=>b = g)
def PPost {α:Type} (g:Nat) (e:Int) (V:World -> Value -> α -> Prop) (r:PR α) (w:World) (en:Ending) (w' : World):Prop:=
 KeptG g w w' /\ match r with
 | .ok x l => ∃ v,en = .returned v /\ V w' v x /\ PS w' g l e
 | .bad a er=>en = .panicked [stopE a er]
 | .out=>False
def atP (e:Int):List S35 -> Int
 | []=>e
 | t :: _=>t.f2
def kindP:List S35 -> Int
 | []=>0
 | t :: _=>t.f0
def isP (s:ByteArray):List S35 -> Bool
 | []=>false
 | t :: _=>(t.f0 == 4 || t.f0 == 3) && (t.f1.toList == s.toList)
def oneP (ss:List ByteArray) (l:List S35):Bool:=ss.any fun s=>isP s l
theorem tok0 {w:World} {A:Option Addr} {t:S35} {r:List S35} (h:Kd.C k35 w A (t :: r).length (t :: r)):∃ ad,A = some ad /\ w.cell? ad = some (.int .i64 t.f0) /\ w.cell? ⟨ad.block,ad.off + 1,none⟩ = some (.string t.f1) /\ w.cell? ⟨ad.block,ad.off + 2,none⟩ = some (.int .i64 t.f2):=by
 obtain ⟨ad,e,r0,r1,r2⟩:=at_T35 h 0 (Int.le_refl 0) (by simp)
 rw [show ad.add ((0:Int).toNat * 3) = ad by simp [Addr.add]] at r0 r1 r2
 exact ⟨ad,e,r0,r1,r2⟩
set_option maxRecDepth 100000 in
set_option maxHeartbeats 1000000 in
theorem at_said (g:Nat) (l:List S35) (e:Int) (A:Option Addr) (c:Nat) (w:World) (H:PAt w g l e A c) :
  Calls Tryd.prog 29 #[.pointer (some ⟨g,0,none⟩)] w fun en w' => en = .returned (.int .i64 (atP e l)) /\ Below w.heap.size w w':=by
 have c0:=H.has.cell 0
 have c1:=H.has.cell 1
 simp only [List.getElem?_toArray,List.getElem?_cons_zero,List.getElem?_cons_succ] at c0 c1
 cases l with
 | nil =>
  simp only [List.length_nil] at c0
  clear H
  go_enter Tryd.func29,Tryd.ntmps29
  go_wp2_with fail
  go_ret
  exact ⟨rfl,Below.refl _ _⟩
 | cons t r =>
  obtain ⟨ad,rfl,r0,r1,r2⟩:=tok0 H.toks
  clear H
  have hl:(0:Int) < ((t :: r).length:Int):=by simp
  have hz:(((t :: r).length:Int) == 0) = false:=by simp;omega
  generalize (t :: r).length = n at *
  go_enter Tryd.func29,Tryd.ntmps29
  go_wp2_with fail
  go_ret
  exact ⟨rfl,Below.refl _ _⟩
set_option maxRecDepth 100000 in
set_option maxHeartbeats 1000000 in
theorem kind_said (g:Nat) (l:List S35) (e:Int) (A:Option Addr) (c:Nat) (w:World) (H:PAt w g l e A c) :
  Calls Tryd.prog 19 #[.pointer (some ⟨g,0,none⟩)] w fun en w' => en = .returned (.int .i64 (kindP l)) /\ Below w.heap.size w w':=by
 have c0:=H.has.cell 0
 have c1:=H.has.cell 1
 simp only [List.getElem?_toArray,List.getElem?_cons_zero,List.getElem?_cons_succ] at c0 c1
 cases l with
 | nil =>
  simp only [List.length_nil] at c0
  clear H
  go_enter Tryd.func19,Tryd.ntmps19
  go_wp2_with fail
  go_ret
  exact ⟨rfl,Below.refl _ _⟩
 | cons t r =>
  obtain ⟨ad,rfl,r0,r1,r2⟩:=tok0 H.toks
  clear H
  have hl:(0:Int) < ((t :: r).length:Int):=by simp
  have hz:(((t :: r).length:Int) == 0) = false:=by simp;omega
  generalize (t :: r).length = n at *
  go_enter Tryd.func19,Tryd.ntmps19
  go_wp2_with fail
  go_ret
  exact ⟨rfl,Below.refl _ _⟩
set_option maxRecDepth 100000 in
theorem fail_said (g:Nat) (l:List S35) (e:Int) (A:Option Addr) (c:Nat) (er:Int) (w:World) (H:PAt w g l e A c) :
  Calls Tryd.prog 20 #[.pointer (some ⟨g,0,none⟩),.int .i64 er] w fun en w' => en = .panicked [stopE (atP e l) er] /\ Below w.heap.size w w':=by
 have HH:=am H
 clear H
 go_enter Tryd.func20,Tryd.ntmps20
 go_wp2_with (go_at_call 29;refine (at_said g l e A c _ HH.out).mono ?_;rintro en w1 ⟨rfl,hb⟩)
 exact ⟨rfl,rfl,hb⟩
set_option maxRecDepth 100000 in
set_option maxHeartbeats 1000000 in
theorem is_said (g:Nat) (l:List S35) (e:Int) (A:Option Addr) (c:Nat) (s:ByteArray) (w:World) (H:PAt w g l e A c) :
  Calls Tryd.prog 60 #[.pointer (some ⟨g,0,none⟩),.string s] w fun en w' => en = .returned (.bool (isP s l)) /\ Below w.heap.size w w':=by
 have HH:=am H
 cases l with
 | nil =>
  clear H
  go_enter Tryd.func60,Tryd.ntmps60
  go_wp2_with (go_at_call 19;refine (kind_said g [] e A c _ (by first | exact HH.out | exact HH.out.below hb0)).mono ?_;rintro en w1 ⟨rfl,hb⟩;first | (have hb0:=below_then hb0 hb0.size hb) | have hb0:=hb)
  go_ret
  exact ⟨rfl,hb0⟩
 | cons t r =>
  obtain ⟨ad,rfl,r0,r1,r2⟩:=tok0 H.toks
  have c0:=H.has.cell 0
  simp only [List.getElem?_toArray,List.getElem?_cons_zero,List.getElem?_cons_succ] at c0
  clear H
  have hl:(0:Int) < ((t :: r).length:Int):=by simp
  have hk:kindP (t :: r) = t.f0:=rfl
  cases h4:(t.f0 == 4) with
  | true =>
   go_enter Tryd.func60,Tryd.ntmps60
   go_wp2_with (go_at_call 19;refine (kind_said g (t :: r) e (some ad) c _ HH.out).mono ?_;rintro en w1 ⟨he,hb⟩;rw [hk] at he;subst he;have c0:=pwcb hb c0;have r1:=pwcb hb r1)
   go_ret
   exact ⟨by simp [isP,h4],hb⟩
  | false =>
   cases h3:(t.f0 == 3) with
   | true =>
    go_enter Tryd.func60,Tryd.ntmps60
    go_wp2_with (go_at_call 19;refine (kind_said g (t :: r) e (some ad) c _ (by first | exact HH.out | exact HH.out.below hb0)).mono ?_;rintro en w1 ⟨he,hb⟩;rw [hk] at he;subst he;(first | (have hb0:=below_then hb0 hb0.size hb) | have hb0:=hb);have c0:=pwcb hb c0;have r1:=pwcb hb r1;clear hb)
    go_ret
    exact ⟨by simp [isP,h3],hb0⟩
   | false =>
    go_enter Tryd.func60,Tryd.ntmps60
    go_wp2_with (go_at_call 19;refine (kind_said g (t :: r) e (some ad) c _ (by first | exact HH.out | exact HH.out.below hb0)).mono ?_;rintro en w1 ⟨he,hb⟩;rw [hk] at he;subst he;(first | (have hb0:=below_then hb0 hb0.size hb) | have hb0:=hb);have c0:=pwcb hb c0;have r1:=pwcb hb r1;clear hb)
    go_ret
    exact ⟨by simp [isP,h3,h4],hb0⟩
abbrev rdS (ss:List ByteArray) (i:Int):ByteArray:=rdOf ByteArray.empty ss i
theorem any_rd {ss:List ByteArray} {p:ByteArray -> Bool} (h:∀ j:Int,0 <= j -> j < ss.length -> p (rdS ss j) = false):ss.any p = false:=by
 rw [List.any_eq_false]
 intro x hx
 obtain ⟨i,hi,rfl⟩:=List.mem_iff_getElem.1 hx
 have:=h i (by omega) (by omega)
 simpa [rdS,rdOf,List.getD_eq_getElem?_getD,hi] using this
theorem any_at {ss:List ByteArray} {p:ByteArray -> Bool} {j:Int} (h0:0 <= j) (h1:j < ss.length) (h:p (rdS ss j) = true):ss.any p = true:=by
 rw [List.any_eq_true]
 have hi:j.toNat < ss.length:=by omega
 refine ⟨ss[j.toNat],List.getElem_mem hi, ?_⟩
 simpa [rdS,rdOf,List.getD_eq_getElem?_getD,hi] using h
set_option maxRecDepth 100000 in
set_option maxHeartbeats 1000000 in
theorem one_said (g:Nat) (l:List S35) (e:Int) (A:Option Addr) (c:Nat) (ss:List ByteArray) (A1:Option Addr) (c1:Nat) (w:World) (H:PAt w g l e A c) (HS:Kd.C Kd.string w A1 ss.length ss) (hn:ss.length < 4611686018427387904) :
  Calls Tryd.prog 61 #[.pointer (some ⟨g,0,none⟩),.slice A1 ss.length c1] w fun en w' => en = .returned (.bool (oneP ss l)) /\ Below w.heap.size w w':=by
 have HH:=am H
 have HSS:=am HS
 have B0:=am (Below.refl w.heap.size w)
 clear H HS
 go_enter Tryd.func61,Tryd.ntmps61
 go_wp2
 go_loopw [9] (fun v wr => ∃ i:Int,v = .int .i64 i /\ 0 <= i /\ i <= ss.length /\ Aside0 (Below w.heap.size w wr) /\ Aside0 (∀ j:Int,0 <= j -> j < i -> isP (rdS ss j) l = false)) (fun v _=>ss.length - (intOf v).toNat)
 case atStart=>exact ⟨0,rfl,by omega,by omega,B0,⟨fun j h1 h2=>by omega⟩⟩
 case round =>
  clear B0
  obtain ⟨i,rfl,hi0,hi1,HB,HP⟩:=hrel
  by_cases hlt:i < ss.length
  ·obtain ⟨ad,rfl,v1⟩:=Kd.at_string (Kd.C_below HSS.out HB.out) i hi0 hlt
   obtain ⟨s,hs⟩:∃ s,rdS ss i = s:=⟨_,rfl⟩
   have v1' : wr.cell? (ad.add i.toNat) = some (.string s):=by rw [<- hs];exact v1
   clear v1
   cases hi:isP s l with
   | true =>
    have HT:=am (any_at (p:=fun s=>isP s l) hi0 hlt (by rw [hs];exact hi))
    have HI:=am hi
    clear hi hs
    go_wp2_with (go_at_call 60;(with_reducible refine (is_said g l e A c s _ (HH.out.below HB.out)).mono ?_);rintro en w1 ⟨he,hb⟩;rw [HI.out] at he;subst he)
    go_ret
    exact ⟨by rw [oneP,HT.out];rfl,below_then HB.out HB.out.size hb⟩
   | false =>
    have HP' : Aside0 (∀ j:Int,0 <= j -> j < i + 1 -> isP (rdS ss j) l = false):=⟨fun j h1 h2=>by
     by_cases ee:j = i
     ·rw [ee,hs];exact hi
     ·exact HP.out j h1 (by omega)⟩
    have HI:=am hi
    clear hi hs
    go_wp2_with (go_at_call 60;(with_reducible refine (is_said g l e A c s _ (HH.out.below HB.out)).mono ?_);rintro en w1 ⟨he,hb⟩;rw [HI.out] at he;subst he)
    exact ⟨⟨i + 1,rfl,by omega,by omega,⟨below_then HB.out HB.out.size hb⟩,HP'⟩,by simp [intOf];omega⟩
  ·have hd:decide (i < (ss.length:Int)) = false:=decide_eq_false hlt
   have HF:=am (any_rd (p:=fun s=>isP s l) fun j h1 h2=>HP.out j h1 (by omega))
   go_wp2
   go_ret
   exact ⟨by rw [oneP,HF.out];rfl,HB.out⟩
theorem take_row {w:World} {ad:Addr} {t:S35} {r:List S35} (h:Kd.C k35 w (some ad) (t :: r).length (t :: r)):Kd.C k35 w (some ⟨ad.block,ad.off + 3,none⟩) r.length r:=by
 obtain ⟨h1,h2,h3⟩:=h
 refine ⟨rfl,by simp only [List.length_cons] at h2;omega,fun h0=>⟨_,rfl,fun j p hj => ?_⟩⟩
 obtain ⟨ad',e,hc⟩:=h3 (by simp)
 obtain rfl:ad = ad':=Option.some.inj e
 obtain ⟨c,hl,hr,hcell⟩:=hc (j + 1) p (by simpa using hj)
 refine ⟨c,hl,hr,fun i u hi => ?_⟩
 have:=hcell i u hi
 have e2:(⟨ad.block,ad.off + 3,none⟩:Addr).add (j * k35.sz + i) = ad.add ((j + 1) * k35.sz + i):=by
  have hz:k35.sz = 3:=rfl
  rw [hz]
  unfold Addr.add
  rw [if_neg (show ¬ (j + 1) * 3 + i = 0 by omega)]
  split
  ·rename_i h
   rw [show ad.off + ((j + 1) * 3 + i) = ad.off + 3 by omega]
  ·rw [show ad.off + ((j + 1) * 3 + i) = ad.off + 3 + (j * 3 + i) by omega]
 rw [e2];exact this
theorem C_far {w:World} {A:Option Addr} {l:List S35} (h:Kd.C k35 w A l.length l) {p:Addr} (hp:∀ ad,A = some ad -> ad.block ≠ p.block) (u:Value):Kd.C k35 (w.setCell p u) A l.length l:=by
 obtain ⟨h1,h2,h3⟩:=h
 refine ⟨h1,h2,fun h0 => ?_⟩
 obtain ⟨ad,e,hc⟩:=h3 h0
 refine ⟨ad,e,fun j q hj => ?_⟩
 obtain ⟨c,hl,hr,hcell⟩:=hc j q hj
 refine ⟨c,hl, ?_,fun i v hi => ?_⟩
 ·exact hr
 ·have hb:(ad.add (j * k35.sz + i)).block = ad.block:=by unfold Addr.add;split <;> rfl
  have e1:(w.setCell p u).heap[(ad.add (j * k35.sz + i)).block]? = w.heap[(ad.add (j * k35.sz + i)).block]?:=Below.heap_setCell w p u _ (by rw [hb];exact hp ad e)
  have:=hcell i v hi
  unfold World.cell? at this ⊢
  rw [e1];exact this
theorem nil_row (w:World) (A:Option Addr):Kd.C k35 w A ([]:List S35).length []:=⟨rfl,by simp,fun h=>absurd h (Nat.lt_irrefl 0)⟩
set_option maxRecDepth 100000 in
set_option maxHeartbeats 2000000 in
theorem next_said (g:Nat) (t:S35) (r:List S35) (e:Int) (A:Option Addr) (c:Nat) (w:World) (H:PAt w g (t :: r) e A c) :
  Calls Tryd.prog 54 #[.pointer (some ⟨g,0,none⟩)] w fun en w' => en = .returned (.agg #[.int .i64 t.f0,.string t.f1,.int .i64 t.f2]) /\ KeptG g w w' /\ PS w' g r e:=by
 obtain ⟨ad,rfl,r0,r1,r2⟩:=tok0 H.toks
 have c0:=H.has.cell 0
 have f0:=H.has.frozen 0
 simp only [List.getElem?_toArray,List.getElem?_cons_zero,List.getElem?_cons_succ] at c0
 have HH:=am H
 have hsz:=am H.le.2
 have hle:=H.le.1
 clear H
 have hl:(0:Int) < ((t :: r).length:Int):=by simp
 have hu35:=Tryd.underlying35
 have n1:=fun o=>pwcb (below_alloc (Below.refl _ w) o) c0
 have n2:=fun o=>pwcb (below_alloc (Below.refl _ w) o) r0
 have n3:=fun o=>pwcb (below_alloc (Below.refl _ w) o) r1
 have n4:=fun o=>pwcb (below_alloc (Below.refl _ w) o) r2
 have n5:=fun o o2=>pwcb (below_alloc (below_alloc (Below.refl _ w) o) o2) c0
 have n6:=fun (o o2:Obj)=>((HH.out.has.alloc o).alloc o2).frozen 0
 have hg:g < w.heap.size:=HH.out.has.lt
 go_enter Tryd.func54,Tryd.ntmps54
 go_wp2_with fail
 ·obtain rfl:r = []:=List.eq_nil_of_length_eq_zero (by simp only [List.length_cons] at hle;omega)
  have hx:Has (w.setCell ⟨g,0,none⟩ (.slice (some ad) 0 0)) g #[.slice (some ad) 0 0,.int .i64 e] 76:=HH.out.has.set_ 0 _
  have hs:(w.setCell ⟨g,0,none⟩ (.slice (some ad) 0 0)).heap.size = w.heap.size:=by simp
  have hk:KeptG g w (w.setCell ⟨g,0,none⟩ (.slice (some ad) 0 0)):=(Kept.refl (fun b=>b = g) w).setCell (a:=⟨g,0,none⟩) rfl _
  refine bodyPost_ret (results_cell_row rfl _ _ w.heap.size 35 #[.int .i64 t.f0,.string t.f1,.int .i64 t.f2] (0,0) _ rfl (hs ▸ (Has.new _ _ 35).alloc _) Tryd.underlying35 rfl (by rfl)) rfl ?_
  exact ⟨rfl,(hk.alloc _).alloc _,some ad,0,(hx.alloc _).alloc _,⟨Nat.le_refl 0,hsz.out.tail⟩,nil_row _ _,((HH.out.row.set (a:=⟨g,0,none⟩) HH.out.ne _).below (below_alloc (Below.refl _ _) _)).below (below_alloc (Below.refl _ _) _)⟩
 ·have hx:Has (w.setCell ⟨g,0,none⟩ (.slice (some ⟨ad.block,ad.off + 3,none⟩) r.length (c - 1))) g #[.slice (some ⟨ad.block,ad.off + 3,none⟩) r.length (c - 1),.int .i64 e] 76:=HH.out.has.set_ 0 _
  have hs:(w.setCell ⟨g,0,none⟩ (.slice (some ⟨ad.block,ad.off + 3,none⟩) r.length (c - 1))).heap.size = w.heap.size:=by simp
  have hk:KeptG g w (w.setCell ⟨g,0,none⟩ (.slice (some ⟨ad.block,ad.off + 3,none⟩) r.length (c - 1))):=(Kept.refl (fun b=>b = g) w).setCell (a:=⟨g,0,none⟩) rfl _
  have ht:Kd.C k35 (w.setCell ⟨g,0,none⟩ (.slice (some ⟨ad.block,ad.off + 3,none⟩) r.length (c - 1))) (some ⟨ad.block,ad.off + 3,none⟩) r.length r:=C_far (take_row HH.out.toks) (fun ad' e=>by injection e with e;subst e;exact HH.out.ne ad rfl) _
  refine bodyPost_ret (results_cell_row rfl _ _ w.heap.size 35 #[.int .i64 t.f0,.string t.f1,.int .i64 t.f2] (0,0) _ rfl (hs ▸ (Has.new _ _ 35).alloc _) Tryd.underlying35 rfl (by rfl)) rfl ?_
  exact ⟨rfl,(hk.alloc _).alloc _,some ⟨ad.block,ad.off + 3,none⟩,c - 1,(hx.alloc _).alloc _,⟨by simp only [List.length_cons] at hle;omega,hsz.out.tail⟩,Kd.C_alloc (Kd.C_alloc ht _) _,(((RowT.of (A:=some ⟨ad.block,ad.off + 3,none⟩) (w:=w) (fun ad' e=>by injection e with e;subst e;exact HH.out.row ad rfl) (fun _ _=>rfl)).set (a:=⟨g,0,none⟩) (fun ad' e=>by injection e with e;subst e;exact HH.out.ne ad rfl) _).below (below_alloc (Below.refl _ _) _)).below (below_alloc (Below.refl _ _) _)⟩
set_option maxRecDepth 100000 in
set_option maxHeartbeats 1000000 in
theorem take_said (g:Nat) (l:List S35) (e:Int) (s:ByteArray) (w:World) (H:PS w g l e) :
  Calls Tryd.prog 41 #[.pointer (some ⟨g,0,none⟩),.string s] w fun en w' => en = .returned (.bool (isP s l)) /\ KeptG g w w' /\ PS w' g (if isP s l = true then l.tail else l) e:=by
 obtain ⟨A,c,H⟩:=H
 have HH:=am H
 clear H
 cases hi:isP s l with
 | false =>
  have HI:=am hi
  clear hi
  go_enter Tryd.func41,Tryd.ntmps41
  go_wp2_with (go_at_call 60;(with_reducible refine (is_said g l e A c s _ HH.out).mono ?_);rintro en w1 ⟨he,hb⟩;rw [HI.out] at he;subst he)
  go_ret
  exact ⟨rfl,.of_below hb,A,c,HH.out.below hb⟩
 | true =>
  cases l with
  | nil=>exact Bool.noConfusion hi
  | cons t r =>
   have HI:=am hi
   clear hi
   go_enter Tryd.func41,Tryd.ntmps41
   go_wp2_with (first | (go_at_call 60;(with_reducible refine (is_said g (t :: r) e A c s _ HH.out).mono ?_);rintro en w1 ⟨he,hb⟩;rw [HI.out] at he;subst he) | (go_at_call 54;(with_reducible refine (next_said g t r e A c _ (HH.out.below hb)).mono ?_);rintro en w2 ⟨rfl,hk,hp⟩))
   go_ret
   exact ⟨rfl,(Kept.of_below hb).then_ hk,hp⟩
set_option maxRecDepth 100000 in
set_option maxHeartbeats 1000000 in
theorem need_said (g:Nat) (l:List S35) (e:Int) (s:ByteArray) (w:World) (H:PS w g l e) :
  Calls Tryd.prog 42 #[.pointer (some ⟨g,0,none⟩),.string s] w (PPost g e (fun _ v (_:Unit)=>v = .tuple #[]) (if isP s l = true then .ok () l.tail else .bad (atP e l) 30) w):=by
 have HH:=am H
 clear H
 cases hi:isP s l with
 | true =>
  have HI:=am hi
  clear hi
  go_enter Tryd.func42,Tryd.ntmps42
  go_wp2_with (go_at_call 41;(with_reducible refine (take_said g l e s _ HH.out).mono ?_);rintro en w1 ⟨he,hk,hp⟩;rw [HI.out] at he hp;rw [if_pos rfl] at hp;subst he)
  refine bodyPost_end (results_none rfl _ _ _) rfl ⟨hk,_,rfl,rfl,hp⟩
 | false =>
  have HI:=am hi
  clear hi
  go_enter Tryd.func42,Tryd.ntmps42
  go_wp2_with (first | (go_at_call 41;(with_reducible refine (take_said g l e s _ HH.out).mono ?_);rintro en w1 ⟨he,hk,hp⟩;rw [HI.out] at he hp;rw [if_neg (by decide)] at hp;subst he;obtain ⟨A,c,hp⟩:=hp) | (go_at_call 20;(with_reducible refine (fail_said g l e A c 30 _ hp).mono ?_);rintro en w2 ⟨rfl,hb⟩))
  exact ⟨rfl,hk.below hb,rfl⟩
theorem fld1 (a:Int) (s:ByteArray) (c:Int) (w:World):(Instr.field 35 (.agg #[.int .i64 a,.string s,.int .i64 c]) 1).run Tryd.prog w = .ok (.string s) w:=by kernel_rfl
theorem fld2 (a:Int) (s:ByteArray) (c:Int) (w:World):(Instr.field 35 (.agg #[.int .i64 a,.string s,.int .i64 c]) 2).run Tryd.prog w = .ok (.int .i64 c) w:=by kernel_rfl
def nameP (e:Int):List S35 -> PR ByteArray
 | []=>.bad e 30
 | t :: r=>if t.f0 = 1 then .ok t.f1 r else .bad t.f2 30
set_option maxRecDepth 100000 in
set_option maxHeartbeats 1000000 in
theorem name_said (g:Nat) (l:List S35) (e:Int) (w:World) (H:PS w g l e) :
  Calls Tryd.prog 40 #[.pointer (some ⟨g,0,none⟩)] w (PPost g e (fun _ v (x:ByteArray)=>v = .string x) (nameP e l) w):=by
 obtain ⟨A,c,H⟩:=H
 have HH:=am H
 clear H
 by_cases hk:kindP l = 1
 ·cases l with
  | nil=>exact absurd hk (by decide)
  | cons t r =>
   have HN:Aside0 (nameP e (t :: r) = .ok t.f1 r):=⟨if_pos hk⟩
   have hfl:=fld1 t.f0 t.f1 t.f2
   have HK:=am hk
   clear hk
   go_enter Tryd.func40,Tryd.ntmps40
   go_wp2_with (first | (go_at_call 19;(with_reducible refine (kind_said g (t :: r) e A c _ HH.out).mono ?_);rintro en w1 ⟨he,hb⟩;rw [HK.out] at he;subst he) | (go_at_call 54;(with_reducible refine (next_said g t r e A c _ (HH.out.below hb)).mono ?_);rintro en w2 ⟨rfl,hk,hp⟩))
   go_ret
   rw [HN.out]
   exact ⟨(Kept.of_below hb).then_ hk,_,rfl,rfl,hp⟩
 ·have HN:Aside0 (nameP e l = .bad (atP e l) 30):=⟨by cases l with
   | nil=>rfl
   | cons t r=>exact if_neg hk⟩
  have hkb:(kindP l != 1) = true:=by simp [hk]
  clear hk
  generalize hq:kindP l = q at *
  have HQ:=am hq
  clear hq
  go_enter Tryd.func40,Tryd.ntmps40
  go_wp2_with (first | (go_at_call 19;(with_reducible refine (kind_said g l e A c _ HH.out).mono ?_);rintro en w1 ⟨he,hb⟩;rw [HQ.out] at he;subst he) | (go_at_call 20;(with_reducible refine (fail_said g l e A c 30 _ (HH.out.below hb)).mono ?_);rintro en w2 ⟨rfl,hb2⟩))
  rw [HN.out]
  exact ⟨rfl,(Kept.of_below hb).below hb2,rfl⟩
set_option maxRecDepth 100000 in
set_option maxHeartbeats 1000000 in
theorem deep_said (g:Nat) (l:List S35) (e d:Int) (w:World) (H:PS w g l e) :
  Calls Tryd.prog 62 #[.pointer (some ⟨g,0,none⟩),.int .i64 d] w (PPost g e (fun _ v (_:Unit)=>v = .tuple #[]) (if d >= 60 then .bad (atP e l) 31 else .ok () l) w):=by
 by_cases hd:d >= 60
 ·rw [if_pos hd]
  obtain ⟨A,c,H⟩:=H
  have HH:=am H
  clear H
  go_enter Tryd.func62,Tryd.ntmps62
  go_wp2_with (go_at_call 20;(with_reducible refine (fail_said g l e A c 31 _ HH.out).mono ?_);rintro en w2 ⟨rfl,hb2⟩)
  exact ⟨rfl,.of_below hb2,rfl⟩
 ·rw [if_neg hd]
  have HH:=am H
  clear H
  go_enter Tryd.func62,Tryd.ntmps62
  go_wp2
  refine bodyPost_end (results_none rfl _ _ _) rfl ⟨Kept.refl _ _,_,rfl,rfl,HH.out⟩
end Go.Proofs.YtngpgdmafmkddaaDoor.Par
end
section
namespace Go.Proofs.YtngpgdmafmkddaaDoor.Par
open Go Go.RowKit
theorem hci {w : Go.World} {b : Nat} {l : List Go.Value} {t : Go.TypeId} (h : Has w b l.toArray t) (i : Nat) {v : Go.Value} (hv : l[i]? = some v) : w.cell? ⟨b, i, none⟩ = some v := by rw [h.cell]; simpa using hv
end Go.Proofs.YtngpgdmafmkddaaDoor.Par
end
section
namespace Go.Proofs.YtngpgdmafmkddaaDoor.Par
open Go.RowKit Go.Proofs.YtngpgdmafmkddaaDoorW.PrintWords Go.Proofs.YtngpgdmafmkddaaDoorW.PrintLast Go.Proofs.YtngpgdmafmkddaaDoorW.PrintMore
open Go.Proofs.YtngpgdmafmkddaaDoor.PParseBlanks (S35 S25 S27 k35 k25 k27 rd_T35 rd_T25 rd_T27 at_T35 at_T25 at_T27)
set_option linter.unusedVariables false
set_option linter.unusedSimpArgs false
open Go.Maps Go.WideMaps
theorem wpList_insert_own {H:Type} {P:Program} (w:World) {ops:Array Oper} {rest:List Oper} {o:Oper} {a:Act} {Q:Exit -> Act -> World -> Prop}
  (hg:o.guard = none) (m x v:Operand) (t:TypeId) (hop:o.op = Op.insert t m x v)
  (k e:TypeId) (K:Keyed P k) (ht:P.underlying t = some (.map k e)) (R:Value -> Option (DataW H × List MemPlace)) (b n:Nat) (D:DataW H)
  (hm:a.eval m = .map (some b)) (hown:w.ownsMap P k R b n D) (hn:n < maxLen) (key val:Value) (kl:Lit) (hx:a.eval x = key) (hv:a.eval v = val) (hkey:keyOf P k key = some kl)
  (d:DataW H) (ps:List MemPlace) (hval:R val = some (d,ps))
  (hK:∀ w',w'.ownsMap P k R b (n + 1) (D.put kl d) -> w.grownBy w' (some b) -> wpList P ops Q rest (a.put o.dst undef) w') :
  wpList P ops Q (o :: rest) a w:=by
 refine wpList_plain hg fun K' hK' => ?_
 obtain ⟨w',hrun,r1,r2⟩:=hown.update K ht hn hkey hval
 unfold Oper.wp
 simp [execOp,hop,hm,hx,hv,hrun,Result.andThen]
 exact hK' _ _ (hK w' r1 r2)
noncomputable abbrev E3:Value -> Option (DataW Unit × List MemPlace):=plainElem Tryd.prog 3
noncomputable def kindsD:DataW Unit:=((((((((DataW.map []).put (.string [98,111,111,108]) (.lit (.int .i64 2))).put (.string [105,56]) (.lit (.int .i64 3))).put (.string [105,49,54]) (.lit (.int .i64 4))).put (.string [105,51,50]) (.lit (.int .i64 5))).put (.string [117,56]) (.lit (.int .i64 6))).put (.string [117,49,54]) (.lit (.int .i64 7))).put (.string [117,51,50]) (.lit (.int .i64 8)))
theorem law9:Keyed Tryd.prog 9:=string_keyed Tryd.underlying9
set_option maxRecDepth 100000 in
set_option maxHeartbeats 2000000 in
theorem kinds_said (w:World) :
  Calls Tryd.prog 66 #[] w fun e w' => ∃ b,e = .returned (.map (some b)) /\ w'.ownsMap Tryd.prog 9 E3 b 7 kindsD /\ Below w.heap.size w w':=by
 have hmm := @run_makeMap Tryd.prog
 go_enter Tryd.func66,Tryd.ntmps66
 go_wp2_with (first | (with_reducible refine wpList_insert_own _ rfl (.tmp 1) (.const (.string ⟨#[98,111,111,108]⟩)) (.const (.int .i64 2)) 101 rfl 9 3 law9 Tryd.underlying101 E3 w.heap.size _ _ rfl (World.ownsMap_made w Tryd.prog 9 E3) (by decide) (.string ⟨#[98,111,111,108]⟩) (.int .i64 2) _ rfl rfl (keyOf_string_mk Tryd.underlying9 (by decide)) (.lit (.int .i64 2)) [] (plainElem_int Tryd.underlying3 (by decide)) ?_;intro w1 h1 b1) | (with_reducible refine wpList_insert_own _ rfl (.tmp 1) (.const (.string ⟨#[105,56]⟩)) (.const (.int .i64 3)) 101 rfl 9 3 law9 Tryd.underlying101 E3 w.heap.size _ _ rfl h1 (by decide) (.string ⟨#[105,56]⟩) (.int .i64 3) _ rfl rfl (keyOf_string_mk Tryd.underlying9 (by decide)) (.lit (.int .i64 3)) [] (plainElem_int Tryd.underlying3 (by decide)) ?_;intro w2 h2 b2) | (with_reducible refine wpList_insert_own _ rfl (.tmp 1) (.const (.string ⟨#[105,49,54]⟩)) (.const (.int .i64 4)) 101 rfl 9 3 law9 Tryd.underlying101 E3 w.heap.size _ _ rfl h2 (by decide) (.string ⟨#[105,49,54]⟩) (.int .i64 4) _ rfl rfl (keyOf_string_mk Tryd.underlying9 (by decide)) (.lit (.int .i64 4)) [] (plainElem_int Tryd.underlying3 (by decide)) ?_;intro w3 h3 b3) | (with_reducible refine wpList_insert_own _ rfl (.tmp 1) (.const (.string ⟨#[105,51,50]⟩)) (.const (.int .i64 5)) 101 rfl 9 3 law9 Tryd.underlying101 E3 w.heap.size _ _ rfl h3 (by decide) (.string ⟨#[105,51,50]⟩) (.int .i64 5) _ rfl rfl (keyOf_string_mk Tryd.underlying9 (by decide)) (.lit (.int .i64 5)) [] (plainElem_int Tryd.underlying3 (by decide)) ?_;intro w4 h4 b4) | (with_reducible refine wpList_insert_own _ rfl (.tmp 1) (.const (.string ⟨#[117,56]⟩)) (.const (.int .i64 6)) 101 rfl 9 3 law9 Tryd.underlying101 E3 w.heap.size _ _ rfl h4 (by decide) (.string ⟨#[117,56]⟩) (.int .i64 6) _ rfl rfl (keyOf_string_mk Tryd.underlying9 (by decide)) (.lit (.int .i64 6)) [] (plainElem_int Tryd.underlying3 (by decide)) ?_;intro w5 h5 b5) | (with_reducible refine wpList_insert_own _ rfl (.tmp 1) (.const (.string ⟨#[117,49,54]⟩)) (.const (.int .i64 7)) 101 rfl 9 3 law9 Tryd.underlying101 E3 w.heap.size _ _ rfl h5 (by decide) (.string ⟨#[117,49,54]⟩) (.int .i64 7) _ rfl rfl (keyOf_string_mk Tryd.underlying9 (by decide)) (.lit (.int .i64 7)) [] (plainElem_int Tryd.underlying3 (by decide)) ?_;intro w6 h6 b6) | (with_reducible refine wpList_insert_own _ rfl (.tmp 1) (.const (.string ⟨#[117,51,50]⟩)) (.const (.int .i64 8)) 101 rfl 9 3 law9 Tryd.underlying101 E3 w.heap.size _ _ rfl h6 (by decide) (.string ⟨#[117,51,50]⟩) (.int .i64 8) _ rfl rfl (keyOf_string_mk Tryd.underlying9 (by decide)) (.lit (.int .i64 8)) [] (plainElem_int Tryd.underlying3 (by decide)) ?_;intro w7 h7 b7))
 go_ret
 have hs0:w.heap.size <= (w.alloc (Obj.map #[] 0)).heap.size:=by rw [World.size_alloc];omega
 have g0:Below w.heap.size w (w.alloc (Obj.map #[] 0)):=below_alloc (Below.refl _ _) _
 have g1:=pw_below_grown g0 _ hs0 b1 (by rintro k ⟨⟩;exact Nat.le_refl _)
 have g2:=pw_below_grown g1 _ g1.size b2 (by rintro k ⟨⟩;exact Nat.le_refl _)
 have g3:=pw_below_grown g2 _ g2.size b3 (by rintro k ⟨⟩;exact Nat.le_refl _)
 have g4:=pw_below_grown g3 _ g3.size b4 (by rintro k ⟨⟩;exact Nat.le_refl _)
 have g5:=pw_below_grown g4 _ g4.size b5 (by rintro k ⟨⟩;exact Nat.le_refl _)
 have g6:=pw_below_grown g5 _ g5.size b6 (by rintro k ⟨⟩;exact Nat.le_refl _)
 have g7:=pw_below_grown g6 _ g6.size b7 (by rintro k ⟨⟩;exact Nat.le_refl _)
 exact ⟨w.heap.size,rfl,h7,g7⟩
theorem kindsD_eq:kindsD = .map [(.string [98,111,111,108],.lit (.int .i64 2)),(.string [105,49,54],.lit (.int .i64 4)),(.string [105,51,50],.lit (.int .i64 5)),(.string [105,56],.lit (.int .i64 3)),(.string [117,49,54],.lit (.int .i64 7)),(.string [117,51,50],.lit (.int .i64 8)),(.string [117,56],.lit (.int .i64 6))]:=by kernel_rfl
def tykP (l:List UInt8):Option Int:=
 if l = [98,111,111,108] then some 2 else
 if l = [105,56] then some 3 else
 if l = [105,49,54] then some 4 else
 if l = [105,51,50] then some 5 else
 if l = [117,56] then some 6 else
 if l = [117,49,54] then some 7 else
 if l = [117,51,50] then some 8 else
 none
theorem kinds_has (l:List UInt8):Maps.has kindsD (.string l) = (tykP l).isSome:=by
 rw [kindsD_eq]
 by_cases h0:l = [98,111,111,108]
 ·subst h0;rfl
 by_cases h1:l = [105,56]
 ·subst h1;rfl
 by_cases h2:l = [105,49,54]
 ·subst h2;rfl
 by_cases h3:l = [105,51,50]
 ·subst h3;rfl
 by_cases h4:l = [117,56]
 ·subst h4;rfl
 by_cases h5:l = [117,49,54]
 ·subst h5;rfl
 by_cases h6:l = [117,51,50]
 ·subst h6;rfl
 have e:tykP l = none:=by unfold tykP;rw [if_neg h0,if_neg h1,if_neg h2,if_neg h3,if_neg h4,if_neg h5,if_neg h6]
 rw [e]
 have g0:=Ne.symm h0
 have g1:=Ne.symm h1
 have g2:=Ne.symm h2
 have g3:=Ne.symm h3
 have g4:=Ne.symm h4
 have g5:=Ne.symm h5
 have g6:=Ne.symm h6
 simp [Maps.has,DataW.atKey,Lit.sameKey,g0,g1,g2,g3,g4,g5,g6]
theorem kinds_at (l:List UInt8):kindsD.atKey (.string l) (.lit (.int .i64 0)) = .lit (.int .i64 ((tykP l).getD 0)):=by
 rw [kindsD_eq]
 by_cases h0:l = [98,111,111,108]
 ·subst h0;rfl
 by_cases h1:l = [105,56]
 ·subst h1;rfl
 by_cases h2:l = [105,49,54]
 ·subst h2;rfl
 by_cases h3:l = [105,51,50]
 ·subst h3;rfl
 by_cases h4:l = [117,56]
 ·subst h4;rfl
 by_cases h5:l = [117,49,54]
 ·subst h5;rfl
 by_cases h6:l = [117,51,50]
 ·subst h6;rfl
 have e:tykP l = none:=by unfold tykP;rw [if_neg h0,if_neg h1,if_neg h2,if_neg h3,if_neg h4,if_neg h5,if_neg h6]
 rw [e]
 have g0:=Ne.symm h0
 have g1:=Ne.symm h1
 have g2:=Ne.symm h2
 have g3:=Ne.symm h3
 have g4:=Ne.symm h4
 have g5:=Ne.symm h5
 have g6:=Ne.symm h6
 simp [Maps.has,DataW.atKey,Lit.sameKey,g0,g1,g2,g3,g4,g5,g6]
end Go.Proofs.YtngpgdmafmkddaaDoor.Par
end
section
namespace Go.Proofs.YtngpgdmafmkddaaDoor.PParseBlanks
open Go.RowKit Go.Proofs.YtngpgdmafmkddaaDoorW.PrintWords Go.Proofs.YtngpgdmafmkddaaDoorW.PrintLast Go.Proofs.YtngpgdmafmkddaaDoorW.PrintMore
attribute [local go_sem] max2_int min2_int max_two min_two max_three min_three max_four min_four   
set_option linter.unusedVariables false
set_option linter.unusedSimpArgs false
def stringslite_HasPrefix.f (a0:ByteArray) (a1:ByteArray):Option (Bool):=if (a0.size:Int) >= (a1.size:Int) then (if 0 <= (a1.size:Int) then (if (a1.size:Int) <= (a0.size:Int) then (some ((a0.extract 0 ((a1.size:Int):Int).toNat).toList == a1.toList)) else (none)) else (none)) else (some false)
set_option maxHeartbeats 8000000 in
set_option maxRecDepth 100000 in
theorem stringslite_HasPrefix.calls (a0:ByteArray) (a1:ByteArray) (r:Bool) (w:World) (h:stringslite_HasPrefix.f a0 a1 = some r) :
  Calls Tryd.prog 57 #[.string a0,.string a1] w fun e w' => e = .returned (.bool r) /\ Drawn0 w w':=by
 have H:(if (a0.size:Int) >= (a1.size:Int) then (if 0 <= (a1.size:Int) then (if (a1.size:Int) <= (a0.size:Int) then (some ((a0.extract 0 ((a1.size:Int):Int).toNat).toList == a1.toList)) else (none)) else (none)) else (some false)) = some r:=h
 clear h
 by_cases c3:(a0.size:Int) >= (a1.size:Int)
 ·rw [if_pos c3] at H
  have c3b0:decide ((a1.size:Int) <= (a0.size:Int)) = true:=decide_eq_true c3
  have c3b1:decide (a1.size <= a0.size) = true:=decide_eq_true (Int.ofNat_le.mp c3)
  clear c3
  by_cases c4:0 <= (a1.size:Int)
  ·rw [if_pos c4] at H
   have c4b0:=eq_true c4
   have c4b1:decide (0 <= (a1.size:Int)) = true:=decide_eq_true c4
   clear c4
   by_cases c5:(a1.size:Int) <= (a0.size:Int)
   ·rw [if_pos c5] at H
    have c5b0:=eq_true c5
    have c5b1:decide ((a1.size:Int) <= (a0.size:Int)) = true:=decide_eq_true c5
    clear c5
    obtain rfl:=Option.some.inj H
    go_enter Tryd.func57,Tryd.ntmps57
    go_wp2
    go_ret
    exact ⟨by first | rfl | (simp;done) | (simp [*];done),by repeat (first | exact Drawn0.refl _ | apply Drawn0.step)⟩
   ·rw [if_neg c5] at H
    exact absurd H (by simp)
  ·rw [if_neg c4] at H
   exact absurd H (by simp)
 ·rw [if_neg c3] at H
  have c3b0:decide ((a1.size:Int) <= (a0.size:Int)) = false:=decide_eq_false c3
  have c3b1:decide (a1.size <= a0.size) = false:=decide_eq_false (fun h=>c3 (Int.ofNat_le.mpr h))
  clear c3
  obtain rfl:=Option.some.inj H
  go_enter Tryd.func57,Tryd.ntmps57
  go_wp2
  go_ret
  exact ⟨by first | rfl | (simp;done) | (simp [*];done),by repeat (first | exact Drawn0.refl _ | apply Drawn0.step)⟩
def strings_HasPrefix.f (a0:ByteArray) (a1:ByteArray):Option (Bool):=(stringslite_HasPrefix.f a0 a1).bind fun t104=>(some t104)
set_option maxHeartbeats 8000000 in
set_option maxRecDepth 100000 in
theorem strings_HasPrefix.calls (a0:ByteArray) (a1:ByteArray) (r:Bool) (w:World) (h:strings_HasPrefix.f a0 a1 = some r) :
  Calls Tryd.prog 33 #[.string a0,.string a1] w fun e w' => e = .returned (.bool r) /\ Drawn0 w w':=by
 have H:((stringslite_HasPrefix.f a0 a1).bind fun t104=>(some t104)) = some r:=h
 clear h
 replace H:=Option.bind_eq_some_iff.mp H
 obtain ⟨t104,A30,H⟩:=H
 replace H:(some t104) = some r:=H
 have A3:=am A30
 clear A30
 obtain rfl:=Option.some.inj H
 go_enter Tryd.func33,Tryd.ntmps33
 go_wp2_with (first | ((with_reducible refine gate_callee (f:=57) rfl ?_);refine goesL_ (some 7) rfl rfl Tryd.func57 (by kernel_rfl) rfl #[.string a0,.string a1] rfl (by (try simp only [List.map_toArray,List.map_cons,List.map_nil]);first | done | rfl | (simp only [List.length_drop,List.length_take];rfl)) ?_;(with_reducible refine (stringslite_HasPrefix.calls a0 a1 t104 _ A3.out).mono ?_);rintro e w' ⟨rfl,⟨nd,rfl⟩⟩;refine ⟨_,rfl, ?_⟩))
 go_ret
 exact ⟨by first | rfl | (simp;done) | (simp [*];done),by repeat (first | exact Drawn0.refl _ | apply Drawn0.step)⟩
def lex_isDigit.f (a0:Int):Option (Bool):=if a0 >= 48 then (some (decide (a0 <= 57))) else (some false)
set_option maxHeartbeats 8000000 in
set_option maxRecDepth 100000 in
theorem lex_isDigit.calls (a0:Int) (r:Bool) (w:World) (h:lex_isDigit.f a0 = some r) :
  Calls Tryd.prog 37 #[.int .u8 a0] w fun e w' => e = .returned (.bool r) /\ Drawn0 w w':=by
 have H:(if a0 >= 48 then (some (decide (a0 <= 57))) else (some false)) = some r:=h
 clear h
 by_cases c2:a0 >= 48
 ·rw [if_pos c2] at H
  have c2b0:decide (48 <= a0) = true:=decide_eq_true c2
  clear c2
  obtain rfl:=Option.some.inj H
  go_enter Tryd.func37,Tryd.ntmps37
  go_wp2
  go_ret
  exact ⟨by first | rfl | (simp;done) | (simp [*];done),by repeat (first | exact Drawn0.refl _ | apply Drawn0.step)⟩
 ·rw [if_neg c2] at H
  have c2b0:decide (48 <= a0) = false:=decide_eq_false c2
  clear c2
  obtain rfl:=Option.some.inj H
  go_enter Tryd.func37,Tryd.ntmps37
  go_wp2
  go_ret
  exact ⟨by first | rfl | (simp;done) | (simp [*];done),by repeat (first | exact Drawn0.refl _ | apply Drawn0.step)⟩
def lex_isLetter.f (a0:Int):Option (Bool):=if a0 = 95 then (some true) else (if (Go.bits .or .u8 a0 32) >= 97 then (some (decide ((Go.bits .or .u8 a0 32) <= 122))) else (some false))
set_option maxHeartbeats 8000000 in
set_option maxRecDepth 100000 in
theorem lex_isLetter.calls (a0:Int) (r:Bool) (w:World) (h:lex_isLetter.f a0 = some r) :
  Calls Tryd.prog 58 #[.int .u8 a0] w fun e w' => e = .returned (.bool r) /\ Drawn0 w w':=by
 have H:(if a0 = 95 then (some true) else (if (Go.bits .or .u8 a0 32) >= 97 then (some (decide ((Go.bits .or .u8 a0 32) <= 122))) else (some false))) = some r:=h
 clear h
 by_cases c2:a0 = 95
 ·rw [if_pos c2] at H
  have c2b0:(a0 == 95) = true:=beq_iff_eq.mpr c2
  have c2b1:(a0 != 95) = false:=bne_eq_false_iff_eq.mpr c2
  clear c2
  obtain rfl:=Option.some.inj H
  go_enter Tryd.func58,Tryd.ntmps58
  go_wp2
  go_ret
  exact ⟨by first | rfl | (simp;done) | (simp [*];done),by repeat (first | exact Drawn0.refl _ | apply Drawn0.step)⟩
 ·rw [if_neg c2] at H
  have c2b0:(a0 == 95) = false:=beq_eq_false_iff_ne.mpr c2
  have c2b1:(a0 != 95) = true:=bne_iff_ne.mpr c2
  by_cases c3:(Go.bits .or .u8 a0 32) >= 97
  ·rw [if_pos c3] at H
   have c3b0:decide (97 <= (Go.bits .or .u8 a0 32)) = true:=decide_eq_true c3
   clear c3
   obtain rfl:=Option.some.inj H
   go_enter Tryd.func58,Tryd.ntmps58
   go_wp2
   go_ret
   exact ⟨by first | rfl | (simp;done) | (simp [*];done),by repeat (first | exact Drawn0.refl _ | apply Drawn0.step)⟩
  ·rw [if_neg c3] at H
   have c3b0:decide (97 <= (Go.bits .or .u8 a0 32)) = false:=decide_eq_false c3
   clear c3
   obtain rfl:=Option.some.inj H
   go_enter Tryd.func58,Tryd.ntmps58
   go_wp2
   go_ret
   exact ⟨by first | rfl | (simp;done) | (simp [*];done),by repeat (first | exact Drawn0.refl _ | apply Drawn0.step)⟩
def lex_isPart.f (a0:Int):Option (Bool):=(lex_isLetter.f a0).bind fun t105=>(if t105 = true then (some true) else ((lex_isDigit.f a0).bind fun t106=>(some t106)))
set_option maxHeartbeats 8000000 in
set_option maxRecDepth 100000 in
theorem lex_isPart.calls (a0:Int) (r:Bool) (w:World) (h:lex_isPart.f a0 = some r) :
  Calls Tryd.prog 35 #[.int .u8 a0] w fun e w' => e = .returned (.bool r) /\ Drawn0 w w':=by
 have H:((lex_isLetter.f a0).bind fun t105=>(if t105 = true then (some true) else ((lex_isDigit.f a0).bind fun t106=>(some t106)))) = some r:=h
 clear h
 replace H:=Option.bind_eq_some_iff.mp H
 obtain ⟨t105,A20,H⟩:=H
 replace H:(if t105 = true then (some true) else ((lex_isDigit.f a0).bind fun t106=>(some t106))) = some r:=H
 have A2:=am A20
 clear A20
 by_cases c3:t105 = true
 ·subst c3
  have H1:(some true) = some r:=by rw [if_pos rfl] at H;exact H
  clear H
  have H:=H1
  clear H1
  obtain rfl:=Option.some.inj H
  go_enter Tryd.func35,Tryd.ntmps35
  go_wp2_with (first | ((with_reducible refine gate_callee (f:=58) rfl ?_);refine goesL_ (some 4) rfl rfl Tryd.func58 (by kernel_rfl) rfl #[.int .u8 a0] rfl (by (try simp only [List.map_toArray,List.map_cons,List.map_nil]);first | done | rfl | (simp only [List.length_drop,List.length_take];rfl)) ?_;(with_reducible refine (lex_isLetter.calls a0 true _ A2.out).mono ?_);rintro e w' ⟨rfl,⟨nd,rfl⟩⟩;refine ⟨_,rfl, ?_⟩))
  go_ret
  exact ⟨by first | rfl | (simp;done) | (simp [*];done),by repeat (first | exact Drawn0.refl _ | apply Drawn0.step)⟩
 ·replace c3:=Bool.eq_false_iff.mpr c3
  subst c3
  have H1:((lex_isDigit.f a0).bind fun t106=>(some t106)) = some r:=by rw [if_neg (show ¬ (false = true) by decide)] at H;exact H
  clear H
  have H:=H1
  clear H1
  replace H:=Option.bind_eq_some_iff.mp H
  obtain ⟨t106,A40,H⟩:=H
  replace H:(some t106) = some r:=H
  have A4:=am A40
  clear A40
  obtain rfl:=Option.some.inj H
  go_enter Tryd.func35,Tryd.ntmps35
  go_wp2_with (first | ((with_reducible refine gate_callee (f:=58) rfl ?_);refine goesL_ (some 4) rfl rfl Tryd.func58 (by kernel_rfl) rfl #[.int .u8 a0] rfl (by (try simp only [List.map_toArray,List.map_cons,List.map_nil]);first | done | rfl | (simp only [List.length_drop,List.length_take];rfl)) ?_;(with_reducible refine (lex_isLetter.calls a0 false _ A2.out).mono ?_);rintro e w' ⟨rfl,⟨nd,rfl⟩⟩;refine ⟨_,rfl, ?_⟩) | (go_at_call 37;(with_reducible refine (lex_isDigit.calls a0 t106 _ A4.out).mono ?_);rintro e w' ⟨rfl,⟨nd,rfl⟩⟩))
  go_ret
  exact ⟨by first | rfl | (simp;done) | (simp [*];done),by repeat (first | exact Drawn0.refl _ | apply Drawn0.step)⟩
end Go.Proofs.YtngpgdmafmkddaaDoor.PParseBlanks
end
section
namespace Go.Proofs.YtngpgdmafmkddaaDoor.Par
open Go.RowKit Go.Proofs.YtngpgdmafmkddaaDoorW.PrintWords Go.Proofs.YtngpgdmafmkddaaDoorW.PrintLast Go.Proofs.YtngpgdmafmkddaaDoorW.PrintMore
open Go.Proofs.YtngpgdmafmkddaaDoor.PParseBlanks (S35 S25 S27 k35 k25 k27 rd_T35 rd_T25 rd_T27 at_T35 at_T25 at_T27)
set_option linter.unusedVariables false
set_option linter.unusedSimpArgs false
def isDig (c:Int):Bool:=decide (48 <= c) && decide (c <= 57)
theorem dig_f (c:Int):PParseBlanks.lex_isDigit.f c = some (isDig c):=by
 unfold PParseBlanks.lex_isDigit.f isDig
 by_cases h:c >= 48
 ·rw [if_pos h];simp [show (48:Int) <= c from h]
 ·rw [if_neg h];simp [show ¬ (48:Int) <= c from h]
def digN (t:ByteArray):Nat -> Nat -> Nat
 | 0,i=>i
 | k + 1,i=>if i < t.size /\ isDig (bt t i) = true then digN t k (i + 1) else i
def digits (t:ByteArray):Nat:=digN t t.size 0
theorem digN_eq (t:ByteArray) (n:Nat) (hn:n <= t.size) (h1:∀ j:Nat,j < n -> isDig (bt t j) = true) (h2:n = t.size \/ isDig (bt t n) = false):∀ k i:Nat,i <= n -> n - i <= k -> digN t k i = n
 | 0,i,hi,hk=>by simp only [digN];omega
 | k + 1,i,hi,hk=>by
  unfold digN
  by_cases e:i = n
  ·subst e
   rw [if_neg]
   rintro ⟨h3,h4⟩
   rcases h2 with h | h
   ·omega
   ·rw [h] at h4;cases h4
  ·rw [if_pos ⟨by omega,h1 i (by omega)⟩]
   exact digN_eq t n hn h1 h2 k (i + 1) (by omega) (by omega)
theorem digits_eq {t:ByteArray} {n:Nat} (hn:n <= t.size) (h1:∀ j:Nat,j < n -> isDig (bt t j) = true) (h2:n = t.size \/ isDig (bt t n) = false):digits t = n:=
 digN_eq t n hn h1 h2 t.size 0 (by omega) (by omega)
def valN (t:ByteArray):Nat -> Int
 | 0=>0
 | i + 1=>10 * valN t i + (bt t i - 48)
theorem valN_le {t:ByteArray} : ∀ n:Nat,(∀ j:Nat,j < n -> isDig (bt t j) = true) -> 0 <= valN t n /\ valN t n < 10 ^ n
 | 0,_=>by simp [valN]
 | n + 1,h=>by
  obtain ⟨h1,h2⟩:=valN_le n (fun j hj=>h j (by omega))
  have h3:=h n (by omega)
  simp only [isDig,Bool.and_eq_true,decide_eq_true_eq] at h3
  simp only [valN]
  have e:(10:Int) ^ (n + 1) = 10 * 10 ^ n:=by rw [Int.pow_succ];omega
  omega
theorem valN_ten {t:ByteArray} {n:Nat} (hn:n <= 10) (h:∀ j:Nat,j < n -> isDig (bt t j) = true):0 <= valN t n /\ valN t n < 10000000000:=by
 obtain ⟨h1,h2⟩:=valN_le n h
 refine ⟨h1,Int.lt_of_lt_of_le h2 ?_⟩
 have:∀ m:Nat,m <= 10 -> (10:Int) ^ m <= 10000000000:=by decide
 exact this n hn
def kindB (l:List UInt8):Bool:=(l == ([]:List UInt8)) || (l == ([105,56]:List UInt8)) || (l == ([105,49,54]:List UInt8)) || (l == ([105,51,50]:List UInt8)) || (l == ([117,56]:List UInt8)) || (l == ([117,49,54]:List UInt8)) || (l == ([117,51,50]:List UInt8))
def numP (t:ByteArray):Int × ByteArray × Int:=
 if digits t = 0 \/ digits t > 10 \/ (digits t > 1 /\ bt t 0 = 48) then (0,⟨#[]⟩,21)
 else if kindB (t.extract (digits t) t.size).toList = true then (if valN t (digits t) > 4294967295 then (0,⟨#[]⟩,21) else (valN t (digits t),t.extract (digits t) t.size,0))
 else (0,⟨#[]⟩,21)
theorem num_bad {t:ByteArray} (h:digits t = 0 \/ digits t > 10 \/ (digits t > 1 /\ bt t 0 = 48)):numP t = (0,⟨#[]⟩,21):=if_pos h
theorem num_good {t:ByteArray} (h0 : ¬ digits t = 0) (h1 : ¬ digits t > 10) (h2 : ¬ (digits t > 1 /\ bt t 0 = 48)):numP t = (if kindB (t.extract (digits t) t.size).toList = true then (if valN t (digits t) > 4294967295 then (0,⟨#[]⟩,21) else (valN t (digits t),t.extract (digits t) t.size,0)) else (0,⟨#[]⟩,21)):=
 if_neg fun h=>h.elim h0 fun h=>h.elim h1 h2
set_option maxRecDepth 100000 in
set_option maxHeartbeats 4000000 in
theorem number_fn (t:ByteArray) (w:World) (ht:t.size < 4611686018427387904) :
  Calls Tryd.prog 38 #[.string t] w fun e w' => e = .returned (.tuple #[.int .i64 (numP t).1,.string (numP t).2.1,.int .i64 (numP t).2.2]) /\ Below w.heap.size w w':=by
 have B0:=am (Below.refl w.heap.size w)
 go_enter Tryd.func38,Tryd.ntmps38
 go_upto_block 0 with (fail)
 go_cut [5] (fun v wc => ∃ n:Nat,v = .int .i64 (n:Int) /\ n <= t.size /\ Aside0 (∀ j:Nat,j < n -> isDig (bt t j) = true) /\ Aside0 (digits t = n) /\ Aside0 (Below w.heap.size w wc))
 case first =>
  go_wp2
  go_loopw [5] (fun v wr => ∃ n:Nat,v = .int .i64 (n:Int) /\ n <= t.size /\ Aside0 (∀ j:Nat,j < n -> isDig (bt t j) = true) /\ Aside0 (Below w.heap.size w wr)) (fun v _=>t.size - (intOf v).toNat)
  case atStart=>exact ⟨0,rfl,by omega,⟨fun j hj=>by omega⟩,B0⟩
  case round =>
   clear B0
   obtain ⟨n,rfl,hn,HD,HB⟩:=hrel
   by_cases hlt:(n:Int) < (t.size:Int)
   ·have hx:∀ h:(n:Int).toNat < t.size,((t[(n:Int).toNat]'h).toNat:Int) = bt t n:=bt_at t n
    have hx2:∀ h:n < t.size,((t[n]'h).toNat:Int) = bt t n:=bt_at t n
    have hlt2:n < t.size:=by omega
    cases hd:isDig (bt t n) with
    | true =>
     have HD' : Aside0 (∀ j:Nat,j < n + 1 -> isDig (bt t j) = true):=⟨fun j hj=>by
      by_cases e:j = n
      ·subst e;exact hd
      ·exact HD.out j (by omega)⟩
     have HF:=am (show PParseBlanks.lex_isDigit.f (bt t n) = some true by rw [dig_f,hd])
     clear hd
     go_wp2_with (go_at_call 37;(with_reducible refine (PParseBlanks.lex_isDigit.calls (bt t n) true _ HF.out).mono ?_);rintro e w1 ⟨rfl,hb⟩)
     exact ⟨⟨n + 1,by simp,by omega,HD',⟨below_then HB.out HB.out.size hb.below⟩⟩,by simp [intOf];omega⟩
    | false =>
     have HF:=am (show PParseBlanks.lex_isDigit.f (bt t n) = some false by rw [dig_f,hd])
     have HN:=am (digits_eq hn HD.out (.inr hd))
     clear hd
     go_wp2_with (go_at_call 37;(with_reducible refine (PParseBlanks.lex_isDigit.calls (bt t n) false _ HF.out).mono ?_);rintro e w1 ⟨rfl,hb⟩)
     go_meet
     case rel=>exact ⟨n,rfl,hn,HD,HN,⟨below_then HB.out HB.out.size hb.below⟩⟩
   ·have HN:=am (digits_eq hn HD.out (.inl (by omega)))
    have hd:decide ((n:Int) < (t.size:Int)) = false:=decide_eq_false hlt
    go_wp2
    go_meet
    case rel=>exact ⟨n,rfl,hn,HD,HN,HB⟩
 case rest =>
  clear B0
  obtain ⟨n,rfl,hn,HD,HN,HB⟩:=hcut
  have hb0:∀ h:0 < t.size,((t[0]'h).toNat:Int) = bt t 0:=bt_at t 0
  by_cases c0:n = 0
  ·subst c0
   have HBAD:=am (num_bad (t:=t) (.inl HN.out))
   go_wp2
   go_ret3
   exact ⟨by rw [HBAD.out];rfl,HB.out⟩
  by_cases c1:n > 10
  ·have HBAD:=am (num_bad (t:=t) (.inr (.inl (by rw [HN.out];exact c1))))
   have e0:((n:Int) == 0) = false:=by simp [c0]
   have e1:decide ((n:Int) > 10) = true:=by simp;omega
   clear c0 c1
   go_wp2
   go_ret3
   exact ⟨by rw [HBAD.out];rfl,HB.out⟩
  have e0:((n:Int) == 0) = false:=by simp [c0]
  have e1:decide ((n:Int) > 10) = false:=by simp;omega
  by_cases c2:n > 1
  ·have hs:0 < t.size:=by omega
   have e2:decide ((n:Int) > 1) = true:=by simp;omega
   by_cases c3:bt t 0 = 48
   ·have HBAD:=am (num_bad (t:=t) (.inr (.inr ⟨by rw [HN.out];exact c2,c3⟩)))
    have e3:(bt t 0 == 48) = true:=by simp [c3]
    clear c3
    generalize bt t 0 = C at *
    go_wp2
    go_ret3
    exact ⟨by rw [HBAD.out];rfl,HB.out⟩
   ·have HGOOD:=am (num_good (t:=t) (by rw [HN.out];exact c0) (by rw [HN.out];exact c1) (fun h=>c3 h.2))
    have e3:(bt t 0 == 48) = false:=by simp [c3]
    clear c3
    generalize bt t 0 = C0 at *
    go_wp2
    go_loopw [2,35] (fun v2 v35 wr => ∃ i:Nat,v2 = .int .i64 (valN t i) /\ v35 = .int .i64 (i:Int) /\ i <= n /\ Aside0 (Below w.heap.size w wr)) (fun _ v35 _=>n - (intOf v35).toNat)
    case atStart=>exact ⟨0,rfl,rfl,by omega,HB⟩
    case round =>
     clear HB
     obtain ⟨i,rfl,rfl,hi,HB⟩:=hrel
     by_cases hlt:(i:Int) < (n:Int)
     ·have hx:∀ h:(i:Int).toNat < t.size,((t[(i:Int).toNat]'h).toNat:Int) = bt t i:=bt_at t i
      have hx2:∀ h:i < t.size,((t[i]'h).toNat:Int) = bt t i:=bt_at t i
      have hlt2:i < t.size:=by omega
      obtain ⟨hv0,hv1⟩:=valN_ten (t:=t) (n:=i) (by omega) (fun j hj=>HD.out j (by omega))
      have hdg:=HD.out i (by omega)
      simp only [isDig,Bool.and_eq_true,decide_eq_true_eq] at hdg
      have hval:valN t (i + 1) = 10 * valN t i + (bt t i - 48):=rfl
      have HV:=am hval
      clear hval
      generalize valN t i = V at *
      generalize bt t i = C at *
      go_wp2
      exact ⟨⟨i + 1,by rw [HV.out],by simp,by omega,HB⟩,by simp [intOf];omega⟩
     ·have hd:decide ((i:Int) < (n:Int)) = false:=decide_eq_false hlt
      obtain rfl:i = n:=by omega
      have HG:=am (show numP t = (if kindB (t.extract i t.size).toList = true then (if valN t i > 4294967295 then (0,⟨#[]⟩,21) else (valN t i,t.extract i t.size,0)) else (0,⟨#[]⟩,21)) by have h:=HGOOD.out;rw [HN.out] at h;exact h)
      generalize valN t i = V at *
      go_wp2
      all_goals (go_ret3;refine ⟨?_,HB.out⟩;rw [HG.out];simp_all [kindB];try (rw [if_neg (by omega)];exact ⟨rfl,rfl,rfl⟩))
  ·have e2:decide ((n:Int) > 1) = false:=by simp;omega
   have HGOOD:=am (num_good (t:=t) (by rw [HN.out];exact c0) (by rw [HN.out];exact c1) (fun h=>c2 (by rw [HN.out] at h;exact h.1)))
   go_wp2
   go_loopw [2,35] (fun v2 v35 wr => ∃ i:Nat,v2 = .int .i64 (valN t i) /\ v35 = .int .i64 (i:Int) /\ i <= n /\ Aside0 (Below w.heap.size w wr)) (fun _ v35 _=>n - (intOf v35).toNat)
   case atStart=>exact ⟨0,rfl,rfl,by omega,HB⟩
   case round =>
    clear HB
    obtain ⟨i,rfl,rfl,hi,HB⟩:=hrel
    by_cases hlt:(i:Int) < (n:Int)
    ·have hx:∀ h:(i:Int).toNat < t.size,((t[(i:Int).toNat]'h).toNat:Int) = bt t i:=bt_at t i
     have hx2:∀ h:i < t.size,((t[i]'h).toNat:Int) = bt t i:=bt_at t i
     have hlt2:i < t.size:=by omega
     obtain ⟨hv0,hv1⟩:=valN_ten (t:=t) (n:=i) (by omega) (fun j hj=>HD.out j (by omega))
     have hdg:=HD.out i (by omega)
     simp only [isDig,Bool.and_eq_true,decide_eq_true_eq] at hdg
     have hval:valN t (i + 1) = 10 * valN t i + (bt t i - 48):=rfl
     have HV:=am hval
     clear hval
     generalize valN t i = V at *
     generalize bt t i = C at *
     go_wp2
     exact ⟨⟨i + 1,by rw [HV.out],by simp,by omega,HB⟩,by simp [intOf];omega⟩
    ·have hd:decide ((i:Int) < (n:Int)) = false:=decide_eq_false hlt
     obtain rfl:i = n:=by omega
     have HG:=am (show numP t = (if kindB (t.extract i t.size).toList = true then (if valN t i > 4294967295 then (0,⟨#[]⟩,21) else (valN t i,t.extract i t.size,0)) else (0,⟨#[]⟩,21)) by have h:=HGOOD.out;rw [HN.out] at h;exact h)
     generalize valN t i = V at *
     go_wp2
     all_goals (go_ret3;refine ⟨?_,HB.out⟩;rw [HG.out];simp_all [kindB];try (rw [if_neg (by omega)];exact ⟨rfl,rfl,rfl⟩))
end Go.Proofs.YtngpgdmafmkddaaDoor.Par
end
section
namespace Go.Proofs.YtngpgdmafmkddaaDoor.Par
open Go.RowKit Go.Proofs.YtngpgdmafmkddaaDoorW.PrintWords Go.Proofs.YtngpgdmafmkddaaDoorW.PrintLast Go.Proofs.YtngpgdmafmkddaaDoorW.PrintMore
open Go.Proofs.YtngpgdmafmkddaaDoor.PParseBlanks (S35 S25 S27 k35 k25 k27 rd_T35 rd_T25 rd_T27 at_T35 at_T25 at_T27)
set_option linter.unusedVariables false
set_option linter.unusedSimpArgs false
theorem PR.ok_ne {α:Type} (x:α) (l:List S35):PR.ok x l ≠ .out:=fun h=>by cases h
theorem PR.bad_ne {α:Type} (a e:Int):(PR.bad a e:PR α) ≠ .out:=fun h=>by cases h
def numberP (e:Int):List S35 -> PR (Int × ByteArray)
 | []=>.bad e 30
 | t :: r=>if t.f0 = 2 then (if t.f1.size < 4611686018427387904 then .ok ((numP t.f1).1,(numP t.f1).2.1) r else .out) else .bad t.f2 30
theorem number_bad {e:Int} {l:List S35} (h : ¬ kindP l = 2):numberP e l = .bad (atP e l) 30:=by
 cases l with
 | nil=>rfl
 | cons t r=>exact if_neg h
theorem number_ok {e:Int} {t:S35} {r:List S35} (h:kindP (t :: r) = 2) (hz:t.f1.size < 4611686018427387904):numberP e (t :: r) = .ok ((numP t.f1).1,(numP t.f1).2.1) r:=(if_pos h).trans (if_pos hz)
theorem number_size {e:Int} {t:S35} {r:List S35} (h:kindP (t :: r) = 2) (ho:numberP e (t :: r) ≠ .out):t.f1.size < 4611686018427387904:=by
 by_cases hz:t.f1.size < 4611686018427387904
 ·exact hz
 ·exact absurd ((if_pos h).trans (if_neg hz)) ho
set_option maxRecDepth 100000 in
set_option maxHeartbeats 1000000 in
theorem number_said (g:Nat) (l:List S35) (e:Int) (w:World) (H:PS w g l e) (h:numberP e l ≠ .out) :
  Calls Tryd.prog 69 #[.pointer (some ⟨g,0,none⟩)] w (PPost g e (fun _ v (x:Int × ByteArray)=>v = .tuple #[.int .i64 x.1,.string x.2]) (numberP e l) w):=by
 obtain ⟨A,c,H⟩:=H
 have HH:=am H
 clear H
 by_cases hk:kindP l = 2
 ·cases l with
  | nil=>exact absurd hk (by decide)
  | cons t r =>
   have hsz:=number_size hk h
   have HN:=am (number_ok (e:=e) (r:=r) hk hsz)
   have HK:=am hk
   clear hk h
   obtain ⟨⟨v,kd,er⟩,hv⟩:∃ x,numP t.f1 = x:=⟨_,rfl⟩
   have HV:=am hv
   clear hv
   obtain ⟨ad,rfl,r0,r1,r2⟩:=tok0 HH.out.toks
   have c0:=hci HH.out.has 0 rfl
   have hl:(0:Int) < ((t :: r).length:Int):=by simp
   go_enter Tryd.func69,Tryd.ntmps69
   go_wp2_with (first | (go_at_call 19;(with_reducible refine (kind_said g (t :: r) e (some ad) c _ HH.out).mono ?_);rintro en w1 ⟨he,hb⟩;rw [HK.out] at he;subst he;have c0:=pwcb hb c0;have r1:=pwcb hb r1) | (go_at_call 38;(with_reducible refine (number_fn t.f1 _ hsz).mono ?_);rintro en w2 ⟨rfl,hd⟩;have hb2:=below_then hb hb.size hd;rw [HV.out]) | (go_at_call 54;(with_reducible refine (next_said g t r e (some ad) c _ (HH.out.below hb2)).mono ?_);rintro en w3 ⟨rfl,hk,hp⟩))
   go_ret2
   rw [HN.out,HV.out]
   exact ⟨(Kept.of_below hb2).then_ hk,_,rfl,rfl,hp⟩
 ·have HN:Aside0 (numberP e l = .bad (atP e l) 30):=⟨number_bad hk⟩
  have hkb:(kindP l != 2) = true:=by simp [hk]
  have hkc:(kindP l == 2) = false:=by simp [hk]
  clear hk h
  generalize hq:kindP l = q at *
  have HQ:=am hq
  clear hq
  go_enter Tryd.func69,Tryd.ntmps69
  go_wp2_with (first | (go_at_call 19;(with_reducible refine (kind_said g l e A c _ HH.out).mono ?_);rintro en w1 ⟨he,hb⟩;rw [HQ.out] at he;subst he) | (go_at_call 20;(with_reducible refine (fail_said g l e A c 30 _ (HH.out.below hb)).mono ?_);rintro en w2 ⟨rfl,hb2⟩))
  rw [HN.out]
  exact ⟨rfl,(Kept.of_below hb).below hb2,rfl⟩
def plainP (e:Int):List S35 -> PR Int
 | []=>.bad e 30
 | t :: r=>if t.f0 = 2 then (if t.f1.size < 4611686018427387904 then (if (numP t.f1).2.1.toList = [] then .ok (numP t.f1).1 r else .bad t.f2 30) else .out) else .bad t.f2 30
theorem plain_bad {e:Int} {l:List S35} (h : ¬ kindP l = 2):plainP e l = .bad (atP e l) 30:=by
 cases l with
 | nil=>rfl
 | cons t r=>exact if_neg h
theorem plain_some {e:Int} {t:S35} {r:List S35} (h:kindP (t :: r) = 2) (hz:t.f1.size < 4611686018427387904):plainP e (t :: r) = (if (numP t.f1).2.1.toList = [] then .ok (numP t.f1).1 r else .bad t.f2 30):=(if_pos h).trans (if_pos hz)
theorem plain_size {e:Int} {t:S35} {r:List S35} (h:kindP (t :: r) = 2) (ho:plainP e (t :: r) ≠ .out):t.f1.size < 4611686018427387904:=by
 by_cases hz:t.f1.size < 4611686018427387904
 ·exact hz
 ·exact absurd ((if_pos h).trans (if_neg hz)) ho
set_option maxRecDepth 100000 in
set_option maxHeartbeats 1000000 in
theorem plain_said (g:Nat) (l:List S35) (e:Int) (w:World) (H:PS w g l e) (h:plainP e l ≠ .out) :
  Calls Tryd.prog 51 #[.pointer (some ⟨g,0,none⟩)] w (PPost g e (fun _ v (x:Int)=>v = .int .i64 x) (plainP e l) w):=by
 obtain ⟨A,c,H⟩:=H
 have HH:=am H
 clear H
 by_cases hk:kindP l = 2
 ·cases l with
  | nil=>exact absurd hk (by decide)
  | cons t r =>
   have hsz:=plain_size hk h
   have HN:=am (plain_some (e:=e) (r:=r) hk hsz)
   have HNO:=am (number_ok (e:=e) (r:=r) hk hsz)
   have HK:=am hk
   clear hk h
   obtain ⟨⟨v,kd,er⟩,hv⟩:∃ x,numP t.f1 = x:=⟨_,rfl⟩
   have HV:=am hv
   rw [hv] at HN HNO
   clear hv
   obtain ⟨ad,rfl,r0,r1,r2⟩:=tok0 HH.out.toks
   have c0:=hci HH.out.has 0 rfl
   have hl:(0:Int) < ((t :: r).length:Int):=by simp
   by_cases hkd:kd.toList = []
   ·have hk1:kd.toList.isEmpty = true:=by simp [hkd]
    have HM:Aside0 (plainP e (t :: r) = .ok v r):=⟨by rw [HN.out,if_pos hkd]⟩
    clear hkd
    go_enter Tryd.func51,Tryd.ntmps51
    go_wp2_with (first | (go_at_call 19;(with_reducible refine (kind_said g (t :: r) e (some ad) c _ HH.out).mono ?_);rintro en w1 ⟨he,hb⟩;rw [HK.out] at he;subst he;have c0:=pwcb hb c0;have r1:=pwcb hb r1) | (go_at_call 38;(with_reducible refine (number_fn t.f1 _ hsz).mono ?_);rintro en w2 ⟨rfl,hd⟩;have hb2:=below_then hb hb.size hd;rw [HV.out]) | (go_at_call 69;(with_reducible refine (number_said g (t :: r) e _ (HH.out.below hb2).ps (by rw [HNO.out];exact PR.ok_ne _ _)).mono ?_);rintro en w4 ⟨hk4,hq4⟩;rw [HNO.out] at hq4;obtain ⟨v4,rfl,hv4,hp⟩:=hq4;subst hv4))
    go_ret
    rw [HM.out]
    exact ⟨(Kept.of_below hb2).then_ hk4,_,rfl,rfl,hp⟩
   ·have hk1:kd.toList.isEmpty = false:=by simp [hkd]
    have HM:Aside0 (plainP e (t :: r) = .bad t.f2 30):=⟨by rw [HN.out,if_neg hkd]⟩
    clear hkd
    go_enter Tryd.func51,Tryd.ntmps51
    go_wp2_with (first | (go_at_call 19;(with_reducible refine (kind_said g (t :: r) e (some ad) c _ HH.out).mono ?_);rintro en w1 ⟨he,hb⟩;rw [HK.out] at he;subst he;have c0:=pwcb hb c0;have r1:=pwcb hb r1) | (go_at_call 38;(with_reducible refine (number_fn t.f1 _ hsz).mono ?_);rintro en w2 ⟨rfl,hd⟩;have hb2:=below_then hb hb.size hd;rw [HV.out]) | (go_at_call 20;(with_reducible refine (fail_said g (t :: r) e (some ad) c 30 _ (HH.out.below hb2)).mono ?_);rintro en w5 ⟨rfl,hb5⟩))
    rw [HM.out]
    exact ⟨rfl,(Kept.of_below hb2).below hb5,rfl⟩
 ·have HN:Aside0 (plainP e l = .bad (atP e l) 30):=⟨plain_bad hk⟩
  have hkb:(kindP l != 2) = true:=by simp [hk]
  have hkc:(kindP l == 2) = false:=by simp [hk]
  clear hk h
  generalize hq:kindP l = q at *
  have HQ:=am hq
  clear hq
  have HNB:=am (number_bad (e:=e) (l:=l) (by rw [HQ.out];simpa using hkc))
  go_enter Tryd.func51,Tryd.ntmps51
  go_wp2_with (first | (go_at_call 19;(with_reducible refine (kind_said g l e A c _ HH.out).mono ?_);rintro en w1 ⟨he,hb⟩;rw [HQ.out] at he;subst he) | (go_at_call 69;(with_reducible refine (number_said g l e _ (HH.out.below hb).ps (by rw [HNB.out];exact PR.bad_ne _ _)).mono ?_);rintro en w4 ⟨hk4,hq4⟩;rw [HNB.out] at hq4;subst hq4))
  rw [HN.out]
  exact ⟨rfl,(Kept.of_below hb).then_ hk4,rfl⟩
def countP (e:Int):List S35 -> PR Int
 | []=>.bad e 30
 | t :: r=>if t.f0 = 2 then (if t.f1.size < 4611686018427387904 then (if (numP t.f1).2.1.toList = [] /\ (numP t.f1).1 > 65535 then .bad t.f2 21 else plainP e (t :: r)) else .out) else .bad t.f2 30
theorem count_bad {e:Int} {l:List S35} (h : ¬ kindP l = 2):countP e l = .bad (atP e l) 30:=by
 cases l with
 | nil=>rfl
 | cons t r=>exact if_neg h
theorem count_some {e:Int} {t:S35} {r:List S35} (h:kindP (t :: r) = 2) (hz:t.f1.size < 4611686018427387904):countP e (t :: r) = (if (numP t.f1).2.1.toList = [] /\ (numP t.f1).1 > 65535 then .bad t.f2 21 else plainP e (t :: r)):=(if_pos h).trans (if_pos hz)
theorem count_size {e:Int} {t:S35} {r:List S35} (h:kindP (t :: r) = 2) (ho:countP e (t :: r) ≠ .out):t.f1.size < 4611686018427387904:=by
 by_cases hz:t.f1.size < 4611686018427387904
 ·exact hz
 ·exact absurd ((if_pos h).trans (if_neg hz)) ho
theorem plain_ne {e:Int} {t:S35} {r:List S35} (h:kindP (t :: r) = 2) (hz:t.f1.size < 4611686018427387904):plainP e (t :: r) ≠ .out:=by
 rw [plain_some h hz]
 split
 ·exact PR.ok_ne _ _
 ·exact PR.bad_ne _ _
theorem PPost.after {α:Type} {g:Nat} {e:Int} {V:World -> Value -> α -> Prop} {r:PR α} {w w1 w2:World} {en:Ending} (hb:Below w.heap.size w w1) (h:PPost g e V r w1 en w2):PPost g e V r w en w2:=⟨(Kept.of_below hb).then_ h.1,h.2⟩
set_option maxRecDepth 100000 in
set_option maxHeartbeats 1000000 in
theorem count_said (g:Nat) (l:List S35) (e:Int) (w:World) (H:PS w g l e) (h:countP e l ≠ .out) :
  Calls Tryd.prog 64 #[.pointer (some ⟨g,0,none⟩)] w (PPost g e (fun _ v (x:Int)=>v = .int .i64 x) (countP e l) w):=by
 obtain ⟨A,c,H⟩:=H
 have HH:=am H
 clear H
 by_cases hk:kindP l = 2
 ·cases l with
  | nil=>exact absurd hk (by decide)
  | cons t r =>
   have hsz:=count_size hk h
   have HN:=am (count_some (e:=e) (r:=r) hk hsz)
   have HPO:=am (plain_ne (e:=e) (r:=r) hk hsz)
   have HK:=am hk
   clear hk h
   obtain ⟨⟨v,kd,er⟩,hv⟩:∃ x,numP t.f1 = x:=⟨_,rfl⟩
   have HV:=am hv
   rw [hv] at HN
   clear hv
   obtain ⟨ad,rfl,r0,r1,r2⟩:=tok0 HH.out.toks
   have c0:=hci HH.out.has 0 rfl
   have hl:(0:Int) < ((t :: r).length:Int):=by simp
   by_cases hkd:kd.toList = []
   ·have hk1:kd.toList.isEmpty = true:=by simp [hkd]
    by_cases hv:v > 65535
    ·have hv1:decide (v > 65535) = true:=by simp;omega
     have HM:Aside0 (countP e (t :: r) = .bad t.f2 21):=⟨by rw [HN.out,if_pos ⟨hkd,hv⟩]⟩
     clear hkd hv
     go_enter Tryd.func64,Tryd.ntmps64
     go_wp2_with (first | (go_at_call 19;(with_reducible refine (kind_said g (t :: r) e (some ad) c _ HH.out).mono ?_);rintro en w1 ⟨he,hb⟩;rw [HK.out] at he;subst he;have c0:=pwcb hb c0;have r1:=pwcb hb r1) | (go_at_call 38;(with_reducible refine (number_fn t.f1 _ hsz).mono ?_);rintro en w2 ⟨rfl,hd⟩;have hb2:=below_then hb hb.size hd;rw [HV.out]) | (go_at_call 20;(with_reducible refine (fail_said g (t :: r) e (some ad) c 21 _ (HH.out.below hb2)).mono ?_);rintro en w5 ⟨rfl,hb5⟩))
     rw [HM.out]
     exact ⟨rfl,(Kept.of_below hb2).below hb5,rfl⟩
    ·have hv1:decide (v > 65535) = false:=by simp;omega
     have HM:Aside0 (countP e (t :: r) = plainP e (t :: r)):=⟨by rw [HN.out,if_neg (fun h=>hv h.2)]⟩
     clear hkd hv
     go_enter Tryd.func64,Tryd.ntmps64
     cases hp:plainP e (t :: r) with
     | out=>exact absurd hp HPO.out
     | ok x l2 =>
      have HP:=am hp
      clear hp
      go_wp2_with (first | (go_at_call 19;(with_reducible refine (kind_said g (t :: r) e (some ad) c _ HH.out).mono ?_);rintro en w1 ⟨he,hb⟩;rw [HK.out] at he;subst he;have c0:=pwcb hb c0;have r1:=pwcb hb r1) | (go_at_call 38;(with_reducible refine (number_fn t.f1 _ hsz).mono ?_);rintro en w2 ⟨rfl,hd⟩;have hb2:=below_then hb hb.size hd;rw [HV.out]) | (go_at_call 51;(with_reducible refine (plain_said g (t :: r) e _ (HH.out.below hb2).ps HPO.out).mono ?_);rintro en w4 ⟨hk4,hq4⟩;rw [HP.out] at hq4;obtain ⟨v4,rfl,hv4,hp4⟩:=hq4;subst hv4))
      go_ret
      rw [HM.out,HP.out]
      exact ⟨(Kept.of_below hb2).then_ hk4,_,rfl,rfl,hp4⟩
     | bad a er2 =>
      have HP:=am hp
      clear hp
      go_wp2_with (first | (go_at_call 19;(with_reducible refine (kind_said g (t :: r) e (some ad) c _ HH.out).mono ?_);rintro en w1 ⟨he,hb⟩;rw [HK.out] at he;subst he;have c0:=pwcb hb c0;have r1:=pwcb hb r1) | (go_at_call 38;(with_reducible refine (number_fn t.f1 _ hsz).mono ?_);rintro en w2 ⟨rfl,hd⟩;have hb2:=below_then hb hb.size hd;rw [HV.out]) | (go_at_call 51;(with_reducible refine (plain_said g (t :: r) e _ (HH.out.below hb2).ps HPO.out).mono ?_);rintro en w4 ⟨hk4,hq4⟩;rw [HP.out] at hq4;subst hq4))
      rw [HM.out,HP.out]
      exact ⟨rfl,(Kept.of_below hb2).then_ hk4,rfl⟩
   ·have hk1:kd.toList.isEmpty = false:=by simp [hkd]
    have HM:Aside0 (countP e (t :: r) = plainP e (t :: r)):=⟨by rw [HN.out,if_neg (fun h=>hkd h.1)]⟩
    clear hkd
    go_enter Tryd.func64,Tryd.ntmps64
    cases hp:plainP e (t :: r) with
    | out=>exact absurd hp HPO.out
    | ok x l2 =>
     have HP:=am hp
     clear hp
     go_wp2_with (first | (go_at_call 19;(with_reducible refine (kind_said g (t :: r) e (some ad) c _ HH.out).mono ?_);rintro en w1 ⟨he,hb⟩;rw [HK.out] at he;subst he;have c0:=pwcb hb c0;have r1:=pwcb hb r1) | (go_at_call 38;(with_reducible refine (number_fn t.f1 _ hsz).mono ?_);rintro en w2 ⟨rfl,hd⟩;have hb2:=below_then hb hb.size hd;rw [HV.out]) | (go_at_call 51;(with_reducible refine (plain_said g (t :: r) e _ (HH.out.below hb2).ps HPO.out).mono ?_);rintro en w4 ⟨hk4,hq4⟩;rw [HP.out] at hq4;obtain ⟨v4,rfl,hv4,hp4⟩:=hq4;subst hv4))
     go_ret
     rw [HM.out,HP.out]
     exact ⟨(Kept.of_below hb2).then_ hk4,_,rfl,rfl,hp4⟩
    | bad a er2 =>
     have HP:=am hp
     clear hp
     go_wp2_with (first | (go_at_call 19;(with_reducible refine (kind_said g (t :: r) e (some ad) c _ HH.out).mono ?_);rintro en w1 ⟨he,hb⟩;rw [HK.out] at he;subst he;have c0:=pwcb hb c0;have r1:=pwcb hb r1) | (go_at_call 38;(with_reducible refine (number_fn t.f1 _ hsz).mono ?_);rintro en w2 ⟨rfl,hd⟩;have hb2:=below_then hb hb.size hd;rw [HV.out]) | (go_at_call 51;(with_reducible refine (plain_said g (t :: r) e _ (HH.out.below hb2).ps HPO.out).mono ?_);rintro en w4 ⟨hk4,hq4⟩;rw [HP.out] at hq4;subst hq4))
     rw [HM.out,HP.out]
     exact ⟨rfl,(Kept.of_below hb2).then_ hk4,rfl⟩
 ·have HN:Aside0 (countP e l = .bad (atP e l) 30):=⟨count_bad hk⟩
  have hkb:(kindP l != 2) = true:=by simp [hk]
  have hkc:(kindP l == 2) = false:=by simp [hk]
  clear hk h
  generalize hq:kindP l = q at *
  have HQ:=am hq
  clear hq
  have HNB:=am (plain_bad (e:=e) (l:=l) (by rw [HQ.out];simpa using hkc))
  go_enter Tryd.func64,Tryd.ntmps64
  go_wp2_with (first | (go_at_call 19;(with_reducible refine (kind_said g l e A c _ HH.out).mono ?_);rintro en w1 ⟨he,hb⟩;rw [HQ.out] at he;subst he) | (go_at_call 51;(with_reducible refine (plain_said g l e _ (HH.out.below hb).ps (by rw [HNB.out];exact PR.bad_ne _ _)).mono ?_);rintro en w4 ⟨hk4,hq4⟩;rw [HNB.out] at hq4;subst hq4))
  rw [HN.out]
  exact ⟨rfl,(Kept.of_below hb).then_ hk4,rfl⟩
end Go.Proofs.YtngpgdmafmkddaaDoor.Par
end
section
namespace Go.Proofs.YtngpgdmafmkddaaDoor.Par
open Go.RowKit Go.Proofs.YtngpgdmafmkddaaDoorW.PrintWords Go.Proofs.YtngpgdmafmkddaaDoorW.PrintLast Go.Proofs.YtngpgdmafmkddaaDoorW.PrintMore
open Go.Proofs.YtngpgdmafmkddaaDoor.PParseBlanks (S35 S25 S27 k35 k25 k27 rd_T35 rd_T25 rd_T27 at_T35 at_T25 at_T27)
set_option linter.unusedVariables false
set_option linter.unusedSimpArgs false
abbrev Any (_:Nat):Prop:=True
def VO (ok:Nat -> Prop) (B:Nat) (w:World) (v:Value) (x:S27):Prop:=
 ∃ v4 v5 v9,v = .agg #[.int .i64 x.f0,.int .i64 x.f1,.int .i64 x.f2,.string x.f3,v4,v5,.int .i64 x.f6.f0,.string x.f6.f1,.int .i64 x.f6.f2,v9] /\ k27.R 27 w B ok v4 x.f4 /\ k25.R 25 w B ok v5 x.f5 /\ k25.R 25 w B ok v9 x.f6.f3
abbrev VE (B:Nat) (w:World) (v:Value) (x:S27):Prop:=VO Any B w v x
section
variable {ok ok' : Nat -> Prop} {B B' g:Nat} {w w' : World} {v:Value} {x:S27}
theorem VO.below (h:VO ok B w v x) (hb:Below w.heap.size w w'):VO ok B w' v x:=by
 obtain ⟨v4,v5,v9,e,r4,r5,r9⟩:=h
 exact ⟨v4,v5,v9,e,Kd.R_below r4 hb,Kd.R_below r5 hb,Kd.R_below r9 hb⟩
theorem VO.lower (h:VO ok B w v x) (hb:B' <= B):VO ok B' w v x:=by
 obtain ⟨v4,v5,v9,e,r4,r5,r9⟩:=h
 exact ⟨v4,v5,v9,e,Kd.R_lower r4 hb,Kd.R_lower r5 hb,Kd.R_lower r9 hb⟩
theorem VO.mono (h:VO ok B w v x) (ho:∀ k,ok k -> ok' k):VO ok' B w v x:=by
 obtain ⟨v4,v5,v9,e,r4,r5,r9⟩:=h
 exact ⟨v4,v5,v9,e,Kd.R_mono r4 ho,Kd.R_mono r5 ho,Kd.R_mono r9 ho⟩
theorem VO.bound (h:VO ok B w v x):VO (fun k=>ok k /\ B <= k /\ k < w.heap.size) B w v x:=by
 obtain ⟨v4,v5,v9,e,r4,r5,r9⟩:=h
 exact ⟨v4,v5,v9,e,Kd.R_mono (Kd.R_bound r4) fun k hk=>⟨hk.1,hk.2.1,hk.2.2.1⟩,Kd.R_mono (Kd.R_bound r5) fun k hk=>⟨hk.1,hk.2.1,hk.2.2.1⟩,Kd.R_mono (Kd.R_bound r9) fun k hk=>⟨hk.1,hk.2.1,hk.2.2.1⟩⟩
theorem VO.step (h:VO ok B w v x) (hm:∀ k,ok k -> B <= k -> k < w.heap.size -> w'.heap[k]? = w.heap[k]?):VO ok B w' v x:=by
 obtain ⟨v4,v5,v9,e,r4,r5,r9⟩:=h
 exact ⟨v4,v5,v9,e,Kd.R_mono (Kd.R_step (Kd.R_bound r4) fun k hk h2=>hm k hk.1 hk.2.1 h2) fun k hk=>hk.1,Kd.R_mono (Kd.R_step (Kd.R_bound r5) fun k hk h2=>hm k hk.1 hk.2.1 h2) fun k hk=>hk.1,Kd.R_mono (Kd.R_step (Kd.R_bound r9) fun k hk h2=>hm k hk.1 hk.2.1 h2) fun k hk=>hk.1⟩
theorem VO.kept {cs:Array Value} (h:VO ok B w v x) (hg:Has w g cs 76) (hk:KeptG g w w'):VO ok B w' v x:=by
 obtain ⟨v4,v5,v9,e,r4,r5,r9⟩:=h
 exact ⟨v4,v5,v9,e,Kd.R_mono (Kd.R_step (Kd.R_types r4 hg (by decide)) fun k hk1 hk2=>hk.block k hk2 hk1.2) fun k hk=>hk.1,Kd.R_mono (Kd.R_step (Kd.R_types r5 hg (by decide)) fun k hk1 hk2=>hk.block k hk2 hk1.2) fun k hk=>hk.1,Kd.R_mono (Kd.R_step (Kd.R_types r9 hg (by decide)) fun k hk1 hk2=>hk.block k hk2 hk1.2) fun k hk=>hk.1⟩
theorem set_row_block (w:World) (g b:Nat) (cs:Array Value) (h:b ≠ g):(w.setRow g cs).heap[b]? = w.heap[b]?:=by
 unfold World.setRow
 simp [Array.getElem?_modify,h,Ne.symm h]
theorem VO.rowO (h:VO ok B w v x) (hn:∀ k,ok k -> B <= k -> k ≠ g) (cs:Array Value):VO ok B (w.setRow g cs) v x:=h.step fun k h1 h2 _=>set_row_block w g k cs (hn k h1 h2)
theorem VO.row (h:VO ok B w v x) (hg:g < B) (cs:Array Value):VO ok B (w.setRow g cs) v x:=h.rowO (fun k _ h2=>by omega) cs
theorem VO.setO (h:VO ok B w v x) {a:Addr} (hn:∀ k,ok k -> B <= k -> k ≠ a.block) (u:Value):VO ok B (w.setCell a u) v x:=h.step fun k h1 h2 _=>Below.heap_setCell w a u k (hn k h1 h2)
theorem VO.M (h:VO ok B w v x):∃ cs:List Value,v = .agg cs.toArray /\ cs.length = 10 /\ (∀ u ∈ cs,u.oneCell' = true) /\ k27.M w B ok x cs:=by
 obtain ⟨v4,v5,v9,e,r4,r5,r9⟩:=h
 have hM:=PParseBlanks.k27_mkM w B ok x r4 r5 r9
 exact ⟨_,e,rfl,k27.K_one (k27.K_of_M hM),hM⟩
end
theorem kids_lit {ok:Nat -> Prop} (W:World) (B:Nat) (hB:B <= W.heap.size) (hnew:ok W.heap.size) {xs:List S27} {inner:List Value} (hr:Reps (fun x cs=>k27.M W B ok x cs) 10 xs inner) (hm:xs.length <= 9223372036854775807) :
  k27.R 27 (W.alloc (.cells inner.toArray 27)) B ok (.slice (some ⟨W.heap.size,0,none⟩) xs.length xs.length) xs:=by
 refine ⟨fun k e => ?_,OwnRow.lit W B (hr.imp_ fun p c hp => ?_) hB hm⟩
 ·have e2:W.heap.size = k:=by simpa [Value.ownBlock] using e
  exact e2 ▸ hnew
 refine k27.M_mono (ok:=fun k=>ok k /\ B <= k /\ k < W.heap.size /\ ∃ q,q ∈ k27.E /\ ∃ cells,W.heap[k]? = some (.cells cells q (0,0))) (fun k hk=>⟨hk.1,fun e => ?_⟩) (Kd.M_alloc (k27.M_bound hp) _)
 have h2:=hk.2.2.1
 have e2:k = W.heap.size:=by simpa [Value.ownBlock] using e
 omega
theorem reps_one {α:Type} {R:α -> List Value -> Prop} {size:Nat} {p:α} {c:List Value} (hp:R p c) (hc:c.length = size):Reps R size [p] c:=by
 simpa using Reps.snoc (Reps.none R size) hp hc
theorem reps_two {α:Type} {R:α -> List Value -> Prop} {size:Nat} {p q:α} {c d:List Value} (hp:R p c) (hc:c.length = size) (hq:R q d) (hd:d.length = size):Reps R size [p,q] (c ++ d):=by
 simpa using Reps.snoc (reps_one hp hc) hq hd
def mkE (k a n:Int) (s:ByteArray) (kids:List S27) (ty:List S25):S27:=⟨k,a,n,s,kids,ty,⟨0,⟨#[]⟩,0,[]⟩⟩
theorem VO.leaf (ok:Nat -> Prop) (B:Nat) (w:World) (k a n:Int) (s:ByteArray):VO ok B w (.agg #[.int .i64 k,.int .i64 a,.int .i64 n,.string s,.slice none 0 0,.slice none 0 0,.int .i64 0,.string ⟨#[]⟩,.int .i64 0,.slice none 0 0]) (mkE k a n s [] []):=
 ⟨_,_,_,rfl,Kd.R_nil _ _ _ _ _,Kd.R_nil _ _ _ _ _,Kd.R_nil _ _ _ _ _⟩
theorem VO.node {ok:Nat -> Prop} {B:Nat} {w:World} {v4:Value} {kids:List S27} (k a n:Int) (s:ByteArray) (h:k27.R 27 w B ok v4 kids):VO ok B w (.agg #[.int .i64 k,.int .i64 a,.int .i64 n,.string s,v4,.slice none 0 0,.int .i64 0,.string ⟨#[]⟩,.int .i64 0,.slice none 0 0]) (mkE k a n s kids []):=
 ⟨_,_,_,rfl,h,Kd.R_nil _ _ _ _ _,Kd.R_nil _ _ _ _ _⟩
end Go.Proofs.YtngpgdmafmkddaaDoor.Par
end
section
namespace Go.Proofs.YtngpgdmafmkddaaDoor.Par
open Go.RowKit Go.Proofs.YtngpgdmafmkddaaDoorW.PrintWords Go.Proofs.YtngpgdmafmkddaaDoorW.PrintLast Go.Proofs.YtngpgdmafmkddaaDoorW.PrintMore
open Go.Proofs.YtngpgdmafmkddaaDoor.PParseBlanks (S35 S25 S27 k35 k25 k27 rd_T35 rd_T25 rd_T27 at_T35 at_T25 at_T27)
set_option linter.unusedVariables false
set_option linter.unusedSimpArgs false
def LPost {σ:Type} (g:Nat) (e:Int) (S:Nat -> Prop) (I:World -> σ -> Prop) (r:PR σ) (w:World) (en:Ending) (w' : World):Prop:=
 Kept S w w' /\ match r with
 | .ok s l=>en = .returned (.tuple #[]) /\ I w' s /\ PS w' g l e
 | .bad a er=>en = .panicked [stopE a er]
 | .out=>False
abbrev sComma:ByteArray:=⟨#[44]⟩
def listP {σ:Type} (e:Int) (stop:ByteArray) (rd:σ -> List S35 -> PR σ):Nat -> σ -> List S35 -> PR σ
 | 0,_,_=>.out
 | n + 1,s,l=>if isP stop l = true then .ok s l.tail else
  match rd s l with
  | .out=>.out
  | .bad a er=>.bad a er
  | .ok s l=>if isP stop l = true then listP e stop rd n s l else if isP sComma l = true then listP e stop rd n s l.tail else .bad (atP e l) 30
set_option maxRecDepth 100000 in
set_option maxHeartbeats 2000000 in
theorem list_said {σ:Type} (g:Nat) (e:Int) (stop:ByteArray) (k:Nat) (caps:Array Value) (hcf:∀ w:World,(callFunc k caps).run Tryd.prog w = .ok (.enter k caps) w) (S:Nat -> Prop) (hS:S g) (I:World -> σ -> Prop) (hI:∀ w w' s,I w s -> KeptG g w w' -> I w' s) (rd:σ -> List S35 -> PR σ)
  (RD:∀ s l w,I w s -> PS w g l e -> rd s l ≠ .out -> Calls Tryd.prog k caps w (LPost g e S I (rd s l) w)) (n0:Nat) (s0:σ) (l0:List S35) (w:World) (H:PS w g l0 e) (HI:I w s0) (h:listP e stop rd n0 s0 l0 ≠ .out) :
  Calls Tryd.prog 43 #[.pointer (some ⟨g,0,none⟩),.string stop,.func (.func k) #[] caps] w (LPost g e S I (listP e stop rd n0 s0 l0) w):=by
 have HOUT:=am h
 have HST:Aside0 (∃ s l,listP e stop rd n0 s l = listP e stop rd n0 s0 l0 /\ I w s /\ PS w g l e /\ Kept S w w):=⟨s0,l0,rfl,HI,H,Kept.refl _ _⟩
 clear H HI h
 generalize listP e stop rd n0 s0 l0 = R at *
 go_enter Tryd.func43,Tryd.ntmps43
 go_wp2
 go_loopg [8] n0 (fun n v wr=>Aside0 (∃ s l,listP e stop rd n s l = R /\ I wr s /\ PS wr g l e /\ Kept S w wr))
 case atStart=>exact HST
 case round =>
  clear HST
  obtain ⟨s,l,hL,hi,hp,hk⟩:=hrel.out
  cases gk with
  | zero=>exact absurd hL.symm HOUT.out
  | succ n =>
   obtain ⟨A,c,HP⟩:=hp
   have HP:=am HP
   have HII:=am hi
   have HK:=am hk
   simp only [listP] at hL
   clear hi hk hrel
   cases h1:isP stop l with
   | true =>
    rw [if_pos h1] at hL
    cases l with
    | nil=>exact Bool.noConfusion h1
    | cons t r =>
     have H1:=am h1
     have HL:=am hL
     clear h1 hL
     go_wp2_with (first | (go_at_call 60;(with_reducible refine (is_said g (t :: r) e A c stop _ HP.out).mono ?_);rintro en w1 ⟨he,hb⟩;rw [H1.out] at he;subst he) | (go_at_call 54;(with_reducible refine (next_said g t r e A c _ (HP.out.below hb)).mono ?_);rintro en w2 ⟨rfl,hk2,hp2⟩))
     refine bodyPost_end (results_none rfl _ _ _) rfl ?_
     rw [<- HL.out]
     have hk3:KeptG g wr w2:=(Kept.of_below hb).then_ hk2
     exact ⟨HK.out.then_ (hk3.mono fun b hb=>hb ▸ hS),rfl,hI _ _ _ HII.out hk3,hp2⟩
   | false =>
    rw [if_neg (by rw [h1];decide)] at hL
    have H1:=am h1
    clear h1
    go_wp2_with (go_at_call 60;(with_reducible refine (is_said g l e A c stop _ HP.out).mono ?_);rintro en w1 ⟨he,hb⟩;rw [H1.out] at he;subst he)
    cases hr:rd s l with
    | out=>rw [hr] at hL;exact absurd hL.symm HOUT.out
    | bad a er =>
     rw [hr] at hL
     have hL:PR.bad a er = R:=hL
     refine (RD s l _ (hI _ _ _ HII.out (.of_below hb)) (HP.out.below hb).ps (by rw [hr];exact PR.bad_ne _ _)).mono ?_
     rintro en w2 ⟨hk2,hq⟩
     rw [hr] at hq
     subst hq
     rw [<- hL]
     exact ⟨rfl,(HK.out.below hb).then_ hk2,rfl⟩
    | ok s2 l2 =>
     rw [hr] at hL
     have hL:(if isP stop l2 = true then listP e stop rd n s2 l2 else if isP sComma l2 = true then listP e stop rd n s2 l2.tail else .bad (atP e l2) 30) = R:=hL
     refine (RD s l _ (hI _ _ _ HII.out (.of_below hb)) (HP.out.below hb).ps (by rw [hr];exact PR.ok_ne _ _)).mono ?_
     rintro en w2 ⟨hk2,hq⟩
     rw [hr] at hq
     obtain ⟨rfl,hi2,A2,c2,HP2⟩:=hq
     have HP2:=am HP2
     have HI2:=am hi2
     have HK2:=am ((HK.out.below hb).then_ hk2)
     clear hi2 hk2 hr
     cases h2:isP stop l2 with
     | true =>
      rw [if_pos h2] at hL
      have H2:=am h2
      have HL2:=am hL
      clear h2 hL
      go_wp2_with (go_at_call 60;(with_reducible refine (is_said g l2 e A2 c2 stop _ HP2.out).mono ?_);rintro en w3 ⟨he,hb3⟩;rw [H2.out] at he;subst he)
      go_roundg n
      case measure=>omega
      case rel=>exact ⟨⟨s2,l2,HL2.out,hI _ _ _ HI2.out (.of_below hb3),(HP2.out.below hb3).ps,HK2.out.below hb3⟩⟩
     | false =>
      rw [if_neg (by rw [h2];decide)] at hL
      have H2:=am h2
      clear h2
      cases h3:isP sComma l2 with
      | true =>
       rw [if_pos h3] at hL
       have H3:=am h3
       have HL2:=am hL
       clear h3 hL
       go_wp2_with (first | (go_at_call 60;(with_reducible refine (is_said g l2 e A2 c2 stop _ HP2.out).mono ?_);rintro en w3 ⟨he,hb3⟩;rw [H2.out] at he;subst he) | (go_at_call 42;(with_reducible refine (need_said g l2 e sComma _ (HP2.out.below hb3).ps).mono ?_);rintro en w4 ⟨hk4,hq4⟩;rw [if_pos H3.out] at hq4;obtain ⟨v4,rfl,rfl,hp4⟩:=hq4))
       go_roundg n
       case measure=>omega
       case rel=>exact ⟨⟨s2,l2.tail,HL2.out,hI _ _ _ (hI _ _ _ HI2.out (.of_below hb3)) hk4,hp4,(HK2.out.below hb3).then_ (hk4.mono fun b hb=>hb ▸ hS)⟩⟩
      | false =>
       rw [if_neg (by rw [h3];decide)] at hL
       have H3:=am h3
       have HL2:=am hL
       clear h3 hL
       go_wp2_with (first | (go_at_call 60;(with_reducible refine (is_said g l2 e A2 c2 stop _ HP2.out).mono ?_);rintro en w3 ⟨he,hb3⟩;rw [H2.out] at he;subst he) | (go_at_call 42;(with_reducible refine (need_said g l2 e sComma _ (HP2.out.below hb3).ps).mono ?_);rintro en w4 ⟨hk4,hq4⟩;rw [if_neg (by rw [H3.out];decide)] at hq4;subst hq4))
       rw [<- HL2.out]
       exact ⟨rfl,(HK2.out.below hb3).then_ (hk4.mono fun b hb=>hb ▸ hS),rfl⟩
end Go.Proofs.YtngpgdmafmkddaaDoor.Par
end
section
namespace Go.Proofs.YtngpgdmafmkddaaDoor.Par
open Go.RowKit Go.Proofs.YtngpgdmafmkddaaDoorW.PrintWords Go.Proofs.YtngpgdmafmkddaaDoorW.PrintLast Go.Proofs.YtngpgdmafmkddaaDoorW.PrintMore
open Go.Proofs.YtngpgdmafmkddaaDoor.PParseBlanks (S35 S25 S27 k35 k25 k27 rd_T35 rd_T25 rd_T27 at_T35 at_T25 at_T27)
set_option linter.unusedVariables false
set_option linter.unusedSimpArgs false
abbrev sMinus:ByteArray:=⟨#[45]⟩
abbrev sBang:ByteArray:=⟨#[33]⟩
abbrev sStar:ByteArray:=⟨#[42]⟩
abbrev sAmp:ByteArray:=⟨#[38]⟩
abbrev sLpar:ByteArray:=⟨#[40]⟩
abbrev sRpar:ByteArray:=⟨#[41]⟩
abbrev sLbra:ByteArray:=⟨#[91]⟩
abbrev sRbra:ByteArray:=⟨#[93]⟩
abbrev sLbrace:ByteArray:=⟨#[123]⟩
abbrev sRbrace:ByteArray:=⟨#[125]⟩
abbrev sTrue:ByteArray:=⟨#[116,114,117,101]⟩
abbrev sFalse:ByteArray:=⟨#[102,97,108,115,101]⟩
abbrev sIf:ByteArray:=⟨#[105,102]⟩
abbrev sMatch:ByteArray:=⟨#[109,97,116,99,104]⟩
abbrev sMut:ByteArray:=⟨#[109,117,116]⟩
abbrev sAs:ByteArray:=⟨#[97,115]⟩
abbrev sDot:ByteArray:=⟨#[46]⟩
abbrev sColons:ByteArray:=⟨#[58,58]⟩
abbrev sSemi:ByteArray:=⟨#[59]⟩
abbrev sColon:ByteArray:=⟨#[58]⟩
abbrev sEq:ByteArray:=⟨#[61]⟩
abbrev sLet:ByteArray:=⟨#[108,101,116]⟩
abbrev sWhile:ByteArray:=⟨#[119,104,105,108,101]⟩
abbrev sLoop:ByteArray:=⟨#[108,111,111,112]⟩
abbrev sBreak:ByteArray:=⟨#[98,114,101,97,107]⟩
abbrev sContinue:ByteArray:=⟨#[99,111,110,116,105,110,117,101]⟩
abbrev sReturn:ByteArray:=⟨#[114,101,116,117,114,110]⟩
abbrev sElse:ByteArray:=⟨#[101,108,115,101]⟩
abbrev sArrow:ByteArray:=⟨#[61,62]⟩
abbrev sLt:ByteArray:=⟨#[60]⟩
abbrev sGt:ByteArray:=⟨#[62]⟩
abbrev sShr:ByteArray:=⟨#[62,62]⟩
abbrev sBox:ByteArray:=⟨#[66,111,120]⟩
abbrev sUnder:ByteArray:=⟨#[95]⟩
def rankOf (l:List UInt8):Int:=
 if l = [124,124] then 1 else
 if l = [38,38] then 2 else
 if l = [61,61] then 3 else
 if l = [33,61] then 3 else
 if l = [60] then 3 else
 if l = [60,61] then 3 else
 if l = [62] then 3 else
 if l = [62,61] then 3 else
 if l = [124] then 4 else
 if l = [94] then 5 else
 if l = [38] then 6 else
 if l = [60,60] then 7 else
 if l = [62,62] then 7 else
 if l = [43] then 8 else
 if l = [45] then 8 else
 if l = [42] then 9 else
 if l = [47] then 9 else
 if l = [37] then 9 else
 0
def rankP:List S35 -> Int
 | []=>0
 | t :: _=>if t.f0 = 4 then rankOf t.f1.toList else 0
abbrev oneOperand:List ByteArray:=[sMinus,sBang,sStar,sAmp,sLpar,sLbra,sLbrace,sTrue,sFalse,sIf,sMatch]
abbrev oneTyp:List ByteArray:=[sLpar,sLbra,sAmp]
def addP {α:Type} (xs:List α) (x:α) (l:List S35):PR (List α):=if xs.length >= 1000000 then .out else .ok (xs ++ [x]) l
def needP (e:Int) (s:ByteArray) (l:List S35):PR Unit:=if isP s l = true then .ok () l.tail else .bad (atP e l) 30
def closeP (e:Int):List S35 -> PR Unit
 | []=>.bad e 30
 | t :: r=>if isP sShr (t :: r) = true then (if 0 <= t.f2 /\ t.f2 < 4611686018427387904 /\ (t :: r).length < 1000000 then .ok () (⟨t.f0,sGt,t.f2 + 1⟩ :: r) else .out) else needP e sGt (t :: r)
def typP (e:Int):Nat -> Int -> List S35 -> PR S25
 | 0,_,_=>.out
 | n + 1,d,l =>
  if kindP l ≠ 1 /\ oneP oneTyp l = false then .bad (atP e l) 30
  else if d >= 60 then .bad (atP e l) 31
  else if isP sLpar l = true then (needP e sRpar l.tail).andThen fun _ l1=>.ok ⟨1,⟨#[]⟩,0,[]⟩ l1
  else if isP sLbra l = true then (typP e n (d + 1) l.tail).andThen fun t l1=>(needP e sSemi l1).andThen fun _ l2=>(countP e l2).andThen fun v l3=>(needP e sRbra l3).andThen fun _ l4=>.ok ⟨10,⟨#[]⟩,v,[t]⟩ l4
  else if isP sAmp l = true then
   (if isP sMut l.tail = true then (typP e n (d + 1) l.tail.tail).andThen fun t l1=>.ok ⟨13,⟨#[]⟩,0,[t]⟩ l1
    else (typP e n (d + 1) l.tail).andThen fun t l1=>.ok ⟨12,⟨#[]⟩,0,[t]⟩ l1)
  else (nameP e l).andThen fun s l1 =>
   if s.toList = sBox.toList then (needP e sLt l1).andThen fun _ l2=>(typP e n (d + 1) l2).andThen fun t l3=>(closeP e l3).andThen fun _ l4=>.ok ⟨11,⟨#[]⟩,0,[t]⟩ l4
   else match tykP s.toList with
    | some k=>.ok ⟨k,⟨#[]⟩,0,[]⟩ l1
    | none=>.ok ⟨9,s,0,[]⟩ l1
def bindP (e:Int) (xs:List S27) (l:List S35):PR (List S27):=(nameP e l).andThen fun s l1=>addP xs (mkE 27 (atP e l) 0 s [] []) l1
def patP (e:Int) (n:Nat) (l:List S35):PR S27:=
 if isP sTrue l = true then .ok (mkE 24 (atP e l) 1 ⟨#[]⟩ [] []) l.tail
 else if isP sFalse l = true then .ok (mkE 24 (atP e l) 0 ⟨#[]⟩ [] []) l.tail
 else if isP sMinus l = true then (plainP e l.tail).andThen fun v l1=>.ok (mkE 23 (atP e l) (- v) ⟨#[]⟩ [] []) l1
 else if kindP l = 2 then (plainP e l).andThen fun v l1=>.ok (mkE 23 (atP e l) v ⟨#[]⟩ [] []) l1
 else (nameP e l).andThen fun s l1 =>
  if s.toList = sUnder.toList /\ isP sColons l1 = false then .ok (mkE 25 (atP e l) 0 ⟨#[]⟩ [] []) l1
  else (needP e sColons l1).andThen fun _ l2=>(nameP e l2).andThen fun s2 l3 =>
   if s.size + s2.size >= 4611686018427387904 then .out
   else if isP sLpar l3 = true then (listP e sRpar (bindP e) n [] l3.tail).andThen fun ks l4=>.ok (mkE 26 (atP e l) 0 ((s ++ sColons) ++ s2) ks []) l4
   else .ok (mkE 26 (atP e l) 0 ((s ++ sColons) ++ s2) [] []) l3
mutual
def climbP (e:Int):Nat -> Int -> Bool -> Int -> List S35 -> PR S27
 | 0,_,_,_,_=>.out
 | n + 1,d,op,least,l=>(castP e n d op l).andThen fun x l=>climbL e n d op least x 0 l
def climbL (e:Int):Nat -> Int -> Bool -> Int -> S27 -> Int -> List S35 -> PR S27
 | 0,_,_,_,_,_,_=>.out
 | n + 1,d,op,least,x,last,l =>
  if rankP l >= least then
   (if rankP l = 3 /\ last = 3 then .bad (atP e l) 30
    else match l with
     | []=>.out
     | t :: r=>(climbP e n d op (rankP (t :: r) + 1) r).andThen fun y l' => climbL e n d op least (mkE 9 t.f2 0 t.f1 [x,y] []) (rankP (t :: r)) l')
  else .ok x l
def castP (e:Int):Nat -> Int -> Bool -> List S35 -> PR S27
 | 0,_,_,_=>.out
 | n + 1,d,op,l=>(operandP e n d op l).andThen fun x l=>castL e n d x l
def castL (e:Int):Nat -> Int -> S27 -> List S35 -> PR S27
 | 0,_,_,_=>.out
 | n + 1,d,x,l=>if isP sAs l = true then (typP e n (d + 1) l.tail).andThen fun t l1=>castL e n d (mkE 10 (atP e l) 0 ⟨#[]⟩ [x] [t]) l1 else .ok x l
def operandP (e:Int):Nat -> Int -> Bool -> List S35 -> PR S27
 | 0,_,_,_=>.out
 | n + 1,d,op,l =>
  if kindP l ≠ 1 /\ kindP l ≠ 2 /\ oneP oneOperand l = false then .bad (atP e l) 30
  else if d >= 60 then .bad (atP e l) 31
  else if isP sMinus l = true then (operandP e n (d + 1) op l.tail).andThen fun x l' => .ok (mkE 5 (atP e l) 0 ⟨#[]⟩ [x] []) l'
  else if isP sBang l = true then (operandP e n (d + 1) op l.tail).andThen fun x l' => .ok (mkE 6 (atP e l) 0 ⟨#[]⟩ [x] []) l'
  else if isP sStar l = true then (operandP e n (d + 1) op l.tail).andThen fun x l' => .ok (mkE 7 (atP e l) 0 ⟨#[]⟩ [x] []) l'
  else if isP sAmp l = true then
   (if isP sMut l.tail = true then (operandP e n (d + 1) op l.tail.tail).andThen fun x l' => .ok (mkE 8 (atP e l) 1 ⟨#[]⟩ [x] []) l'
    else (operandP e n (d + 1) op l.tail).andThen fun x l' => .ok (mkE 8 (atP e l) 0 ⟨#[]⟩ [x] []) l')
  else (primaryP e n d op l).andThen fun x l' => behindP e n d x l'
def behindP (e:Int):Nat -> Int -> S27 -> List S35 -> PR S27
 | 0,_,_,_=>.out
 | n + 1,d,x,l =>
  if isP sDot l = true then (nameP e l.tail).andThen fun s l1=>behindP e n d (mkE 12 (atP e l) 0 s [x] []) l1
  else if isP sLbra l = true then (climbP e n (d + 1) true 1 l.tail).andThen fun y l1=>(needP e sRbra l1).andThen fun _ l2=>behindP e n d (mkE 13 (atP e l) 0 ⟨#[]⟩ [x,y] []) l2
  else .ok x l
def treesP (e:Int):Nat -> Int -> ByteArray -> List S35 -> PR (List S27)
 | 0,_,_,_=>.out
 | n + 1,d,stop,l=>listP e stop (fun xs l=>if xs.length >= 1000000 then .out else (climbP e n (d + 1) true 1 l).andThen fun x l=>.ok (xs ++ [x]) l) n [] l
def primaryP (e:Int):Nat -> Int -> Bool -> List S35 -> PR S27
 | 0,_,_,_=>.out
 | n + 1,d,op,l =>
  if kindP l = 2 then (numberP e l).andThen fun v l1=>.ok (mkE 1 (atP e l) v.1 v.2 [] []) l1
  else if isP sTrue l = true then .ok (mkE 2 (atP e l) 1 ⟨#[]⟩ [] []) l.tail
  else if isP sFalse l = true then .ok (mkE 2 (atP e l) 0 ⟨#[]⟩ [] []) l.tail
  else if isP sLpar l = true then
   (if isP sRpar l.tail = true then .ok (mkE 3 (atP e l) 0 ⟨#[]⟩ [] []) l.tail.tail
    else (climbP e n (d + 1) true 1 l.tail).andThen fun x l' => if isP sRpar l' = true then .ok x l'.tail else .bad (atP e l') 30)
  else if isP sLbra l = true then arrayP e n d (atP e l) l.tail
  else if oneP [sIf,sMatch,sLbrace] l = true then closedP e n (d + 1) l
  else namedP e n d op l
def namedP (e:Int):Nat -> Int -> Bool -> List S35 -> PR S27
 | 0,_,_,_=>.out
 | n + 1,d,op,l=>(nameP e l).andThen fun s l1 =>
  if isP sLpar l1 = true then (treesP e n d sRpar l1.tail).andThen fun ks l2=>.ok (mkE 11 (atP e l) 0 s ks []) l2
  else if isP sColons l1 = true then (nameP e l1.tail).andThen fun s2 l2 =>
   if s.size + s2.size >= 4611686018427387904 then .out
   else if isP sLpar l2 = true then (treesP e n d sRpar l2.tail).andThen fun ks l3=>.ok (mkE 16 (atP e l) 0 (s ++ (sColons ++ s2)) ks []) l3
   else .ok (mkE 16 (atP e l) 0 (s ++ (sColons ++ s2)) [] []) l2
  else if op = true /\ isP sLbrace l1 = true then (initsP e n d l1.tail).andThen fun ks l2=>.ok (mkE 14 (atP e l) 0 s ks []) l2
  else .ok (mkE 4 (atP e l) 0 s [] []) l1
def initsP (e:Int):Nat -> Int -> List S35 -> PR (List S27)
 | 0,_,_=>.out
 | n + 1,d,l=>listP e sRbrace (fun xs l=>if xs.length >= 1000000 then .out else (nameP e l).andThen fun s l1=>(needP e sColon l1).andThen fun _ l2=>(climbP e n (d + 1) true 1 l2).andThen fun y l3=>.ok (xs ++ [mkE 15 (atP e l) 0 s [y] []]) l3) n [] l
def arrayP (e:Int):Nat -> Int -> Int -> List S35 -> PR S27
 | 0,_,_,_=>.out
 | n + 1,d,a,l =>
  if isP sRbra l = true then .ok (mkE 17 a 0 ⟨#[]⟩ [] []) l.tail
  else (climbP e n (d + 1) true 1 l).andThen fun x l1 =>
   if isP sSemi l1 = true then (countP e l1.tail).andThen fun v l2=>if isP sRbra l2 = true then .ok (mkE 18 a v ⟨#[]⟩ [x] []) l2.tail else .bad (atP e l2) 30
   else if isP sRbra l1 = true then .ok (mkE 17 a 0 ⟨#[]⟩ [x] []) l1.tail
   else if isP sComma l1 = true then (treesP e n d sRbra l1.tail).andThen fun ks l2=>if ks.length >= 1000000 then .out else .ok (mkE 17 a 0 ⟨#[]⟩ (x :: ks) []) l2
   else .bad (atP e l1) 30
def closedP (e:Int):Nat -> Int -> List S35 -> PR S27
 | 0,_,_=>.out
 | n + 1,d,l =>
  if isP sLbrace l = true then blockP e n d l
  else if d >= 60 then .bad (atP e l) 31
  else if isP sIf l = true then (climbP e n (d + 1) false 1 l.tail).andThen fun c l1=>(blockP e n (d + 1) l1).andThen fun b l2 =>
   if isP sElse l2 = true then
    (if oneP [sIf,sLbrace] l2.tail = false then .bad (atP e l2.tail) 30
     else (closedP e n (d + 1) l2.tail).andThen fun z l3=>.ok (mkE 20 (atP e l) 0 ⟨#[]⟩ [c,b,z] []) l3)
   else .ok (mkE 20 (atP e l) 0 ⟨#[]⟩ [c,b] []) l2
  else if isP sMatch l = true then (climbP e n (d + 1) false 1 l.tail).andThen fun c l1=>(needP e sLbrace l1).andThen fun _ l2=>(armsP e n d [c] l2).andThen fun ks l3=>.ok (mkE 21 (atP e l) 0 ⟨#[]⟩ ks []) l3
  else .bad (atP e l) 30
def armsP (e:Int):Nat -> Int -> List S27 -> List S35 -> PR (List S27)
 | 0,_,_,_=>.out
 | n + 1,d,xs,l=>listP e sRbrace (fun xs l=>if xs.length >= 1000000 then .out else (patP e n l).andThen fun p l1=>(needP e sArrow l1).andThen fun _ l2=>(climbP e n (d + 1) true 1 l2).andThen fun y l3=>.ok (xs ++ [mkE 22 (atP e l) 0 ⟨#[]⟩ [p,y] []]) l3) n xs l
def blockP (e:Int):Nat -> Int -> List S35 -> PR S27
 | 0,_,_=>.out
 | n + 1,d,l =>
  if isP sLbrace l = false then .bad (atP e l) 30
  else if d >= 60 then .bad (atP e l) 31
  else blockL e n d (atP e l) [] l.tail
def blockL (e:Int):Nat -> Int -> Int -> List S27 -> List S35 -> PR S27
 | 0,_,_,_,_=>.out
 | n + 1,d,a,xs,l =>
  if isP sRbrace l = true then .ok (mkE 19 a 0 ⟨#[]⟩ xs []) l.tail
  else if xs.length >= 1000000 then .out
  else (stmtP e n d l).andThen fun x l1=>if x.2 = true then (if isP sRbrace l1 = true then .ok (mkE 19 a 1 ⟨#[]⟩ (xs ++ [x.1]) []) l1.tail else .bad (atP e l1) 30) else blockL e n d a (xs ++ [x.1]) l1
def stmtP (e:Int):Nat -> Int -> List S35 -> PR (S27 × Bool)
 | 0,_,_=>.out
 | n + 1,d,l =>
  if isP sLet l = true then (letP e n d (atP e l) l.tail).andThen fun x l1=>(needP e sSemi l1).andThen fun _ l2=>.ok (x,false) l2
  else if isP sWhile l = true then (climbP e n (d + 1) false 1 l.tail).andThen fun c l1=>(blockP e n (d + 1) l1).andThen fun b l2=>.ok (mkE 28 (atP e l) 0 ⟨#[]⟩ [c,b] [],false) l2
  else if isP sLoop l = true then (blockP e n (d + 1) l.tail).andThen fun b l1=>.ok (mkE 29 (atP e l) 0 ⟨#[]⟩ [b] [],false) l1
  else if isP sBreak l = true then (needP e sSemi l.tail).andThen fun _ l1=>.ok (mkE 30 (atP e l) 0 ⟨#[]⟩ [] [],false) l1
  else if isP sContinue l = true then (needP e sSemi l.tail).andThen fun _ l1=>.ok (mkE 31 (atP e l) 0 ⟨#[]⟩ [] [],false) l1
  else if isP sReturn l = true then
   (if isP sSemi l.tail = true then .ok (mkE 32 (atP e l) 0 ⟨#[]⟩ [] [],false) l.tail.tail
    else (climbP e n (d + 1) true 1 l.tail).andThen fun x l1=>(needP e sSemi l1).andThen fun _ l2=>.ok (mkE 32 (atP e l) 0 ⟨#[]⟩ [x] [],false) l2)
  else if oneP [sIf,sMatch,sLbrace] l = true then (closedP e n (d + 1) l).andThen fun y l1 =>
   if isP sRbrace l1 = true then .ok (y,true) l1
   else .ok (mkE 35 (atP e l) 0 ⟨#[]⟩ [y] [],false) (if isP sSemi l1 = true then l1.tail else l1)
  else plainlyP e n d l
def letP (e:Int):Nat -> Int -> Int -> List S35 -> PR S27
 | 0,_,_,_=>.out
 | n + 1,d,a,l=>(nameP e (if isP sMut l = true then l.tail else l)).andThen fun s l1 =>
  if isP sColon l1 = true then (typP e n (d + 1) l1.tail).andThen fun t l2=>(needP e sEq l2).andThen fun _ l3=>(climbP e n (d + 1) true 1 l3).andThen fun x l4=>.ok (mkE 33 a (if isP sMut l = true then 1 else 0) s [x] [t]) l4
  else (needP e sEq l1).andThen fun _ l3=>(climbP e n (d + 1) true 1 l3).andThen fun x l4=>.ok (mkE 33 a (if isP sMut l = true then 1 else 0) s [x] []) l4
def plainlyP (e:Int):Nat -> Int -> List S35 -> PR (S27 × Bool)
 | 0,_,_=>.out
 | n + 1,d,l=>(climbP e n (d + 1) true 1 l).andThen fun x l1 =>
  if isP sEq l1 = true then (climbP e n (d + 1) true 1 l1.tail).andThen fun y l2=>(needP e sSemi l2).andThen fun _ l3=>.ok (mkE 34 (atP e l1) 0 ⟨#[]⟩ [x,y] [],false) l3
  else if isP sRbrace l1 = true then .ok (x,true) l1
  else (needP e sSemi l1).andThen fun _ l2=>.ok (mkE 35 (atP e l) 0 ⟨#[]⟩ [x] [],false) l2
end
def treeP (e:Int) (n:Nat) (l:List S35):PR S27:=
 (climbP e n 0 true 1 l).andThen fun x l=>if kindP l = 0 then .ok x l else .bad (atP e l) 30
def ClimbOK (n:Nat):Prop := ∀ (g:Nat) (e d:Int) (op:Bool) (least:Int) (l:List S35) (w:World),0 <= d -> d <= 1000 -> 0 <= least -> least <= 1000 -> PS w g l e -> climbP e n d op least l ≠ .out ->
 Calls Tryd.prog 28 #[.pointer (some ⟨g,0,none⟩),.int .i64 d,.bool op,.int .i64 least] w (PPost g e (VE w.heap.size) (climbP e n d op least l) w)
def CastOK (n:Nat):Prop := ∀ (g:Nat) (e d:Int) (op:Bool) (l:List S35) (w:World),0 <= d -> d <= 1000 -> PS w g l e -> castP e n d op l ≠ .out ->
 Calls Tryd.prog 52 #[.pointer (some ⟨g,0,none⟩),.int .i64 d,.bool op] w (PPost g e (VE w.heap.size) (castP e n d op l) w)
def OperandOK (n:Nat):Prop := ∀ (g:Nat) (e d:Int) (op:Bool) (l:List S35) (w:World),0 <= d -> d <= 1000 -> PS w g l e -> operandP e n d op l ≠ .out ->
 Calls Tryd.prog 70 #[.pointer (some ⟨g,0,none⟩),.int .i64 d,.bool op] w (PPost g e (VE w.heap.size) (operandP e n d op l) w)
end Go.Proofs.YtngpgdmafmkddaaDoor.Par
end
section
namespace Go.Proofs.YtngpgdmafmkddaaDoor.Par
open Go.RowKit Go.Proofs.YtngpgdmafmkddaaDoorW.PrintWords Go.Proofs.YtngpgdmafmkddaaDoorW.PrintLast Go.Proofs.YtngpgdmafmkddaaDoorW.PrintMore
open Go.Proofs.YtngpgdmafmkddaaDoor.PParseBlanks (S35 S25 S27 k35 k25 k27 rd_T35 rd_T25 rd_T27 at_T35 at_T25 at_T27)
set_option linter.unusedVariables false
set_option linter.unusedSimpArgs false
section
variable {g:Nat} {e:Int} {l:List S35} {w:World}
theorem at_ps (H:PS w g l e):Calls Tryd.prog 29 #[.pointer (some ⟨g,0,none⟩)] w fun en w' => en = .returned (.int .i64 (atP e l)) /\ Below w.heap.size w w':=let ⟨A,c,h⟩:=H;at_said g l e A c w h
theorem kind_ps (H:PS w g l e):Calls Tryd.prog 19 #[.pointer (some ⟨g,0,none⟩)] w fun en w' => en = .returned (.int .i64 (kindP l)) /\ Below w.heap.size w w':=let ⟨A,c,h⟩:=H;kind_said g l e A c w h
theorem fail_ps (er:Int) (H:PS w g l e):Calls Tryd.prog 20 #[.pointer (some ⟨g,0,none⟩),.int .i64 er] w fun en w' => en = .panicked [stopE (atP e l) er] /\ Below w.heap.size w w':=let ⟨A,c,h⟩:=H;fail_said g l e A c er w h
theorem is_ps (s:ByteArray) (H:PS w g l e):Calls Tryd.prog 60 #[.pointer (some ⟨g,0,none⟩),.string s] w fun en w' => en = .returned (.bool (isP s l)) /\ Below w.heap.size w w':=let ⟨A,c,h⟩:=H;is_said g l e A c s w h
theorem one_ps (ss:List ByteArray) (A1:Option Addr) (c1:Nat) (H:PS w g l e) (HS:Kd.C Kd.string w A1 ss.length ss) (hn:ss.length < 4611686018427387904):Calls Tryd.prog 61 #[.pointer (some ⟨g,0,none⟩),.slice A1 ss.length c1] w fun en w' => en = .returned (.bool (oneP ss l)) /\ Below w.heap.size w w':=let ⟨A,c,h⟩:=H;one_said g l e A c ss A1 c1 w h HS hn
theorem take_no (s:ByteArray) (H:PS w g l e) (h:isP s l = false):Calls Tryd.prog 41 #[.pointer (some ⟨g,0,none⟩),.string s] w fun en w' => en = .returned (.bool false) /\ KeptG g w w' /\ PS w' g l e:=by
 refine (take_said g l e s w H).mono ?_
 rintro en w' ⟨he,hk,hp⟩
 rw [h] at he hp
 exact ⟨he,hk,hp⟩
theorem take_yes (s:ByteArray) (H:PS w g l e) (h:isP s l = true):Calls Tryd.prog 41 #[.pointer (some ⟨g,0,none⟩),.string s] w fun en w' => en = .returned (.bool true) /\ KeptG g w w' /\ PS w' g l.tail e:=by
 refine (take_said g l e s w H).mono ?_
 rintro en w' ⟨he,hk,hp⟩
 rw [h] at he hp
 exact ⟨he,hk,hp⟩
theorem need_yes (s:ByteArray) (H:PS w g l e) (h:isP s l = true):Calls Tryd.prog 42 #[.pointer (some ⟨g,0,none⟩),.string s] w fun en w' => en = .returned (.tuple #[]) /\ KeptG g w w' /\ PS w' g l.tail e:=by
 refine (need_said g l e s w H).mono ?_
 rintro en w' ⟨hk,hq⟩
 rw [h] at hq
 obtain ⟨v,he,rfl,hp⟩:=hq
 exact ⟨he,hk,hp⟩
theorem need_no (s:ByteArray) (H:PS w g l e) (h:isP s l = false):Calls Tryd.prog 42 #[.pointer (some ⟨g,0,none⟩),.string s] w fun en w' => en = .panicked [stopE (atP e l) 30] /\ KeptG g w w':=by
 refine (need_said g l e s w H).mono ?_
 rintro en w' ⟨hk,hq⟩
 rw [h] at hq
 exact ⟨hq,hk⟩
theorem next_ps (H:PS w g l e) (h:l ≠ []):Calls Tryd.prog 54 #[.pointer (some ⟨g,0,none⟩)] w fun en w' => (∃ a s c,en = .returned (.agg #[.int .i64 a,.string s,.int .i64 c])) /\ KeptG g w w' /\ PS w' g l.tail e:=by
 obtain ⟨A,c,h1⟩:=H
 cases l with
 | nil=>exact absurd rfl h
 | cons t r =>
  refine (next_said g t r e A c w h1).mono ?_
  rintro en w' ⟨he,hk,hp⟩
  exact ⟨⟨_,_,_,he⟩,hk,hp⟩
theorem PS.setT {b:Nat} {old:Array Value} {t:TypeId} (h:PS w g l e) (hr:Has w b old t) (h1:t ≠ 35) (h2:t ≠ 76) (i:Nat) (u:Value):PS (w.setCell ⟨b,i,none⟩ u) g l e:=by
 obtain ⟨A,c,HP⟩:=h
 exact ⟨A,c,HP.has.other (HP.has.ne hr (Ne.symm h2)) u,HP.le,C_far HP.toks (HP.row.ne hr h1) u,HP.row.set (HP.row.ne hr h1) u⟩
theorem VO.kps {ok:Nat -> Prop} {B:Nat} {w' : World} {v:Value} {x:S27} (h:VO ok B w v x) (hp:PS w g l e) (hk:KeptG g w w'):VO ok B w' v x:=let ⟨_,_,HP⟩:=hp;h.kept HP.has hk
theorem R_kps {ok:Nat -> Prop} {B:Nat} {w' : World} {v:Value} {xs:List S27} (h:k27.R 27 w B ok v xs) (hp:PS w g l e) (hk:KeptG g w w'):k27.R 27 w' B ok v xs:=let ⟨_,_,HP⟩:=hp;Kd.R_mono (Kd.R_step (Kd.R_types h HP.has (by decide)) fun k hk1 hk2=>hk.block k hk2 hk1.2) fun k hk=>hk.1
theorem PS.glt (h:PS w g l e):g < w.heap.size:=let ⟨_,_,HP⟩:=h;HP.has.lt
end
theorem deep_ok (g:Nat) (l:List S35) (e d:Int) (w:World) (H:PS w g l e) (hd:d < 60):Calls Tryd.prog 62 #[.pointer (some ⟨g,0,none⟩),.int .i64 d] w fun en w' => en = .returned (.tuple #[]) /\ KeptG g w w' /\ PS w' g l e:=by
 refine (deep_said g l e d w H).mono ?_
 rintro en w' ⟨hk,hq⟩
 rw [if_neg (show ¬ d >= 60 by omega)] at hq
 obtain ⟨v,he,rfl,hp⟩:=hq
 exact ⟨he,hk,hp⟩
theorem deep_bad (g:Nat) (l:List S35) (e d:Int) (w:World) (H:PS w g l e) (hd:d >= 60):Calls Tryd.prog 62 #[.pointer (some ⟨g,0,none⟩),.int .i64 d] w fun en w' => en = .panicked [stopE (atP e l) 31] /\ KeptG g w w':=by
 refine (deep_said g l e d w H).mono ?_
 rintro en w' ⟨hk,hq⟩
 rw [if_pos hd] at hq
 exact ⟨hq,hk⟩
theorem reps_cons {α:Type} {R:α -> List Value -> Prop} {size:Nat} {p:α} {ps:List α} {c cs:List Value} (hp:R p c) (hc:c.length = size) (h:Reps R size ps cs):Reps R size (p :: ps) (c ++ cs):=by
 refine ⟨by rw [List.length_append,hc,h.1,List.length_cons,Nat.succ_mul];omega,fun j q hq => ?_⟩
 cases j with
 | zero =>
  obtain rfl:p = q:=by simpa using hq
  rw [Nat.zero_mul,List.drop_zero, <- hc,List.take_left]
  exact hp
 | succ j =>
  rw [Nat.succ_mul,Nat.add_comm, <- hc, <- List.drop_drop,List.drop_left,hc]
  exact h.2 j q (by simpa using hq)
theorem strs_reps (W:World):∀ xs:List ByteArray,Reps (Kd.string.K W) 1 xs (xs.map Value.string)
 | []=>Reps.none _ _
 | x :: r=>reps_cons (c:=[Value.string x]) rfl rfl (strs_reps W r)
theorem lit_S (W:World) (ss:List ByteArray) (hm:ss.length <= 9223372036854775807):Kd.C Kd.string (W.alloc (.cells (ss.map Value.string).toArray 9)) (some ⟨W.heap.size,0,none⟩) ss.length ss:=by
 obtain ⟨A,c,he,hl,hr⟩:=(OwnRow.lit (e:=9) W W.heap.size (R:=Kd.string.K W) (size:=1) (strs_reps W ss) (Nat.le_refl _) hm).reads
 injection he with h1 h2 h3
 subst h1
 exact hr.imp_ (Below.refl _ _) (fun p c hp=>Kd.string.K_below (below_alloc (Below.refl _ _) _) hp)
end Go.Proofs.YtngpgdmafmkddaaDoor.Par
end
section
namespace Go.Proofs.YtngpgdmafmkddaaDoor.Par
open Go.RowKit Go.Proofs.YtngpgdmafmkddaaDoorW.PrintWords Go.Proofs.YtngpgdmafmkddaaDoorW.PrintLast Go.Proofs.YtngpgdmafmkddaaDoorW.PrintMore
open Go.Proofs.YtngpgdmafmkddaaDoor.PParseBlanks (S35 S25 S27 k35 k25 k27 rd_T35 rd_T25 rd_T27 at_T35 at_T25 at_T27)
set_option linter.unusedVariables false
set_option linter.unusedSimpArgs false
def VT (B:Nat) (w:World) (v:Value) (t:S25):Prop := ∃ v3,v = .agg #[.int .i64 t.f0,.string t.f1,.int .i64 t.f2,v3] /\ k25.R 25 w B Any v3 t.f3
section
variable {B B' g:Nat} {w w' : World} {v:Value} {t:S25} {e:Int} {l:List S35}
theorem VT.below (h:VT B w v t) (hb:Below w.heap.size w w'):VT B w' v t:=let ⟨v3,e,r⟩:=h; ⟨v3,e,Kd.R_below r hb⟩
theorem VT.lower (h:VT B w v t) (hb:B' <= B):VT B' w v t:=let ⟨v3,e,r⟩:=h; ⟨v3,e,Kd.R_lower r hb⟩
theorem R25_far {v3:Value} {ts:List S25} (h:k25.R 25 w B Any v3 ts) (hm:∀ k,B <= k -> k < w.heap.size -> w'.heap[k]? = w.heap[k]?):k25.R 25 w' B Any v3 ts:=Kd.R_mono (Kd.R_step (Kd.R_bound h) fun k hk1 hk2=>hm k hk1.2.1 hk2) fun _ _=>trivial
theorem VT.far (h:VT B w v t) (hm:∀ k,B <= k -> k < w.heap.size -> w'.heap[k]? = w.heap[k]?):VT B w' v t:=let ⟨v3,e,r⟩:=h; ⟨v3,e,R25_far r hm⟩
theorem R25_kps {v3:Value} {ts:List S25} (h:k25.R 25 w B Any v3 ts) (hp:PS w g l e) (hk:KeptG g w w'):k25.R 25 w' B Any v3 ts:=let ⟨_,_,HP⟩:=hp;Kd.R_mono (Kd.R_step (Kd.R_types h HP.has (by decide)) fun k hk1 hk2=>hk.block k hk2 hk1.2) fun k _=>trivial
theorem VT.kps (h:VT B w v t) (hp:PS w g l e) (hk:KeptG g w w'):VT B w' v t:=let ⟨v3,e,r⟩:=h; ⟨v3,e,R25_kps r hp hk⟩
theorem VT.M (h:VT B w v t):∃ cs:List Value,v = .agg cs.toArray /\ cs.length = 4 /\ (∀ u ∈ cs,u.oneCell' = true) /\ k25.M w B Any t cs:=by
 obtain ⟨v3,e,r⟩:=h
 have hM:=PParseBlanks.k25_mkM w B Any t r
 exact ⟨_,e,rfl,k25.K_one (k25.K_of_M hM),hM⟩
theorem VT.form (h:VT B w v t):∃ a3 c3,v = .agg #[.int .i64 t.f0,.string t.f1,.int .i64 t.f2,.slice a3 t.f3.length c3]:=by
 obtain ⟨v3,e,r⟩:=h
 obtain ⟨a3,c3,rfl⟩:=Kd.R_slice r
 exact ⟨a3,c3,e⟩
theorem VT.leaf (B:Nat) (w:World) (k n:Int) (s:ByteArray):VT B w (.agg #[.int .i64 k,.string s,.int .i64 n,.slice none 0 0]) ⟨k,s,n,[]⟩:=⟨_,rfl,Kd.R_nil _ _ _ _ _⟩
theorem VT.lit {cs:List Value} (h:VT B w (.agg cs.toArray) t):k25.M w B Any t cs /\ cs.length = 4:=by
 obtain ⟨ds,e,hl,_,hM⟩:=h.M
 injection e with e
 have e2:cs = ds:=by simpa using congrArg Array.toList e
 subst e2
 exact ⟨hM,hl⟩
end
theorem tyA {B:Nat} {W:World} {t:S25} {cs:List Value} (h:VT B W (.agg cs.toArray) t) (hB:B <= W.heap.size):k25.R 25 (W.alloc (.cells cs.toArray 25)) B Any (.slice (some ⟨W.heap.size,0,none⟩) 1 1) [t]:=by
 obtain ⟨hM,hl⟩:=h.lit
 refine ⟨fun k e=>trivial,OwnRow.lit W B ((reps_one (R:=fun x cs=>k25.M W B Any x cs) hM hl).imp_ fun p c hp => ?_) hB (by simp)⟩
 refine k25.M_mono (ok:=fun k=>Any k /\ B <= k /\ k < W.heap.size /\ ∃ q,q ∈ k25.E /\ ∃ cells,W.heap[k]? = some (.cells cells q (0,0))) (fun k hk=>⟨trivial,fun e => ?_⟩) (Kd.M_alloc (k25.M_bound hp) _)
 have h2:=hk.2.2.1
 have e2:k = W.heap.size:=by simpa [Value.ownBlock] using e
 omega
def TypOK (n:Nat):Prop := ∀ (g:Nat) (e d:Int) (l:List S35) (w:World),0 <= d -> d <= 2000 -> PS w g l e -> typP e n d l ≠ .out ->
 Calls Tryd.prog 46 #[.pointer (some ⟨g,0,none⟩),.int .i64 d] w (PPost g e (VT w.heap.size) (typP e n d l) w)
end Go.Proofs.YtngpgdmafmkddaaDoor.Par
end
section
namespace Go.Proofs.YtngpgdmafmkddaaDoor.Par
open Go.RowKit Go.Proofs.YtngpgdmafmkddaaDoorW.PrintWords Go.Proofs.YtngpgdmafmkddaaDoorW.PrintLast Go.Proofs.YtngpgdmafmkddaaDoorW.PrintMore
open Go.Proofs.YtngpgdmafmkddaaDoor.PParseBlanks (S35 S25 S27 k35 k25 k27 rd_T35 rd_T25 rd_T27 at_T35 at_T25 at_T27)
set_option linter.unusedVariables false
set_option linter.unusedSimpArgs false
theorem VO.form {ok:Nat -> Prop} {B:Nat} {w:World} {v:Value} {x:S27} (h:VO ok B w v x):∃ a4 ac4 a5 ac5 a9 ac9,v = .agg #[.int .i64 x.f0,.int .i64 x.f1,.int .i64 x.f2,.string x.f3,.slice a4 x.f4.length ac4,.slice a5 x.f5.length ac5,.int .i64 x.f6.f0,.string x.f6.f1,.int .i64 x.f6.f2,.slice a9 x.f6.f3.length ac9]:=by
 obtain ⟨v4,v5,v9,e,r4,r5,r9⟩:=h
 obtain ⟨a4,ac4,rfl⟩:=Kd.R_slice r4
 obtain ⟨a5,ac5,rfl⟩:=Kd.R_slice r5
 obtain ⟨a9,ac9,rfl⟩:=Kd.R_slice r9
 exact ⟨a4,ac4,a5,ac5,a9,ac9,e⟩
theorem i27:(Tryd.prog.info? 27).map (·.size) = some 10:=by kernel_rfl
theorem row_block (w:World) (g b:Nat) (cs:Array Value) (h:b ≠ g):(w.setRow g cs).heap[b]? = w.heap[b]?:=by
 unfold World.setRow
 simp [Array.getElem?_modify,h,Ne.symm h]
theorem row_size (w:World) (g:Nat) (cs:Array Value):(w.setRow g cs).heap.size = w.heap.size:=by simp [World.setRow]
theorem has_row {w:World} {b:Nat} {cs:Array Value} {t:TypeId} (h:Has w b cs t) (cs' : Array Value):Has (w.setRow b cs') b cs' t:=setRow_heap w b cs cs' t (0,0) h
theorem has_row_other {w:World} {b g:Nat} {cs cs' : Array Value} {t:TypeId} (h:Has w b cs t) (hne:b ≠ g):Has (w.setRow g cs') b cs t:=h.of_block (row_block w g b cs' hne)
theorem kept_row {S:Nat -> Prop} {w w1:World} (h:Kept S w w1) {g:Nat} (hg:w.heap.size <= g) (cs:Array Value):Kept S w (w1.setRow g cs):=
 ⟨h.os,h.tape,h.output,by rw [row_size];exact h.size,fun k hk hn=>(row_block w1 g k cs (by omega)).trans (h.block k hk hn)⟩
theorem C_row {w:World} {A:Option Addr} {l:List S35} (h:Kd.C k35 w A l.length l) {g:Nat} (hp:∀ ad,A = some ad -> ad.block ≠ g) (cs:Array Value):Kd.C k35 (w.setRow g cs) A l.length l:=by
 obtain ⟨h1,h2,h3⟩:=h
 refine ⟨h1,h2,fun h0 => ?_⟩
 obtain ⟨ad,e,hc⟩:=h3 h0
 refine ⟨ad,e,fun j q hj => ?_⟩
 obtain ⟨c,hl,hr,hcell⟩:=hc j q hj
 refine ⟨c,hl,hr,fun i v hi => ?_⟩
 have hb:(ad.add (j * k35.sz + i)).block = ad.block:=by unfold Addr.add;split <;> rfl
 have e1:=row_block w g (ad.add (j * k35.sz + i)).block cs (by rw [hb];exact hp ad e)
 have:=hcell i v hi
 unfold World.cell? at this ⊢
 rw [e1];exact this
theorem store27 (W:World) (g:Nat) (old c:Array Value) (hg:Has W g old 27) (ho:old.size = 10) (hs:c.size = 10) (h1:c.all (·.oneCell') = true) (a:Act) (o:Oper) (x y:Operand) (h:o.op = .store 27 x y) (hx:a.eval x = .pointer (some ⟨g,0,none⟩)) (hy:a.eval y = .agg c) :
  (execOp a.eval o).run Tryd.prog W = .ok .skip (W.setRow g c):=by
 have hst:=run_storeVar_row (P:=Tryd.prog) W g 27 27 old c hg (by rw [hs];exact i27) (by rw [ho,hs]) h1
 unfold execOp
 simp only [h,hx,hy,Instr.storeAt,Instr.sureAddr,Sem.run_bind,Sem.run_pure,Result.andThen_ok,hst]
theorem load27 (W:World) (g:Nat) (c:Array Value) (hg:Has W g c 27) (hs:c.size = 10) (a:Act) (o:Oper) (x:Operand) (h:o.op = .load 27 x) (hx:a.eval x = .pointer (some ⟨g,0,none⟩)) :
  (execOp a.eval o).run Tryd.prog W = .ok (.value (.agg c)) W:=by
 have hld:=run_loadVar_row (P:=Tryd.prog) W g 27 27 c (0,0) _ hg Tryd.underlying27 (by first | rfl | simp) (by rw [hs];exact i27)
 unfold execOp
 simp only [h,hx,Instr.loadAt,Instr.sureAddr,Sem.run_bind,Sem.run_pure,Result.andThen_ok,hld]
theorem i25:(Tryd.prog.info? 25).map (·.size) = some 4:=by kernel_rfl
theorem store25 (W:World) (g:Nat) (old c:Array Value) (hg:Has W g old 25) (ho:old.size = 4) (hs:c.size = 4) (h1:c.all (·.oneCell') = true) (a:Act) (o:Oper) (x y:Operand) (h:o.op = .store 25 x y) (hx:a.eval x = .pointer (some ⟨g,0,none⟩)) (hy:a.eval y = .agg c) :
  (execOp a.eval o).run Tryd.prog W = .ok .skip (W.setRow g c):=by
 have hst:=run_storeVar_row (P:=Tryd.prog) W g 25 25 old c hg (by rw [hs];exact i25) (by rw [ho,hs]) h1
 unfold execOp
 simp only [h,hx,hy,Instr.storeAt,Instr.sureAddr,Sem.run_bind,Sem.run_pure,Result.andThen_ok,hst]
theorem load25 (W:World) (g:Nat) (c:Array Value) (hg:Has W g c 25) (hs:c.size = 4) (a:Act) (o:Oper) (x:Operand) (h:o.op = .load 25 x) (hx:a.eval x = .pointer (some ⟨g,0,none⟩)) :
  (execOp a.eval o).run Tryd.prog W = .ok (.value (.agg c)) W:=by
 have hld:=run_loadVar_row (P:=Tryd.prog) W g 25 25 c (0,0) _ hg Tryd.underlying25 (by first | rfl | simp) (by rw [hs];exact i25)
 unfold execOp
 simp only [h,hx,Instr.loadAt,Instr.sureAddr,Sem.run_bind,Sem.run_pure,Result.andThen_ok,hld]
theorem VO.lit {ok:Nat -> Prop} {B:Nat} {w:World} {x:S27} {cs:List Value} (h:VO ok B w (.agg cs.toArray) x):k27.M w B ok x cs /\ cs.length = 10:=by
 obtain ⟨ds,e,hl,_,hM⟩:=h.M
 injection e with e
 have e2:cs = ds:=by simpa using congrArg Array.toList e
 subst e2
 exact ⟨hM,hl⟩
structure CL (g r0 b:Nat) (e:Int) (w wr:World) (x:S27) (v:Value) (l:List S35):Prop where
 vo:VO (fun k=>k ≠ b) (r0 + 1) wr v x
 hb:∃ cs,v = .agg cs /\ Has wr b cs 27
 hr:Has wr r0 #[.int .i64 0,.int .i64 0,.int .i64 0,.string ⟨#[]⟩,.slice none 0 0,.slice none 0 0,.int .i64 0,.string ⟨#[]⟩,.int .i64 0,.slice none 0 0] 27
 ps:PS wr g l e
 kp:KeptG g w wr
 lt:r0 < b
theorem CL.below {g r0 b:Nat} {e:Int} {w wr w' : World} {x:S27} {v:Value} {l:List S35} (H:CL g r0 b e w wr x v l) (hb:Below wr.heap.size wr w'):CL g r0 b e w w' x v l:=by
 obtain ⟨h1,⟨cs,h2,h3⟩,h4,h5,h6,h7⟩:=H
 exact ⟨h1.below hb,⟨cs,h2,h3.belowS hb⟩,h4.belowS hb,h5.below hb,h6.below hb,h7⟩
set_option maxRecDepth 100000 in
set_option maxHeartbeats 2000000 in
theorem cast_ok {n:Nat} (HO:OperandOK n) (HTY:∀ m,m < n + 1 -> TypOK m):CastOK (n + 1):=by
 intro g e d op l w h0 h1 HP hne
 unfold OperandOK at HO
 unfold TypOK at HTY
 have HTY:=am HTY
 have HPS:=am HP
 have hu27:=Tryd.underlying27
 have B0:=below_alloc (Below.refl w.heap.size w) (Obj.cells #[.int .i64 0,.int .i64 0,.int .i64 0,.string ⟨#[]⟩,.slice none 0 0,.slice none 0 0,.int .i64 0,.string ⟨#[]⟩,.int .i64 0,.slice none 0 0] 27)
 cases hr:operandP e n d op l with
 | out=>simp only [castP,hr,PR.andThen] at hne;exact absurd rfl hne
 | bad a er =>
  have HC:Aside0 (castP e (n + 1) d op l = .bad a er):=⟨by simp only [castP,hr,PR.andThen]⟩
  have HR:=am hr
  have HOO:=am HO
  clear hr hne HP HO
  go_enter Tryd.func52,Tryd.ntmps52
  go_wp2_with (go_at_call 70;(with_reducible refine (HOO.out g e d op l _ h0 h1 (HPS.out.below B0) (by rw [HR.out];exact PR.bad_ne _ _)).mono ?_);rintro en w1 ⟨hk,hq⟩;rw [HR.out] at hq;subst hq)
  rw [HC.out]
  exact ⟨rfl,(Kept.of_below B0).then_ hk,rfl⟩
 | ok x1 l1 =>
  have HR:=am hr
  have HE:Aside0 (castL e n d x1 l1 = castP e (n + 1) d op l):=⟨by simp only [castP,hr,PR.andThen]⟩
  have HNE:=am hne
  have HOO:=am HO
  have hgw:=HPS.out.glt
  clear hr hne HP HO
  generalize castP e (n + 1) d op l = R at *
  go_enter Tryd.func52,Tryd.ntmps52
  go_wp2_with (go_at_call 70;(with_reducible refine (HOO.out g e d op l _ h0 h1 (HPS.out.below B0) (by rw [HR.out];exact PR.ok_ne _ _)).mono ?_);rintro en w1 ⟨hk,hq⟩;rw [HR.out] at hq;obtain ⟨v,rfl,hv,hp⟩:=hq;obtain ⟨a4,ac4,a5,ac5,a9,ac9,rfl⟩:=hv.form)
  have bA:=below_alloc (Below.refl w1.heap.size w1) (Obj.cells #[.int .i64 x1.f0,.int .i64 x1.f1,.int .i64 x1.f2,.string x1.f3,.slice a4 x1.f4.length ac4,.slice a5 x1.f5.length ac5,.int .i64 x1.f6.f0,.string x1.f6.f1,.int .i64 x1.f6.f2,.slice a9 x1.f6.f3.length ac9] 27)
  have hlt:w.heap.size < w1.heap.size:=by have:=hk.size;simp at this;omega
  have HZ1:=Kept.has hk (Has.new w #[.int .i64 0,.int .i64 0,.int .i64 0,.string ⟨#[]⟩,.slice none 0 0,.slice none 0 0,.int .i64 0,.string ⟨#[]⟩,.int .i64 0,.slice none 0 0] 27) (by omega)
  have HCL:CL g w.heap.size w1.heap.size e w (w1.alloc (Obj.cells #[.int .i64 x1.f0,.int .i64 x1.f1,.int .i64 x1.f2,.string x1.f3,.slice a4 x1.f4.length ac4,.slice a5 x1.f5.length ac5,.int .i64 x1.f6.f0,.string x1.f6.f1,.int .i64 x1.f6.f2,.slice a9 x1.f6.f3.length ac9] 27)) x1 (.agg #[.int .i64 x1.f0,.int .i64 x1.f1,.int .i64 x1.f2,.string x1.f3,.slice a4 x1.f4.length ac4,.slice a5 x1.f5.length ac5,.int .i64 x1.f6.f0,.string x1.f6.f1,.int .i64 x1.f6.f2,.slice a9 x1.f6.f3.length ac9]) l1:=
   ⟨((hv.bound.mono (ok':=fun k=>k ≠ w1.heap.size) fun k hk=>by have:=hk.2.2;omega).below bA).lower (by simp),⟨_,rfl,Has.new w1 _ 27⟩,HZ1.belowS bA,hp.below bA,((Kept.of_below B0).then_ hk).below bA,hlt⟩
  have HST:=am (show ∃ x v l,castL e n d x l = R /\ CL g w.heap.size w1.heap.size e w (w1.alloc (Obj.cells #[.int .i64 x1.f0,.int .i64 x1.f1,.int .i64 x1.f2,.string x1.f3,.slice a4 x1.f4.length ac4,.slice a5 x1.f5.length ac5,.int .i64 x1.f6.f0,.string x1.f6.f1,.int .i64 x1.f6.f2,.slice a9 x1.f6.f3.length ac9] 27)) x v l from ⟨x1,_,l1,HE.out,HCL⟩)
  clear HCL HZ1 hv hp hk HPS HOO HR B0
  generalize w1.alloc (Obj.cells #[.int .i64 x1.f0,.int .i64 x1.f1,.int .i64 x1.f2,.string x1.f3,.slice a4 x1.f4.length ac4,.slice a5 x1.f5.length ac5,.int .i64 x1.f6.f0,.string x1.f6.f1,.int .i64 x1.f6.f2,.slice a9 x1.f6.f3.length ac9] 27) = w2 at *
  clear bA
  generalize w1.heap.size = b at *
  obtain ⟨r0,hr0⟩:∃ r0,w.heap.size = r0:=⟨_,rfl⟩
  rw [hr0] at HST hlt ⊢
  have HR0:=am hr0
  clear hr0 hgw HE
  have kw:IntKind.i64.wrap (d + 1) = d + 1:=IntWalk.i64_in _ (by omega)
  go_loopg [8,9] n (fun m v8 v9 wr=>m <= n /\ Aside0 (∃ x v l,castL e m d x l = R /\ CL g r0 b e w wr x v l))
  case atStart=>exact ⟨Nat.le_refl _,HST⟩
  case round =>
   clear HST
   obtain ⟨hmn,HX⟩:=hrel
   cases gk with
   | zero =>
    obtain ⟨x,v,l,hL,H⟩:=HX.out
    exact absurd hL.symm HNE.out
   | succ m =>
    obtain ⟨x,v,l,hL,H⟩:=HX.out
    clear HX
    simp only [castL] at hL
    obtain ⟨cs,rfl,hbx⟩:=H.hb
    obtain ⟨a4,ac4,a5,ac5,a9,ac9,ea⟩:=H.vo.form
    injection ea with ea
    subst ea
    have HCL:=am H
    have HBX:=am hbx
    obtain ⟨A0,c0,q0⟩:=H.ps
    have hbg:b ≠ g:=hbx.ne q0.has (by decide)
    clear q0
    clear H hbx
    cases ha:isP sAs l with
    | false =>
     rw [if_neg (by rw [ha];decide)] at hL
     have HRR:=am hL
     have HA:=am ha
     clear hL ha
     go_wp2_with (first | (go_at_call 60;(with_reducible refine (is_ps sAs HCL.out.ps).mono ?_);rintro en w3 ⟨he,hb3⟩;rw [HA.out] at he;subst he;replace HBX:=am (HBX.out.belowS hb3);replace HCL:=am (HCL.out.below hb3)) | ((with_reducible refine gate_dst (N:=29) rfl ?_);go_must (refine Kd.event_run rfl (load27 w3 b #[.int .i64 x.f0,.int .i64 x.f1,.int .i64 x.f2,.string x.f3,.slice a4 x.f4.length ac4,.slice a5 x.f5.length ac5,.int .i64 x.f6.f0,.string x.f6.f1,.int .i64 x.f6.f2,.slice a9 x.f6.f3.length ac9] HBX.out rfl _ _ _ rfl rfl) ?_)) | ((with_reducible refine gate_store (t:=27) (p:=6) rfl ?_);go_must (refine store_event (t:=27) (p:=6) (v:=.tmp 29) (w1:=w3.setRow r0 #[.int .i64 x.f0,.int .i64 x.f1,.int .i64 x.f2,.string x.f3,.slice a4 x.f4.length ac4,.slice a5 x.f5.length ac5,.int .i64 x.f6.f0,.string x.f6.f1,.int .i64 x.f6.f2,.slice a9 x.f6.f3.length ac9]) ?hg ?ho ?hn ?hr ?_;(case ho=>rfl);(case hg=>rfl);(case hn=>rfl);(case hr=>exact store27 w3 _ _ _ HCL.out.hr rfl rfl (by first | kernel_rfl | (simp [Value.oneCell'])) _ _ _ _ rfl rfl rfl);intro w7 hw7;subst hw7)))
     have HR7:=has_row HCL.out.hr #[.int .i64 x.f0,.int .i64 x.f1,.int .i64 x.f2,.string x.f3,.slice a4 x.f4.length ac4,.slice a5 x.f5.length ac5,.int .i64 x.f6.f0,.string x.f6.f1,.int .i64 x.f6.f2,.slice a9 x.f6.f3.length ac9]
     obtain ⟨A2,c2,HP2⟩:=HCL.out.ps
     have hrn:=HP2.row.ne HCL.out.hr (by decide)
     have hgr:g ≠ r0:=HP2.has.ne HCL.out.hr (by decide)
     have HV7:VE r0 (w3.setRow r0 #[.int .i64 x.f0,.int .i64 x.f1,.int .i64 x.f2,.string x.f3,.slice a4 x.f4.length ac4,.slice a5 x.f5.length ac5,.int .i64 x.f6.f0,.string x.f6.f1,.int .i64 x.f6.f2,.slice a9 x.f6.f3.length ac9]) (.agg #[.int .i64 x.f0,.int .i64 x.f1,.int .i64 x.f2,.string x.f3,.slice a4 x.f4.length ac4,.slice a5 x.f5.length ac5,.int .i64 x.f6.f0,.string x.f6.f1,.int .i64 x.f6.f2,.slice a9 x.f6.f3.length ac9]) x:=((HCL.out.vo.mono (ok':=Any) fun _ _=>trivial).row (Nat.lt_succ_self _) _).lower (Nat.le_succ _)
     refine bodyPost_ret (results_cell_row rfl _ _ r0 27 #[.int .i64 x.f0,.int .i64 x.f1,.int .i64 x.f2,.string x.f3,.slice a4 x.f4.length ac4,.slice a5 x.f5.length ac5,.int .i64 x.f6.f0,.string x.f6.f1,.int .i64 x.f6.f2,.slice a9 x.f6.f3.length ac9] (0,0) _ rfl HR7 Tryd.underlying27 rfl (by rfl)) rfl ?_
     rw [<- HRR.out]
     exact ⟨kept_row HCL.out.kp (by rw [HR0.out];exact Nat.le_refl _) _,_,rfl,HR0.out.symm ▸ HV7,A2,c2,has_row_other HP2.has hgr,HP2.le,C_row HP2.toks hrn _,HP2.row.of fun ad ea=>row_block _ _ _ _ (hrn ad ea)⟩
    | true =>
     rw [if_pos ha] at hL
     cases l with
     | nil=>exact Bool.noConfusion ha
     | cons t r =>
     have hL:((typP e m (d + 1) r).andThen fun ty l1=>castL e m d (mkE 10 t.f2 0 ⟨#[]⟩ [x] [ty]) l1) = R:=hL
     have HA:=am ha
     obtain ⟨A2,c2,HP2⟩:=HCL.out.ps
     have HP2:=am HP2
     have hf2:=fld2 t.f0 t.f1 t.f2
     clear ha
     cases hr2:typP e m (d + 1) r with
     | out=>rw [hr2] at hL;exact absurd hL.symm HNE.out
     | bad a er =>
      rw [hr2] at hL
      have HRR:=am (show PR.bad a er = R from hL)
      have HR2:=am hr2
      have HNO:=am (show typP e m (d + 1) r ≠ .out by rw [hr2];exact PR.bad_ne _ _)
      clear hL hr2
      go_wp2_with (first | (go_at_call 60;(with_reducible refine (is_ps sAs HCL.out.ps).mono ?_);rintro en w3 ⟨he,hb3⟩;rw [HA.out] at he;subst he) | (go_at_call 54;(with_reducible refine (next_said g t r e A2 c2 _ (HP2.out.below hb3)).mono ?_);rintro en w4 ⟨rfl,hk4,hp4⟩) | (go_at_call 46;(with_reducible refine (HTY.out m (by omega) g e (d + 1) r _ (by omega) (by omega) hp4 HNO.out).mono ?_);rintro en w5 ⟨hk5,hq5⟩;rw [HR2.out] at hq5;subst hq5))
      rw [<- HRR.out]
      exact ⟨rfl,((HCL.out.kp.below hb3).then_ hk4).then_ hk5,rfl⟩
     | ok ty l2 =>
      rw [hr2] at hL
      have HRR:=am (show castL e m d (mkE 10 t.f2 0 ⟨#[]⟩ [x] [ty]) l2 = R from hL)
      have HR2:=am hr2
      have HNO:=am (show typP e m (d + 1) r ≠ .out by rw [hr2];exact PR.ok_ne _ _)
      clear hL hr2
      go_wp2_with (first | (go_at_call 60;(with_reducible refine (is_ps sAs HCL.out.ps).mono ?_);rintro en w3 ⟨he,hb3⟩;rw [HA.out] at he;subst he) | (go_at_call 54;(with_reducible refine (next_said g t r e A2 c2 _ (HP2.out.below hb3)).mono ?_);rintro en w4 ⟨rfl,hk4,hp4⟩) | (go_at_call 46;(with_reducible refine (HTY.out m (by omega) g e (d + 1) r _ (by omega) (by omega) hp4 HNO.out).mono ?_);rintro en w5 ⟨hk5,hq5⟩;rw [HR2.out] at hq5;obtain ⟨v5,rfl,hv5,hp5⟩:=hq5;obtain ⟨y3,yc3,rfl⟩:=hv5.form;have HB5:=am ((Kept.has hk5 (Kept.has hk4 (HBX.out.belowS hb3) hbg) hbg).alloc (Obj.cells #[.int .i64 ty.f0,.string ty.f1,.int .i64 ty.f2,.slice y3 ty.f3.length yc3] 25));have HY:=am (Has.new w5 #[.int .i64 ty.f0,.string ty.f1,.int .i64 ty.f2,.slice y3 ty.f3.length yc3] 25)) | ((with_reducible refine gate_dst (N:=24) rfl ?_);go_must (refine Kd.event_run rfl (load27 (w5.alloc (Obj.cells #[.int .i64 ty.f0,.string ty.f1,.int .i64 ty.f2,.slice y3 ty.f3.length yc3] 25)) b #[.int .i64 x.f0,.int .i64 x.f1,.int .i64 x.f2,.string x.f3,.slice a4 x.f4.length ac4,.slice a5 x.f5.length ac5,.int .i64 x.f6.f0,.string x.f6.f1,.int .i64 x.f6.f2,.slice a9 x.f6.f3.length ac9] HB5.out rfl _ _ _ rfl rfl) ?_)) | ((with_reducible refine gate_dst (N:=26) rfl ?_);go_must (refine Kd.event_run rfl (load25 ((w5.alloc (Obj.cells #[.int .i64 ty.f0,.string ty.f1,.int .i64 ty.f2,.slice y3 ty.f3.length yc3] 25)).alloc (Obj.cells #[.int .i64 x.f0,.int .i64 x.f1,.int .i64 x.f2,.string x.f3,.slice a4 x.f4.length ac4,.slice a5 x.f5.length ac5,.int .i64 x.f6.f0,.string x.f6.f1,.int .i64 x.f6.f2,.slice a9 x.f6.f3.length ac9] 27)) w5.heap.size #[.int .i64 ty.f0,.string ty.f1,.int .i64 ty.f2,.slice y3 ty.f3.length yc3] (HY.out.alloc _) rfl _ _ _ rfl rfl) ?_)) | ((with_reducible refine gate_store (t:=27) (p:=7) rfl ?_);go_must (refine store_event (t:=27) (p:=7) (v:=.tmp 28) (w1:=(((w5.alloc (Obj.cells #[.int .i64 ty.f0,.string ty.f1,.int .i64 ty.f2,.slice y3 ty.f3.length yc3] 25)).alloc (Obj.cells #[.int .i64 x.f0,.int .i64 x.f1,.int .i64 x.f2,.string x.f3,.slice a4 x.f4.length ac4,.slice a5 x.f5.length ac5,.int .i64 x.f6.f0,.string x.f6.f1,.int .i64 x.f6.f2,.slice a9 x.f6.f3.length ac9] 27)).alloc (Obj.cells #[.int .i64 ty.f0,.string ty.f1,.int .i64 ty.f2,.slice y3 ty.f3.length yc3] 25)).setRow b #[.int .i64 10,.int .i64 t.f2,.int .i64 0,.string ⟨#[]⟩,.slice (some ⟨w5.heap.size + 1,0,none⟩) 1 1,.slice (some ⟨w5.heap.size + 2,0,none⟩) 1 1,.int .i64 0,.string ⟨#[]⟩,.int .i64 0,.slice none 0 0]) ?hg ?ho ?hn ?hr ?_;(case ho=>rfl);(case hg=>rfl);(case hn=>rfl);(case hr=>exact store27 _ b _ _ ((HB5.out.alloc _).alloc _) rfl rfl (by first | kernel_rfl | (simp [Value.oneCell'])) _ _ _ _ rfl rfl rfl);intro w7 hw7;subst hw7)))
      have b6:=below_alloc (Below.refl w5.heap.size w5) (Obj.cells #[.int .i64 ty.f0,.string ty.f1,.int .i64 ty.f2,.slice y3 ty.f3.length yc3] 25)
      have b7:=below_alloc (Below.refl (w5.alloc (Obj.cells #[.int .i64 ty.f0,.string ty.f1,.int .i64 ty.f2,.slice y3 ty.f3.length yc3] 25)).heap.size _) (Obj.cells #[.int .i64 x.f0,.int .i64 x.f1,.int .i64 x.f2,.string x.f3,.slice a4 x.f4.length ac4,.slice a5 x.f5.length ac5,.int .i64 x.f6.f0,.string x.f6.f1,.int .i64 x.f6.f2,.slice a9 x.f6.f3.length ac9] 27)
      have b8:=below_alloc (Below.refl ((w5.alloc (Obj.cells #[.int .i64 ty.f0,.string ty.f1,.int .i64 ty.f2,.slice y3 ty.f3.length yc3] 25)).alloc (Obj.cells #[.int .i64 x.f0,.int .i64 x.f1,.int .i64 x.f2,.string x.f3,.slice a4 x.f4.length ac4,.slice a5 x.f5.length ac5,.int .i64 x.f6.f0,.string x.f6.f1,.int .i64 x.f6.f2,.slice a9 x.f6.f3.length ac9] 27)).heap.size _) (Obj.cells #[.int .i64 ty.f0,.string ty.f1,.int .i64 ty.f2,.slice y3 ty.f3.length yc3] 25)
      have hblt:b < w4.heap.size:=by have q1:=HBX.out.lt;have q2:=hk4.size;have q3:=hb3.size;omega
      have hrb:=HCL.out.lt
      have hrg:r0 ≠ g:=HCL.out.hr.ne HP2.out.has (by decide)
      have hz5:=hk5.size
      have VX:VO (fun k=>k ≠ b) (r0 + 1) (w5.alloc (Obj.cells #[.int .i64 ty.f0,.string ty.f1,.int .i64 ty.f2,.slice y3 ty.f3.length yc3] 25)) (.agg #[.int .i64 x.f0,.int .i64 x.f1,.int .i64 x.f2,.string x.f3,.slice a4 x.f4.length ac4,.slice a5 x.f5.length ac5,.int .i64 x.f6.f0,.string x.f6.f1,.int .i64 x.f6.f2,.slice a9 x.f6.f3.length ac9]) x:=(((HCL.out.vo.below hb3).kps (HP2.out.below hb3).ps hk4).kps hp4 hk5).below b6
      obtain ⟨MX,lX⟩:=VO.lit (cs:=[.int .i64 x.f0,.int .i64 x.f1,.int .i64 x.f2,.string x.f3,.slice a4 x.f4.length ac4,.slice a5 x.f5.length ac5,.int .i64 x.f6.f0,.string x.f6.f1,.int .i64 x.f6.f2,.slice a9 x.f6.f3.length ac9]) VX
      have hR:=kids_lit (ok:=fun k=>k ≠ b) (w5.alloc (Obj.cells #[.int .i64 ty.f0,.string ty.f1,.int .i64 ty.f2,.slice y3 ty.f3.length yc3] 25)) (r0 + 1) (by simp;omega) (by simp;omega) (xs:=[x]) (reps_one MX lX) (by simp)
      have hs5:(w5.alloc (Obj.cells #[.int .i64 ty.f0,.string ty.f1,.int .i64 ty.f2,.slice y3 ty.f3.length yc3] 25)).heap.size = w5.heap.size + 1:=by simp
      have hs6:((w5.alloc (Obj.cells #[.int .i64 ty.f0,.string ty.f1,.int .i64 ty.f2,.slice y3 ty.f3.length yc3] 25)).alloc (Obj.cells #[.int .i64 x.f0,.int .i64 x.f1,.int .i64 x.f2,.string x.f3,.slice a4 x.f4.length ac4,.slice a5 x.f5.length ac5,.int .i64 x.f6.f0,.string x.f6.f1,.int .i64 x.f6.f2,.slice a9 x.f6.f3.length ac9] 27)).heap.size = w5.heap.size + 2:=by simp
      rw [hs5] at hR
      have hT0:=tyA (cs:=[.int .i64 ty.f0,.string ty.f1,.int .i64 ty.f2,.slice y3 ty.f3.length yc3]) ((hv5.below b6).below b7) (by simp;omega)
      rw [hs6] at hT0
      have hT:=Kd.R_lower (Kd.R_mono (ok':=fun k=>k ≠ b) (Kd.R_bound hT0) (fun k hk=>by have:=hk.2.1;omega)) (show r0 + 1 <= w4.heap.size by omega)
      have VN0:VO (fun k=>k ≠ b) (r0 + 1) (((w5.alloc (Obj.cells #[.int .i64 ty.f0,.string ty.f1,.int .i64 ty.f2,.slice y3 ty.f3.length yc3] 25)).alloc (Obj.cells #[.int .i64 x.f0,.int .i64 x.f1,.int .i64 x.f2,.string x.f3,.slice a4 x.f4.length ac4,.slice a5 x.f5.length ac5,.int .i64 x.f6.f0,.string x.f6.f1,.int .i64 x.f6.f2,.slice a9 x.f6.f3.length ac9] 27)).alloc (Obj.cells #[.int .i64 ty.f0,.string ty.f1,.int .i64 ty.f2,.slice y3 ty.f3.length yc3] 25)) (.agg #[.int .i64 10,.int .i64 t.f2,.int .i64 0,.string ⟨#[]⟩,.slice (some ⟨w5.heap.size + 1,0,none⟩) 1 1,.slice (some ⟨w5.heap.size + 2,0,none⟩) 1 1,.int .i64 0,.string ⟨#[]⟩,.int .i64 0,.slice none 0 0]) (mkE 10 t.f2 0 ⟨#[]⟩ [x] [ty]):=⟨_,_,_,rfl,Kd.R_below hR b8,hT,Kd.R_nil _ _ _ _ _⟩
      have VN:=VN0.rowO (g:=b) (fun k hk _=>hk) #[.int .i64 10,.int .i64 t.f2,.int .i64 0,.string ⟨#[]⟩,.slice (some ⟨w5.heap.size + 1,0,none⟩) 1 1,.slice (some ⟨w5.heap.size + 2,0,none⟩) 1 1,.int .i64 0,.string ⟨#[]⟩,.int .i64 0,.slice none 0 0]
      have HB8:=(HB5.out.belowS b7).belowS b8
      have HR8:=(((Kept.has hk5 (Kept.has hk4 (HCL.out.hr.belowS hb3) hrg) hrg).belowS b6).belowS b7).belowS b8
      obtain ⟨A4,c4,HP4⟩:=((hp5.below b6).below b7).below b8
      have hpb:=HP4.row.ne HB8 (by decide)
      have HCN:CL g r0 b e w ((((w5.alloc (Obj.cells #[.int .i64 ty.f0,.string ty.f1,.int .i64 ty.f2,.slice y3 ty.f3.length yc3] 25)).alloc (Obj.cells #[.int .i64 x.f0,.int .i64 x.f1,.int .i64 x.f2,.string x.f3,.slice a4 x.f4.length ac4,.slice a5 x.f5.length ac5,.int .i64 x.f6.f0,.string x.f6.f1,.int .i64 x.f6.f2,.slice a9 x.f6.f3.length ac9] 27)).alloc (Obj.cells #[.int .i64 ty.f0,.string ty.f1,.int .i64 ty.f2,.slice y3 ty.f3.length yc3] 25)).setRow b #[.int .i64 10,.int .i64 t.f2,.int .i64 0,.string ⟨#[]⟩,.slice (some ⟨w5.heap.size + 1,0,none⟩) 1 1,.slice (some ⟨w5.heap.size + 2,0,none⟩) 1 1,.int .i64 0,.string ⟨#[]⟩,.int .i64 0,.slice none 0 0]) (mkE 10 t.f2 0 ⟨#[]⟩ [x] [ty]) (.agg #[.int .i64 10,.int .i64 t.f2,.int .i64 0,.string ⟨#[]⟩,.slice (some ⟨w5.heap.size + 1,0,none⟩) 1 1,.slice (some ⟨w5.heap.size + 2,0,none⟩) 1 1,.int .i64 0,.string ⟨#[]⟩,.int .i64 0,.slice none 0 0]) l2:=⟨VN,⟨_,rfl,has_row HB8 #[.int .i64 10,.int .i64 t.f2,.int .i64 0,.string ⟨#[]⟩,.slice (some ⟨w5.heap.size + 1,0,none⟩) 1 1,.slice (some ⟨w5.heap.size + 2,0,none⟩) 1 1,.int .i64 0,.string ⟨#[]⟩,.int .i64 0,.slice none 0 0]⟩,has_row_other HR8 (by omega),⟨A4,c4,has_row_other HP4.has (Ne.symm hbg),HP4.le,C_row HP4.toks hpb _,HP4.row.of fun ad ea=>row_block _ _ _ _ (hpb ad ea)⟩,kept_row ((((((HCL.out.kp.below hb3).then_ hk4).then_ hk5).below b6).below b7).below b8) (by rw [HR0.out];omega) _,hrb⟩
      have HCN:=am HCN
      clear VN VN0 hR hT hT0 VX MX lX HR8 HB8 HP4 hpb b8 b7 b6 hv5 hp5 hk5 hk4 hp4 hb3
      go_roundg m
      case measure=>omega
      case rel=>exact ⟨by omega,⟨⟨_,_,l2,HRR.out,HCN.out⟩⟩⟩
end Go.Proofs.YtngpgdmafmkddaaDoor.Par
end
section
namespace Go.Proofs.YtngpgdmafmkddaaDoor.Par
open Go.RowKit Go.Proofs.YtngpgdmafmkddaaDoorW.PrintWords Go.Proofs.YtngpgdmafmkddaaDoorW.PrintLast Go.Proofs.YtngpgdmafmkddaaDoorW.PrintMore
open Go.Proofs.YtngpgdmafmkddaaDoor.PParseBlanks (S35 S25 S27 k35 k25 k27 rd_T35 rd_T25 rd_T27 at_T35 at_T25 at_T27)
set_option linter.unusedVariables false
set_option linter.unusedSimpArgs false
def RankOK:Prop := ∀ (g:Nat) (e:Int) (l:List S35) (w:World),PS w g l e -> Calls Tryd.prog 53 #[.pointer (some ⟨g,0,none⟩)] w fun en w' => en = .returned (.int .i64 (rankP l)) /\ Below w.heap.size w w'
theorem rank_le (l:List S35):0 <= rankP l /\ rankP l <= 9:=by
 cases l with
 | nil=>simp [rankP]
 | cons t r =>
  simp only [rankP,rankOf]
  repeat' split
  all_goals omega
set_option maxRecDepth 100000 in
set_option maxHeartbeats 4000000 in
theorem climb_ok {n:Nat} (RK:RankOK) (HC:CastOK n) (HI:∀ m,m < n + 1 -> ClimbOK m):ClimbOK (n + 1):=by
 intro g e d op least l w h0 h1 h2 h3 HP hne
 unfold RankOK at RK
 unfold CastOK at HC
 unfold ClimbOK at HI
 have RKA:=am RK
 have HIA:=am HI
 have HCC:=am HC
 have HPS:=am HP
 have hu27:=Tryd.underlying27
 have hu35:=Tryd.underlying35
 have B0:=below_alloc (Below.refl w.heap.size w) (Obj.cells #[.int .i64 0,.int .i64 0,.int .i64 0,.string ⟨#[]⟩,.slice none 0 0,.slice none 0 0,.int .i64 0,.string ⟨#[]⟩,.int .i64 0,.slice none 0 0] 27)
 obtain ⟨A0,c0,HP0⟩:=HP
 have hgw:g < w.heap.size:=HP0.has.lt
 clear RK HC HI HP0
 cases hr:castP e n d op l with
 | out=>simp only [climbP,hr,PR.andThen] at hne;exact absurd rfl hne
 | bad a er =>
  have HR:=am hr
  have HE:Aside0 (climbP e (n + 1) d op least l = .bad a er):=⟨by simp only [climbP,hr,PR.andThen]⟩
  clear hr hne
  go_enter Tryd.func28,Tryd.ntmps28
  go_wp2_with (go_at_call 52;(with_reducible refine (HCC.out g e d op l _ h0 h1 (HPS.out.below B0) (by rw [HR.out];exact PR.bad_ne _ _)).mono ?_);rintro en w1 ⟨hk,hq⟩;rw [HR.out] at hq;subst hq)
  rw [HE.out]
  exact ⟨rfl,(Kept.of_below B0).then_ hk,rfl⟩
 | ok x1 l1 =>
  have HR:=am hr
  have HE:Aside0 (climbL e n d op least x1 0 l1 = climbP e (n + 1) d op least l):=⟨by simp only [climbP,hr,PR.andThen]⟩
  have HNE:=am hne
  clear hr hne
  generalize climbP e (n + 1) d op least l = R at *
  go_enter Tryd.func28,Tryd.ntmps28
  go_wp2_with (first | (go_at_call 52;(with_reducible refine (HCC.out g e d op l _ h0 h1 (HPS.out.below B0) (by rw [HR.out];exact PR.ok_ne _ _)).mono ?_);rintro en w1 ⟨hk,hq⟩;rw [HR.out] at hq;obtain ⟨v1,rfl,hv,hp⟩:=hq;obtain ⟨a4,ac4,a5,ac5,a9,ac9,rfl⟩:=hv.form;have bA:=below_alloc (Below.refl w1.heap.size w1) (Obj.cells #[.int .i64 x1.f0,.int .i64 x1.f1,.int .i64 x1.f2,.string x1.f3,.slice a4 x1.f4.length ac4,.slice a5 x1.f5.length ac5,.int .i64 x1.f6.f0,.string x1.f6.f1,.int .i64 x1.f6.f2,.slice a9 x1.f6.f3.length ac9] 27)) | (go_at_call 53;(with_reducible refine (RKA.out g e l1 _ (hp.below bA)).mono ?_);rintro en w2 ⟨rfl,hb2⟩))
  have hlt:w.heap.size < w1.heap.size:=by have:=hk.size;simp at this;omega
  have HZ1:=Kept.has hk (Has.new w #[.int .i64 0,.int .i64 0,.int .i64 0,.string ⟨#[]⟩,.slice none 0 0,.slice none 0 0,.int .i64 0,.string ⟨#[]⟩,.int .i64 0,.slice none 0 0] 27) (by omega)
  have HCL:CL g w.heap.size w1.heap.size e w w2 x1 (.agg #[.int .i64 x1.f0,.int .i64 x1.f1,.int .i64 x1.f2,.string x1.f3,.slice a4 x1.f4.length ac4,.slice a5 x1.f5.length ac5,.int .i64 x1.f6.f0,.string x1.f6.f1,.int .i64 x1.f6.f2,.slice a9 x1.f6.f3.length ac9]) l1:=
   ⟨(((hv.bound.mono (ok':=fun k=>k ≠ w1.heap.size) fun k hk=>by have:=hk.2.2;omega).below bA).below hb2).lower (by simp),⟨_,rfl,(Has.new w1 _ 27).belowS hb2⟩,(HZ1.belowS bA).belowS hb2,(hp.below bA).below hb2,(((Kept.of_below B0).then_ hk).below bA).below hb2,hlt⟩
  have HST:=am (show ∃ x v l,rankP l1 = rankP l /\ climbL e n d op least x 0 l = R /\ CL g w.heap.size w1.heap.size e w w2 x v l from ⟨x1,_,l1,rfl,HE.out,HCL⟩)
  clear HCL HZ1 hv hp hk bA hb2 HPS HCC HR B0
  generalize w1.heap.size = b at *
  generalize rankP l1 = k1 at *
  obtain ⟨r0,hr0⟩:∃ r0,w.heap.size = r0:=⟨_,rfl⟩
  rw [hr0] at HST hlt ⊢
  have HR0:=am hr0
  clear hr0 hgw HE
  go_loopg [10,11] n (fun m v10 v11 wr => ∃ last k:Int,v10 = .int .i64 last /\ v11 = .int .i64 k /\ m <= n /\ Aside0 (∃ x v l,k = rankP l /\ climbL e m d op least x last l = R /\ CL g r0 b e w wr x v l))
  case atStart=>exact ⟨0,k1,rfl,rfl,Nat.le_refl _,HST⟩
  case round =>
   clear HST
   obtain ⟨last,k,rfl,rfl,hmn,HX⟩:=hrel
   cases gk with
   | zero =>
    obtain ⟨x,v,l,hkl,hL,H⟩:=HX.out
    exact absurd hL.symm HNE.out
   | succ m =>
    obtain ⟨x,v,l,hkl,hL,H⟩:=HX.out
    clear HX
    simp only [climbL] at hL
    rw [<- hkl] at hL
    obtain ⟨hk0,hk9⟩:0 <= k /\ k <= 9:=hkl ▸ rank_le l
    obtain ⟨cs,rfl,hbx⟩:=H.hb
    obtain ⟨a4,ac4,a5,ac5,a9,ac9,ea⟩:=H.vo.form
    injection ea with ea
    subst ea
    have HCL:=am H
    have HBX:=am hbx
    have HKL:=am hkl
    clear H hbx hkl
    by_cases hge:k >= least
    ·have d1:decide (k >= least) = true:=decide_eq_true hge
     rw [if_pos hge] at hL
     by_cases hb3:k = 3 /\ last = 3
     ·obtain ⟨rfl,rfl⟩:=hb3
      rw [if_pos ⟨rfl,rfl⟩] at hL
      have HRR:=am hL
      clear hL
      obtain ⟨A2,c2,HP2⟩:=HCL.out.ps
      have HP2:=am HP2
      go_wp2_with (go_at_call 20;(with_reducible refine (fail_said g l e A2 c2 30 _ HP2.out).mono ?_);rintro en w3 ⟨rfl,hb⟩)
      rw [<- HRR.out]
      exact ⟨rfl,HCL.out.kp.below hb,rfl⟩
     ·rw [if_neg hb3] at hL
      cases l with
      | nil=>exact absurd hL.symm HNE.out
      | cons t r =>
       have hL:(climbP e m d op (rankP (t :: r) + 1) r).andThen (fun y l' => climbL e m d op least (mkE 9 t.f2 0 t.f1 [x,y] []) (rankP (t :: r)) l') = R:=hL
       rw [<- HKL.out] at hL
       obtain ⟨A2,c2,HP2⟩:=HCL.out.ps
       have HP2:=am HP2
       have hbg:b ≠ g:=HBX.out.ne HP2.out.has (by decide)
       have HTG:Aside0 (∀ w3:World,KeptG g wr w3 -> w3.heap.size = g -> False):=⟨fun w3 hk h=>by have h1:=HP2.out.has.lt;have h2:=hk.size;omega⟩
       have HM:=am (HIA.out m (by omega))
       by_cases hk3:k = 3
       ·have e1:(k == 3) = true:=by simp [hk3]
        have e2:(last == 3) = false:=by simp;exact fun h=>hb3 ⟨hk3,h⟩
        clear hk3 hb3
        cases hr2:climbP e m d op (k + 1) r with
        | out=>rw [hr2] at hL;exact absurd hL.symm HNE.out
        | bad a er =>
         rw [hr2] at hL
         have HRR:=am (show PR.bad a er = R from hL)
         have HR2:=am hr2
         have HNO:=am (show climbP e m d op (k + 1) r ≠ .out by rw [hr2];exact PR.bad_ne _ _)
         clear hL hr2
         go_wp2_with (first | (go_at_call 54;(with_reducible refine (next_said g t r e A2 c2 _ HP2.out).mono ?_);rintro en w3 ⟨rfl,hk3,hp3⟩;have b3a:=below_alloc (Below.refl w3.heap.size w3) (Obj.cells #[.int .i64 t.f0,.string t.f1,.int .i64 t.f2] 35)) | (go_at_call 28;(with_reducible refine (HM.out g e d op (k + 1) r _ h0 h1 (by omega) (by omega) (hp3.below b3a) HNO.out).mono ?_);rintro en w4 ⟨hk4,hq4⟩;rw [HR2.out] at hq4;subst hq4))
         rw [<- HRR.out]
         exact ⟨rfl,((HCL.out.kp.then_ hk3).below b3a).then_ hk4,rfl⟩
        | ok y l2 =>
         rw [hr2] at hL
         have HRR:=am (show climbL e m d op least (mkE 9 t.f2 0 t.f1 [x,y] []) k l2 = R from hL)
         have HR2:=am hr2
         have HNO:=am (show climbP e m d op (k + 1) r ≠ .out by rw [hr2];exact PR.ok_ne _ _)
         clear hL hr2
         go_wp2_with (first | (go_at_call 54;(with_reducible refine (next_said g t r e A2 c2 _ HP2.out).mono ?_);rintro en w3 ⟨rfl,hk3,hp3⟩;have b3a:=below_alloc (Below.refl w3.heap.size w3) (Obj.cells #[.int .i64 t.f0,.string t.f1,.int .i64 t.f2] 35)) | (go_at_call 28;(with_reducible refine (HM.out g e d op (k + 1) r _ h0 h1 (by omega) (by omega) (hp3.below b3a) HNO.out).mono ?_);rintro en w4 ⟨hk4,hq4⟩;rw [HR2.out] at hq4;obtain ⟨v4,rfl,hv4,hp4⟩:=hq4;obtain ⟨b4,bc4,b5,bc5,b9,bc9,rfl⟩:=hv4.form;have b4a:=below_alloc (Below.refl w4.heap.size w4) (Obj.cells #[.int .i64 y.f0,.int .i64 y.f1,.int .i64 y.f2,.string y.f3,.slice b4 y.f4.length bc4,.slice b5 y.f5.length bc5,.int .i64 y.f6.f0,.string y.f6.f1,.int .i64 y.f6.f2,.slice b9 y.f6.f3.length bc9] 27);have HB3:=(Kept.has hk3 HBX.out hbg).belowS b3a;have HB4:=am ((Kept.has hk4 HB3 hbg).belowS b4a);have HK4:=(Kept.has hk4 (Has.new w3 #[.int .i64 t.f0,.string t.f1,.int .i64 t.f2] 35) (fun h=>HTG.out w3 hk3 h)).belowS b4a;have HY4:=am (Has.new w4 #[.int .i64 y.f0,.int .i64 y.f1,.int .i64 y.f2,.string y.f3,.slice b4 y.f4.length bc4,.slice b5 y.f5.length bc5,.int .i64 y.f6.f0,.string y.f6.f1,.int .i64 y.f6.f2,.slice b9 y.f6.f3.length bc9] 27);have k1:=HK4.cell 1;have k2:=HK4.cell 2;simp only [List.getElem?_toArray,List.getElem?_cons_zero,List.getElem?_cons_succ] at k1 k2) | ((with_reducible refine gate_dst (N:=45) rfl ?_);go_must (refine Kd.event_run rfl (load27 (w4.alloc (Obj.cells #[.int .i64 y.f0,.int .i64 y.f1,.int .i64 y.f2,.string y.f3,.slice b4 y.f4.length bc4,.slice b5 y.f5.length bc5,.int .i64 y.f6.f0,.string y.f6.f1,.int .i64 y.f6.f2,.slice b9 y.f6.f3.length bc9] 27)) b #[.int .i64 x.f0,.int .i64 x.f1,.int .i64 x.f2,.string x.f3,.slice a4 x.f4.length ac4,.slice a5 x.f5.length ac5,.int .i64 x.f6.f0,.string x.f6.f1,.int .i64 x.f6.f2,.slice a9 x.f6.f3.length ac9] HB4.out rfl _ _ _ rfl rfl) ?_)) | ((with_reducible refine gate_dst (N:=46) rfl ?_);go_must (refine Kd.event_run rfl (load27 (w4.alloc (Obj.cells #[.int .i64 y.f0,.int .i64 y.f1,.int .i64 y.f2,.string y.f3,.slice b4 y.f4.length bc4,.slice b5 y.f5.length bc5,.int .i64 y.f6.f0,.string y.f6.f1,.int .i64 y.f6.f2,.slice b9 y.f6.f3.length bc9] 27)) w4.heap.size #[.int .i64 y.f0,.int .i64 y.f1,.int .i64 y.f2,.string y.f3,.slice b4 y.f4.length bc4,.slice b5 y.f5.length bc5,.int .i64 y.f6.f0,.string y.f6.f1,.int .i64 y.f6.f2,.slice b9 y.f6.f3.length bc9] HY4.out rfl _ _ _ rfl rfl) ?_)) | ((with_reducible refine gate_store (t:=27) (p:=9) rfl ?_);go_must (refine store_event (t:=27) (p:=9) (v:=.tmp 48) (w1:=((w4.alloc (Obj.cells #[.int .i64 y.f0,.int .i64 y.f1,.int .i64 y.f2,.string y.f3,.slice b4 y.f4.length bc4,.slice b5 y.f5.length bc5,.int .i64 y.f6.f0,.string y.f6.f1,.int .i64 y.f6.f2,.slice b9 y.f6.f3.length bc9] 27)).alloc (Obj.cells #[.int .i64 x.f0,.int .i64 x.f1,.int .i64 x.f2,.string x.f3,.slice a4 x.f4.length ac4,.slice a5 x.f5.length ac5,.int .i64 x.f6.f0,.string x.f6.f1,.int .i64 x.f6.f2,.slice a9 x.f6.f3.length ac9,.int .i64 y.f0,.int .i64 y.f1,.int .i64 y.f2,.string y.f3,.slice b4 y.f4.length bc4,.slice b5 y.f5.length bc5,.int .i64 y.f6.f0,.string y.f6.f1,.int .i64 y.f6.f2,.slice b9 y.f6.f3.length bc9] 27)).setRow b #[.int .i64 9,.int .i64 t.f2,.int .i64 0,.string t.f1,.slice (some ⟨w4.heap.size + 1,0,none⟩) 2 2,.slice none 0 0,.int .i64 0,.string ⟨#[]⟩,.int .i64 0,.slice none 0 0]) ?hg ?ho ?hn ?hr ?_;(case ho=>rfl);(case hg=>rfl);(case hn=>rfl);(case hr=>exact store27 _ b _ _ (HB4.out.alloc _) rfl rfl (by first | kernel_rfl | (simp [Value.oneCell'])) _ _ _ _ rfl rfl rfl);intro w7 hw7;subst hw7)))
         have b4b:=below_alloc (Below.refl (w4.alloc (Obj.cells #[.int .i64 y.f0,.int .i64 y.f1,.int .i64 y.f2,.string y.f3,.slice b4 y.f4.length bc4,.slice b5 y.f5.length bc5,.int .i64 y.f6.f0,.string y.f6.f1,.int .i64 y.f6.f2,.slice b9 y.f6.f3.length bc9] 27)).heap.size _) (Obj.cells #[.int .i64 x.f0,.int .i64 x.f1,.int .i64 x.f2,.string x.f3,.slice a4 x.f4.length ac4,.slice a5 x.f5.length ac5,.int .i64 x.f6.f0,.string x.f6.f1,.int .i64 x.f6.f2,.slice a9 x.f6.f3.length ac9,.int .i64 y.f0,.int .i64 y.f1,.int .i64 y.f2,.string y.f3,.slice b4 y.f4.length bc4,.slice b5 y.f5.length bc5,.int .i64 y.f6.f0,.string y.f6.f1,.int .i64 y.f6.f2,.slice b9 y.f6.f3.length bc9] 27)
         obtain ⟨A4,c4,HP4⟩:=(hp4.below b4a).below b4b
         obtain ⟨A3,c3,HP3⟩:=hp3.below b3a
         have HB5:=HB4.out.alloc (Obj.cells #[.int .i64 x.f0,.int .i64 x.f1,.int .i64 x.f2,.string x.f3,.slice a4 x.f4.length ac4,.slice a5 x.f5.length ac5,.int .i64 x.f6.f0,.string x.f6.f1,.int .i64 x.f6.f2,.slice a9 x.f6.f3.length ac9,.int .i64 y.f0,.int .i64 y.f1,.int .i64 y.f2,.string y.f3,.slice b4 y.f4.length bc4,.slice b5 y.f5.length bc5,.int .i64 y.f6.f0,.string y.f6.f1,.int .i64 y.f6.f2,.slice b9 y.f6.f3.length bc9] 27)
         have HPS5:PS (((w4.alloc (Obj.cells #[.int .i64 y.f0,.int .i64 y.f1,.int .i64 y.f2,.string y.f3,.slice b4 y.f4.length bc4,.slice b5 y.f5.length bc5,.int .i64 y.f6.f0,.string y.f6.f1,.int .i64 y.f6.f2,.slice b9 y.f6.f3.length bc9] 27)).alloc (Obj.cells #[.int .i64 x.f0,.int .i64 x.f1,.int .i64 x.f2,.string x.f3,.slice a4 x.f4.length ac4,.slice a5 x.f5.length ac5,.int .i64 x.f6.f0,.string x.f6.f1,.int .i64 x.f6.f2,.slice a9 x.f6.f3.length ac9,.int .i64 y.f0,.int .i64 y.f1,.int .i64 y.f2,.string y.f3,.slice b4 y.f4.length bc4,.slice b5 y.f5.length bc5,.int .i64 y.f6.f0,.string y.f6.f1,.int .i64 y.f6.f2,.slice b9 y.f6.f3.length bc9] 27)).setRow b #[.int .i64 9,.int .i64 t.f2,.int .i64 0,.string t.f1,.slice (some ⟨w4.heap.size + 1,0,none⟩) 2 2,.slice none 0 0,.int .i64 0,.string ⟨#[]⟩,.int .i64 0,.slice none 0 0]) g l2 e:=⟨A4,c4,has_row_other HP4.has (HP4.has.ne HB5 (by decide)),HP4.le,C_row HP4.toks (HP4.row.ne HB5 (by decide)) _,HP4.row.of fun ad ea=>row_block _ _ _ _ (HP4.row.ne HB5 (by decide) ad ea)⟩
         refine (RKA.out g e l2 _ HPS5).mono ?_
         rintro en w6 ⟨rfl,hb6⟩
         have hlt3:b < (w3.alloc (Obj.cells #[.int .i64 t.f0,.string t.f1,.int .i64 t.f2] 35)).heap.size:=by have q1:=HBX.out.lt;have q2:=hk3.size;simp;omega
         have hrb:=HCL.out.lt
         have hrg:r0 ≠ g:=HCL.out.hr.ne HP2.out.has (by decide)
         have VX:VO (fun k=>k ≠ b) (r0 + 1) (w4.alloc (Obj.cells #[.int .i64 y.f0,.int .i64 y.f1,.int .i64 y.f2,.string y.f3,.slice b4 y.f4.length bc4,.slice b5 y.f5.length bc5,.int .i64 y.f6.f0,.string y.f6.f1,.int .i64 y.f6.f2,.slice b9 y.f6.f3.length bc9] 27)) (.agg #[.int .i64 x.f0,.int .i64 x.f1,.int .i64 x.f2,.string x.f3,.slice a4 x.f4.length ac4,.slice a5 x.f5.length ac5,.int .i64 x.f6.f0,.string x.f6.f1,.int .i64 x.f6.f2,.slice a9 x.f6.f3.length ac9]) x:=(((HCL.out.vo.kept HP2.out.has hk3).below b3a).kept HP3.has hk4).below b4a
         have VY:VO (fun k=>k ≠ b) (r0 + 1) (w4.alloc (Obj.cells #[.int .i64 y.f0,.int .i64 y.f1,.int .i64 y.f2,.string y.f3,.slice b4 y.f4.length bc4,.slice b5 y.f5.length bc5,.int .i64 y.f6.f0,.string y.f6.f1,.int .i64 y.f6.f2,.slice b9 y.f6.f3.length bc9] 27)) (.agg #[.int .i64 y.f0,.int .i64 y.f1,.int .i64 y.f2,.string y.f3,.slice b4 y.f4.length bc4,.slice b5 y.f5.length bc5,.int .i64 y.f6.f0,.string y.f6.f1,.int .i64 y.f6.f2,.slice b9 y.f6.f3.length bc9]) y:=((hv4.bound.mono (ok':=fun k=>k ≠ b) fun k hk=>by have:=hk.2.1;omega).below b4a).lower (by omega)
         obtain ⟨MX,lX⟩:=VO.lit (cs:=[.int .i64 x.f0,.int .i64 x.f1,.int .i64 x.f2,.string x.f3,.slice a4 x.f4.length ac4,.slice a5 x.f5.length ac5,.int .i64 x.f6.f0,.string x.f6.f1,.int .i64 x.f6.f2,.slice a9 x.f6.f3.length ac9]) VX
         obtain ⟨MY,lY⟩:=VO.lit (cs:=[.int .i64 y.f0,.int .i64 y.f1,.int .i64 y.f2,.string y.f3,.slice b4 y.f4.length bc4,.slice b5 y.f5.length bc5,.int .i64 y.f6.f0,.string y.f6.f1,.int .i64 y.f6.f2,.slice b9 y.f6.f3.length bc9]) VY
         have hs4:(w4.alloc (Obj.cells #[.int .i64 y.f0,.int .i64 y.f1,.int .i64 y.f2,.string y.f3,.slice b4 y.f4.length bc4,.slice b5 y.f5.length bc5,.int .i64 y.f6.f0,.string y.f6.f1,.int .i64 y.f6.f2,.slice b9 y.f6.f3.length bc9] 27)).heap.size = w4.heap.size + 1:=by simp
         have hbl:=HB4.out.lt
         have hR:=kids_lit (ok:=fun k=>k ≠ b) (w4.alloc (Obj.cells #[.int .i64 y.f0,.int .i64 y.f1,.int .i64 y.f2,.string y.f3,.slice b4 y.f4.length bc4,.slice b5 y.f5.length bc5,.int .i64 y.f6.f0,.string y.f6.f1,.int .i64 y.f6.f2,.slice b9 y.f6.f3.length bc9] 27)) (r0 + 1) (by omega) (by omega) (xs:=[x,y]) (reps_two MX lX MY lY) (by simp)
         rw [hs4] at hR
         have VN:=(VO.node 9 t.f2 0 t.f1 hR).rowO (g:=b) (fun k hk _=>hk) #[.int .i64 9,.int .i64 t.f2,.int .i64 0,.string t.f1,.slice (some ⟨w4.heap.size + 1,0,none⟩) 2 2,.slice none 0 0,.int .i64 0,.string ⟨#[]⟩,.int .i64 0,.slice none 0 0]
         have HR4:=((Kept.has hk4 ((Kept.has hk3 HCL.out.hr hrg).belowS b3a) hrg).belowS b4a).alloc (Obj.cells #[.int .i64 x.f0,.int .i64 x.f1,.int .i64 x.f2,.string x.f3,.slice a4 x.f4.length ac4,.slice a5 x.f5.length ac5,.int .i64 x.f6.f0,.string x.f6.f1,.int .i64 x.f6.f2,.slice a9 x.f6.f3.length ac9,.int .i64 y.f0,.int .i64 y.f1,.int .i64 y.f2,.string y.f3,.slice b4 y.f4.length bc4,.slice b5 y.f5.length bc5,.int .i64 y.f6.f0,.string y.f6.f1,.int .i64 y.f6.f2,.slice b9 y.f6.f3.length bc9] 27)
         have HCN:CL g r0 b e w w6 (mkE 9 t.f2 0 t.f1 [x,y] []) (.agg #[.int .i64 9,.int .i64 t.f2,.int .i64 0,.string t.f1,.slice (some ⟨w4.heap.size + 1,0,none⟩) 2 2,.slice none 0 0,.int .i64 0,.string ⟨#[]⟩,.int .i64 0,.slice none 0 0]) l2:=⟨VN.below hb6,⟨_,rfl,(has_row HB5 #[.int .i64 9,.int .i64 t.f2,.int .i64 0,.string t.f1,.slice (some ⟨w4.heap.size + 1,0,none⟩) 2 2,.slice none 0 0,.int .i64 0,.string ⟨#[]⟩,.int .i64 0,.slice none 0 0]).belowS hb6⟩,(has_row_other HR4 (by omega)).belowS hb6,HPS5.below hb6,(kept_row (((((HCL.out.kp.then_ hk3).below b3a).then_ hk4).below b4a).below b4b) (by rw [HR0.out];omega) _).below hb6,hrb⟩
         have HCN:=am HCN
         clear VN hR VX VY MX MY lX lY HR4 HPS5 HB5 HP4 HP3 hs4 hbl b4b b4a hv4 hp4 hk4 hk3 hp3 b3a hb6 hlt3
         go_wp2
         go_roundg m
         case measure=>omega
         case rel=>exact ⟨k,rankP l2,rfl,rfl,by omega,⟨⟨_,_,l2,rfl,HRR.out,HCN.out⟩⟩⟩
       ·have e1:(k == 3) = false:=by simp [hk3]
        clear hk3 hb3
        cases hr2:climbP e m d op (k + 1) r with
        | out=>rw [hr2] at hL;exact absurd hL.symm HNE.out
        | bad a er =>
         rw [hr2] at hL
         have HRR:=am (show PR.bad a er = R from hL)
         have HR2:=am hr2
         have HNO:=am (show climbP e m d op (k + 1) r ≠ .out by rw [hr2];exact PR.bad_ne _ _)
         clear hL hr2
         go_wp2_with (first | (go_at_call 54;(with_reducible refine (next_said g t r e A2 c2 _ HP2.out).mono ?_);rintro en w3 ⟨rfl,hk3,hp3⟩;have b3a:=below_alloc (Below.refl w3.heap.size w3) (Obj.cells #[.int .i64 t.f0,.string t.f1,.int .i64 t.f2] 35)) | (go_at_call 28;(with_reducible refine (HM.out g e d op (k + 1) r _ h0 h1 (by omega) (by omega) (hp3.below b3a) HNO.out).mono ?_);rintro en w4 ⟨hk4,hq4⟩;rw [HR2.out] at hq4;subst hq4))
         rw [<- HRR.out]
         exact ⟨rfl,((HCL.out.kp.then_ hk3).below b3a).then_ hk4,rfl⟩
        | ok y l2 =>
         rw [hr2] at hL
         have HRR:=am (show climbL e m d op least (mkE 9 t.f2 0 t.f1 [x,y] []) k l2 = R from hL)
         have HR2:=am hr2
         have HNO:=am (show climbP e m d op (k + 1) r ≠ .out by rw [hr2];exact PR.ok_ne _ _)
         clear hL hr2
         go_wp2_with (first | (go_at_call 54;(with_reducible refine (next_said g t r e A2 c2 _ HP2.out).mono ?_);rintro en w3 ⟨rfl,hk3,hp3⟩;have b3a:=below_alloc (Below.refl w3.heap.size w3) (Obj.cells #[.int .i64 t.f0,.string t.f1,.int .i64 t.f2] 35)) | (go_at_call 28;(with_reducible refine (HM.out g e d op (k + 1) r _ h0 h1 (by omega) (by omega) (hp3.below b3a) HNO.out).mono ?_);rintro en w4 ⟨hk4,hq4⟩;rw [HR2.out] at hq4;obtain ⟨v4,rfl,hv4,hp4⟩:=hq4;obtain ⟨b4,bc4,b5,bc5,b9,bc9,rfl⟩:=hv4.form;have b4a:=below_alloc (Below.refl w4.heap.size w4) (Obj.cells #[.int .i64 y.f0,.int .i64 y.f1,.int .i64 y.f2,.string y.f3,.slice b4 y.f4.length bc4,.slice b5 y.f5.length bc5,.int .i64 y.f6.f0,.string y.f6.f1,.int .i64 y.f6.f2,.slice b9 y.f6.f3.length bc9] 27);have HB3:=(Kept.has hk3 HBX.out hbg).belowS b3a;have HB4:=am ((Kept.has hk4 HB3 hbg).belowS b4a);have HK4:=(Kept.has hk4 (Has.new w3 #[.int .i64 t.f0,.string t.f1,.int .i64 t.f2] 35) (fun h=>HTG.out w3 hk3 h)).belowS b4a;have HY4:=am (Has.new w4 #[.int .i64 y.f0,.int .i64 y.f1,.int .i64 y.f2,.string y.f3,.slice b4 y.f4.length bc4,.slice b5 y.f5.length bc5,.int .i64 y.f6.f0,.string y.f6.f1,.int .i64 y.f6.f2,.slice b9 y.f6.f3.length bc9] 27);have k1:=HK4.cell 1;have k2:=HK4.cell 2;simp only [List.getElem?_toArray,List.getElem?_cons_zero,List.getElem?_cons_succ] at k1 k2) | ((with_reducible refine gate_dst (N:=45) rfl ?_);go_must (refine Kd.event_run rfl (load27 (w4.alloc (Obj.cells #[.int .i64 y.f0,.int .i64 y.f1,.int .i64 y.f2,.string y.f3,.slice b4 y.f4.length bc4,.slice b5 y.f5.length bc5,.int .i64 y.f6.f0,.string y.f6.f1,.int .i64 y.f6.f2,.slice b9 y.f6.f3.length bc9] 27)) b #[.int .i64 x.f0,.int .i64 x.f1,.int .i64 x.f2,.string x.f3,.slice a4 x.f4.length ac4,.slice a5 x.f5.length ac5,.int .i64 x.f6.f0,.string x.f6.f1,.int .i64 x.f6.f2,.slice a9 x.f6.f3.length ac9] HB4.out rfl _ _ _ rfl rfl) ?_)) | ((with_reducible refine gate_dst (N:=46) rfl ?_);go_must (refine Kd.event_run rfl (load27 (w4.alloc (Obj.cells #[.int .i64 y.f0,.int .i64 y.f1,.int .i64 y.f2,.string y.f3,.slice b4 y.f4.length bc4,.slice b5 y.f5.length bc5,.int .i64 y.f6.f0,.string y.f6.f1,.int .i64 y.f6.f2,.slice b9 y.f6.f3.length bc9] 27)) w4.heap.size #[.int .i64 y.f0,.int .i64 y.f1,.int .i64 y.f2,.string y.f3,.slice b4 y.f4.length bc4,.slice b5 y.f5.length bc5,.int .i64 y.f6.f0,.string y.f6.f1,.int .i64 y.f6.f2,.slice b9 y.f6.f3.length bc9] HY4.out rfl _ _ _ rfl rfl) ?_)) | ((with_reducible refine gate_store (t:=27) (p:=9) rfl ?_);go_must (refine store_event (t:=27) (p:=9) (v:=.tmp 48) (w1:=((w4.alloc (Obj.cells #[.int .i64 y.f0,.int .i64 y.f1,.int .i64 y.f2,.string y.f3,.slice b4 y.f4.length bc4,.slice b5 y.f5.length bc5,.int .i64 y.f6.f0,.string y.f6.f1,.int .i64 y.f6.f2,.slice b9 y.f6.f3.length bc9] 27)).alloc (Obj.cells #[.int .i64 x.f0,.int .i64 x.f1,.int .i64 x.f2,.string x.f3,.slice a4 x.f4.length ac4,.slice a5 x.f5.length ac5,.int .i64 x.f6.f0,.string x.f6.f1,.int .i64 x.f6.f2,.slice a9 x.f6.f3.length ac9,.int .i64 y.f0,.int .i64 y.f1,.int .i64 y.f2,.string y.f3,.slice b4 y.f4.length bc4,.slice b5 y.f5.length bc5,.int .i64 y.f6.f0,.string y.f6.f1,.int .i64 y.f6.f2,.slice b9 y.f6.f3.length bc9] 27)).setRow b #[.int .i64 9,.int .i64 t.f2,.int .i64 0,.string t.f1,.slice (some ⟨w4.heap.size + 1,0,none⟩) 2 2,.slice none 0 0,.int .i64 0,.string ⟨#[]⟩,.int .i64 0,.slice none 0 0]) ?hg ?ho ?hn ?hr ?_;(case ho=>rfl);(case hg=>rfl);(case hn=>rfl);(case hr=>exact store27 _ b _ _ (HB4.out.alloc _) rfl rfl (by first | kernel_rfl | (simp [Value.oneCell'])) _ _ _ _ rfl rfl rfl);intro w7 hw7;subst hw7)))
         have b4b:=below_alloc (Below.refl (w4.alloc (Obj.cells #[.int .i64 y.f0,.int .i64 y.f1,.int .i64 y.f2,.string y.f3,.slice b4 y.f4.length bc4,.slice b5 y.f5.length bc5,.int .i64 y.f6.f0,.string y.f6.f1,.int .i64 y.f6.f2,.slice b9 y.f6.f3.length bc9] 27)).heap.size _) (Obj.cells #[.int .i64 x.f0,.int .i64 x.f1,.int .i64 x.f2,.string x.f3,.slice a4 x.f4.length ac4,.slice a5 x.f5.length ac5,.int .i64 x.f6.f0,.string x.f6.f1,.int .i64 x.f6.f2,.slice a9 x.f6.f3.length ac9,.int .i64 y.f0,.int .i64 y.f1,.int .i64 y.f2,.string y.f3,.slice b4 y.f4.length bc4,.slice b5 y.f5.length bc5,.int .i64 y.f6.f0,.string y.f6.f1,.int .i64 y.f6.f2,.slice b9 y.f6.f3.length bc9] 27)
         obtain ⟨A4,c4,HP4⟩:=(hp4.below b4a).below b4b
         obtain ⟨A3,c3,HP3⟩:=hp3.below b3a
         have HB5:=HB4.out.alloc (Obj.cells #[.int .i64 x.f0,.int .i64 x.f1,.int .i64 x.f2,.string x.f3,.slice a4 x.f4.length ac4,.slice a5 x.f5.length ac5,.int .i64 x.f6.f0,.string x.f6.f1,.int .i64 x.f6.f2,.slice a9 x.f6.f3.length ac9,.int .i64 y.f0,.int .i64 y.f1,.int .i64 y.f2,.string y.f3,.slice b4 y.f4.length bc4,.slice b5 y.f5.length bc5,.int .i64 y.f6.f0,.string y.f6.f1,.int .i64 y.f6.f2,.slice b9 y.f6.f3.length bc9] 27)
         have HPS5:PS (((w4.alloc (Obj.cells #[.int .i64 y.f0,.int .i64 y.f1,.int .i64 y.f2,.string y.f3,.slice b4 y.f4.length bc4,.slice b5 y.f5.length bc5,.int .i64 y.f6.f0,.string y.f6.f1,.int .i64 y.f6.f2,.slice b9 y.f6.f3.length bc9] 27)).alloc (Obj.cells #[.int .i64 x.f0,.int .i64 x.f1,.int .i64 x.f2,.string x.f3,.slice a4 x.f4.length ac4,.slice a5 x.f5.length ac5,.int .i64 x.f6.f0,.string x.f6.f1,.int .i64 x.f6.f2,.slice a9 x.f6.f3.length ac9,.int .i64 y.f0,.int .i64 y.f1,.int .i64 y.f2,.string y.f3,.slice b4 y.f4.length bc4,.slice b5 y.f5.length bc5,.int .i64 y.f6.f0,.string y.f6.f1,.int .i64 y.f6.f2,.slice b9 y.f6.f3.length bc9] 27)).setRow b #[.int .i64 9,.int .i64 t.f2,.int .i64 0,.string t.f1,.slice (some ⟨w4.heap.size + 1,0,none⟩) 2 2,.slice none 0 0,.int .i64 0,.string ⟨#[]⟩,.int .i64 0,.slice none 0 0]) g l2 e:=⟨A4,c4,has_row_other HP4.has (HP4.has.ne HB5 (by decide)),HP4.le,C_row HP4.toks (HP4.row.ne HB5 (by decide)) _,HP4.row.of fun ad ea=>row_block _ _ _ _ (HP4.row.ne HB5 (by decide) ad ea)⟩
         refine (RKA.out g e l2 _ HPS5).mono ?_
         rintro en w6 ⟨rfl,hb6⟩
         have hlt3:b < (w3.alloc (Obj.cells #[.int .i64 t.f0,.string t.f1,.int .i64 t.f2] 35)).heap.size:=by have q1:=HBX.out.lt;have q2:=hk3.size;simp;omega
         have hrb:=HCL.out.lt
         have hrg:r0 ≠ g:=HCL.out.hr.ne HP2.out.has (by decide)
         have VX:VO (fun k=>k ≠ b) (r0 + 1) (w4.alloc (Obj.cells #[.int .i64 y.f0,.int .i64 y.f1,.int .i64 y.f2,.string y.f3,.slice b4 y.f4.length bc4,.slice b5 y.f5.length bc5,.int .i64 y.f6.f0,.string y.f6.f1,.int .i64 y.f6.f2,.slice b9 y.f6.f3.length bc9] 27)) (.agg #[.int .i64 x.f0,.int .i64 x.f1,.int .i64 x.f2,.string x.f3,.slice a4 x.f4.length ac4,.slice a5 x.f5.length ac5,.int .i64 x.f6.f0,.string x.f6.f1,.int .i64 x.f6.f2,.slice a9 x.f6.f3.length ac9]) x:=(((HCL.out.vo.kept HP2.out.has hk3).below b3a).kept HP3.has hk4).below b4a
         have VY:VO (fun k=>k ≠ b) (r0 + 1) (w4.alloc (Obj.cells #[.int .i64 y.f0,.int .i64 y.f1,.int .i64 y.f2,.string y.f3,.slice b4 y.f4.length bc4,.slice b5 y.f5.length bc5,.int .i64 y.f6.f0,.string y.f6.f1,.int .i64 y.f6.f2,.slice b9 y.f6.f3.length bc9] 27)) (.agg #[.int .i64 y.f0,.int .i64 y.f1,.int .i64 y.f2,.string y.f3,.slice b4 y.f4.length bc4,.slice b5 y.f5.length bc5,.int .i64 y.f6.f0,.string y.f6.f1,.int .i64 y.f6.f2,.slice b9 y.f6.f3.length bc9]) y:=((hv4.bound.mono (ok':=fun k=>k ≠ b) fun k hk=>by have:=hk.2.1;omega).below b4a).lower (by omega)
         obtain ⟨MX,lX⟩:=VO.lit (cs:=[.int .i64 x.f0,.int .i64 x.f1,.int .i64 x.f2,.string x.f3,.slice a4 x.f4.length ac4,.slice a5 x.f5.length ac5,.int .i64 x.f6.f0,.string x.f6.f1,.int .i64 x.f6.f2,.slice a9 x.f6.f3.length ac9]) VX
         obtain ⟨MY,lY⟩:=VO.lit (cs:=[.int .i64 y.f0,.int .i64 y.f1,.int .i64 y.f2,.string y.f3,.slice b4 y.f4.length bc4,.slice b5 y.f5.length bc5,.int .i64 y.f6.f0,.string y.f6.f1,.int .i64 y.f6.f2,.slice b9 y.f6.f3.length bc9]) VY
         have hs4:(w4.alloc (Obj.cells #[.int .i64 y.f0,.int .i64 y.f1,.int .i64 y.f2,.string y.f3,.slice b4 y.f4.length bc4,.slice b5 y.f5.length bc5,.int .i64 y.f6.f0,.string y.f6.f1,.int .i64 y.f6.f2,.slice b9 y.f6.f3.length bc9] 27)).heap.size = w4.heap.size + 1:=by simp
         have hbl:=HB4.out.lt
         have hR:=kids_lit (ok:=fun k=>k ≠ b) (w4.alloc (Obj.cells #[.int .i64 y.f0,.int .i64 y.f1,.int .i64 y.f2,.string y.f3,.slice b4 y.f4.length bc4,.slice b5 y.f5.length bc5,.int .i64 y.f6.f0,.string y.f6.f1,.int .i64 y.f6.f2,.slice b9 y.f6.f3.length bc9] 27)) (r0 + 1) (by omega) (by omega) (xs:=[x,y]) (reps_two MX lX MY lY) (by simp)
         rw [hs4] at hR
         have VN:=(VO.node 9 t.f2 0 t.f1 hR).rowO (g:=b) (fun k hk _=>hk) #[.int .i64 9,.int .i64 t.f2,.int .i64 0,.string t.f1,.slice (some ⟨w4.heap.size + 1,0,none⟩) 2 2,.slice none 0 0,.int .i64 0,.string ⟨#[]⟩,.int .i64 0,.slice none 0 0]
         have HR4:=((Kept.has hk4 ((Kept.has hk3 HCL.out.hr hrg).belowS b3a) hrg).belowS b4a).alloc (Obj.cells #[.int .i64 x.f0,.int .i64 x.f1,.int .i64 x.f2,.string x.f3,.slice a4 x.f4.length ac4,.slice a5 x.f5.length ac5,.int .i64 x.f6.f0,.string x.f6.f1,.int .i64 x.f6.f2,.slice a9 x.f6.f3.length ac9,.int .i64 y.f0,.int .i64 y.f1,.int .i64 y.f2,.string y.f3,.slice b4 y.f4.length bc4,.slice b5 y.f5.length bc5,.int .i64 y.f6.f0,.string y.f6.f1,.int .i64 y.f6.f2,.slice b9 y.f6.f3.length bc9] 27)
         have HCN:CL g r0 b e w w6 (mkE 9 t.f2 0 t.f1 [x,y] []) (.agg #[.int .i64 9,.int .i64 t.f2,.int .i64 0,.string t.f1,.slice (some ⟨w4.heap.size + 1,0,none⟩) 2 2,.slice none 0 0,.int .i64 0,.string ⟨#[]⟩,.int .i64 0,.slice none 0 0]) l2:=⟨VN.below hb6,⟨_,rfl,(has_row HB5 #[.int .i64 9,.int .i64 t.f2,.int .i64 0,.string t.f1,.slice (some ⟨w4.heap.size + 1,0,none⟩) 2 2,.slice none 0 0,.int .i64 0,.string ⟨#[]⟩,.int .i64 0,.slice none 0 0]).belowS hb6⟩,(has_row_other HR4 (by omega)).belowS hb6,HPS5.below hb6,(kept_row (((((HCL.out.kp.then_ hk3).below b3a).then_ hk4).below b4a).below b4b) (by rw [HR0.out];omega) _).below hb6,hrb⟩
         have HCN:=am HCN
         clear VN hR VX VY MX MY lX lY HR4 HPS5 HB5 HP4 HP3 hs4 hbl b4b b4a hv4 hp4 hk4 hk3 hp3 b3a hb6 hlt3
         go_wp2
         go_roundg m
         case measure=>omega
         case rel=>exact ⟨k,rankP l2,rfl,rfl,by omega,⟨⟨_,_,l2,rfl,HRR.out,HCN.out⟩⟩⟩
    ·have d1:decide (k >= least) = false:=decide_eq_false hge
     rw [if_neg hge] at hL
     have HRR:=am hL
     clear hL
     go_wp2_with (first | ((with_reducible refine gate_dst (N:=50) rfl ?_);go_must (refine Kd.event_run rfl (load27 wr b #[.int .i64 x.f0,.int .i64 x.f1,.int .i64 x.f2,.string x.f3,.slice a4 x.f4.length ac4,.slice a5 x.f5.length ac5,.int .i64 x.f6.f0,.string x.f6.f1,.int .i64 x.f6.f2,.slice a9 x.f6.f3.length ac9] HBX.out rfl _ _ _ rfl rfl) ?_)) | ((with_reducible refine gate_store (t:=27) (p:=8) rfl ?_);go_must (refine store_event (t:=27) (p:=8) (v:=.tmp 50) (w1:=wr.setRow r0 #[.int .i64 x.f0,.int .i64 x.f1,.int .i64 x.f2,.string x.f3,.slice a4 x.f4.length ac4,.slice a5 x.f5.length ac5,.int .i64 x.f6.f0,.string x.f6.f1,.int .i64 x.f6.f2,.slice a9 x.f6.f3.length ac9]) ?hg ?ho ?hn ?hr ?_;(case ho=>rfl);(case hg=>rfl);(case hn=>rfl);(case hr=>exact store27 wr _ _ _ HCL.out.hr rfl rfl (by first | kernel_rfl | (simp [Value.oneCell'])) _ _ _ _ rfl rfl rfl);intro w7 hw7;subst hw7)))
     have HR7:=has_row HCL.out.hr #[.int .i64 x.f0,.int .i64 x.f1,.int .i64 x.f2,.string x.f3,.slice a4 x.f4.length ac4,.slice a5 x.f5.length ac5,.int .i64 x.f6.f0,.string x.f6.f1,.int .i64 x.f6.f2,.slice a9 x.f6.f3.length ac9]
     obtain ⟨A2,c2,HP2⟩:=HCL.out.ps
     have hrn:=HP2.row.ne HCL.out.hr (by decide)
     have hgr:g ≠ r0:=HP2.has.ne HCL.out.hr (by decide)
     have HV7:VE r0 (wr.setRow r0 #[.int .i64 x.f0,.int .i64 x.f1,.int .i64 x.f2,.string x.f3,.slice a4 x.f4.length ac4,.slice a5 x.f5.length ac5,.int .i64 x.f6.f0,.string x.f6.f1,.int .i64 x.f6.f2,.slice a9 x.f6.f3.length ac9]) (.agg #[.int .i64 x.f0,.int .i64 x.f1,.int .i64 x.f2,.string x.f3,.slice a4 x.f4.length ac4,.slice a5 x.f5.length ac5,.int .i64 x.f6.f0,.string x.f6.f1,.int .i64 x.f6.f2,.slice a9 x.f6.f3.length ac9]) x:=((HCL.out.vo.mono (ok':=Any) fun _ _=>trivial).row (Nat.lt_succ_self _) _).lower (Nat.le_succ _)
     refine bodyPost_ret (results_cell_row rfl _ _ r0 27 #[.int .i64 x.f0,.int .i64 x.f1,.int .i64 x.f2,.string x.f3,.slice a4 x.f4.length ac4,.slice a5 x.f5.length ac5,.int .i64 x.f6.f0,.string x.f6.f1,.int .i64 x.f6.f2,.slice a9 x.f6.f3.length ac9] (0,0) _ rfl HR7 Tryd.underlying27 rfl (by rfl)) rfl ?_
     rw [<- HRR.out]
     exact ⟨kept_row HCL.out.kp (by rw [HR0.out];exact Nat.le_refl _) _,_,rfl,HR0.out.symm ▸ HV7,A2,c2,has_row_other HP2.has hgr,HP2.le,C_row HP2.toks hrn _,HP2.row.of fun ad ea=>row_block _ _ _ _ (hrn ad ea)⟩
end Go.Proofs.YtngpgdmafmkddaaDoor.Par
end
