/- Steps toward the laws of the parser (B), merged from several texts (some of them began as the kit's print). No condition. -/
import Derived.Maps.OwnOps
import Derived.OrdersHeld
import Derived.StillTail
import Derived.Deep.RegionHeld
import Derived.Orders
import Derived.Still
import Derived.Deep.Draws
import Derived.Below
import Derived.Shelf.Small.Strs
import Derived.Shelf.Strings.Search1
import Derived.Shelf.Strings.Fields
import Derived.Shelf.LaysM
import Derived.Shelf.Strings.SplitShaped
import Derived.Test.YtngpgdmafmkddaaDoorProg
import Derived.Lib.AppendIntMem
import Derived.Test.YtngpgdmafmkddaaDoorZB1
section
namespace Go.Proofs.YtngpgdmafmkddaaDoor.Par
open Go.RowKit Go.Proofs.YtngpgdmafmkddaaDoorW.PrintWords Go.Proofs.YtngpgdmafmkddaaDoorW.PrintLast Go.Proofs.YtngpgdmafmkddaaDoorW.PrintMore
open Go.Proofs.YtngpgdmafmkddaaDoor.PParseBlanks (S35 S25 S27 k35 k25 k27 rd_T35 rd_T25 rd_T27 at_T35 at_T25 at_T27)
set_option linter.unusedVariables false
set_option linter.unusedSimpArgs false
open Go.Maps Go.WideMaps
abbrev rkRows:List (List (List UInt8)):=[[[124,124]],[[38,38]],[[61,61],[33,61],[60],[60,61],[62],[62,61]],[[124]],[[94]],[[38]],[[60,60],[62,62]],[[43],[45]],[[42],[47],[37]]]
def rkPrs (i j:Nat):List (List UInt8 × Int):=((rkRows.take i).zipIdx.flatMap fun p=>p.1.map fun s=>(s,(p.2:Int) + 1)) ++ ((rkRows.getD i []).take j).map fun s=>(s,(i:Int) + 1)
noncomputable def rkD (l:List (List UInt8 × Int)):DataW Unit:=l.foldl (fun D p=>D.put (.string p.1) (.lit (.int .i64 p.2))) (.map [])
theorem Has.grown {w w' : World} {b m:Nat} {cs:Array Value} {t:TypeId} (h:Has w b cs t) (hg:w.grownBy w' (some m)) (hn:b ≠ m):Has w' b cs t:=h.of_block (hg.block b h.lt fun e=>hn (Option.some.inj e))
def RkRows (w:World) (b:Nat):Prop:=Has w (b + 1) #[.string ⟨#[124,124]⟩] 9 /\ Has w (b + 2) #[.string ⟨#[38,38]⟩] 9 /\ Has w (b + 3) #[.string ⟨#[61,61]⟩,.string ⟨#[33,61]⟩,.string ⟨#[60]⟩,.string ⟨#[60,61]⟩,.string ⟨#[62]⟩,.string ⟨#[62,61]⟩] 9 /\ Has w (b + 4) #[.string ⟨#[124]⟩] 9 /\ Has w (b + 5) #[.string ⟨#[94]⟩] 9 /\ Has w (b + 6) #[.string ⟨#[38]⟩] 9 /\ Has w (b + 7) #[.string ⟨#[60,60]⟩,.string ⟨#[62,62]⟩] 9 /\ Has w (b + 8) #[.string ⟨#[43]⟩,.string ⟨#[45]⟩] 9 /\ Has w (b + 9) #[.string ⟨#[42]⟩,.string ⟨#[47]⟩,.string ⟨#[37]⟩] 9
theorem RkRows.grown {w w' : World} {b:Nat} (h:RkRows w b) (hg:w.grownBy w' (some b)):RkRows w' b:=
 ⟨h.1.grown hg (by omega),h.2.1.grown hg (by omega),h.2.2.1.grown hg (by omega),h.2.2.2.1.grown hg (by omega),h.2.2.2.2.1.grown hg (by omega),h.2.2.2.2.2.1.grown hg (by omega),h.2.2.2.2.2.2.1.grown hg (by omega),h.2.2.2.2.2.2.2.1.grown hg (by omega),h.2.2.2.2.2.2.2.2.grown hg (by omega)⟩
theorem idx117_0 (s0 s1 s2 s3 s4 s5 s6 s7 s8:Value) (w:World):(Instr.index 117 (.agg #[s0,s1,s2,s3,s4,s5,s6,s7,s8]) (.int .i64 0)).run Tryd.prog w = .ok s0 w:=by kernel_rfl
theorem idx117_1 (s0 s1 s2 s3 s4 s5 s6 s7 s8:Value) (w:World):(Instr.index 117 (.agg #[s0,s1,s2,s3,s4,s5,s6,s7,s8]) (.int .i64 1)).run Tryd.prog w = .ok s1 w:=by kernel_rfl
theorem idx117_2 (s0 s1 s2 s3 s4 s5 s6 s7 s8:Value) (w:World):(Instr.index 117 (.agg #[s0,s1,s2,s3,s4,s5,s6,s7,s8]) (.int .i64 2)).run Tryd.prog w = .ok s2 w:=by kernel_rfl
theorem idx117_3 (s0 s1 s2 s3 s4 s5 s6 s7 s8:Value) (w:World):(Instr.index 117 (.agg #[s0,s1,s2,s3,s4,s5,s6,s7,s8]) (.int .i64 3)).run Tryd.prog w = .ok s3 w:=by kernel_rfl
theorem idx117_4 (s0 s1 s2 s3 s4 s5 s6 s7 s8:Value) (w:World):(Instr.index 117 (.agg #[s0,s1,s2,s3,s4,s5,s6,s7,s8]) (.int .i64 4)).run Tryd.prog w = .ok s4 w:=by kernel_rfl
theorem idx117_5 (s0 s1 s2 s3 s4 s5 s6 s7 s8:Value) (w:World):(Instr.index 117 (.agg #[s0,s1,s2,s3,s4,s5,s6,s7,s8]) (.int .i64 5)).run Tryd.prog w = .ok s5 w:=by kernel_rfl
theorem idx117_6 (s0 s1 s2 s3 s4 s5 s6 s7 s8:Value) (w:World):(Instr.index 117 (.agg #[s0,s1,s2,s3,s4,s5,s6,s7,s8]) (.int .i64 6)).run Tryd.prog w = .ok s6 w:=by kernel_rfl
theorem idx117_7 (s0 s1 s2 s3 s4 s5 s6 s7 s8:Value) (w:World):(Instr.index 117 (.agg #[s0,s1,s2,s3,s4,s5,s6,s7,s8]) (.int .i64 7)).run Tryd.prog w = .ok s7 w:=by kernel_rfl
theorem idx117_8 (s0 s1 s2 s3 s4 s5 s6 s7 s8:Value) (w:World):(Instr.index 117 (.agg #[s0,s1,s2,s3,s4,s5,s6,s7,s8]) (.int .i64 8)).run Tryd.prog w = .ok s8 w:=by kernel_rfl
theorem RkRows.made (w:World):RkRows ((((((((((w.alloc (Obj.map #[] 0)).alloc (Obj.cells #[.string ⟨#[124,124]⟩] 9)).alloc (Obj.cells #[.string ⟨#[38,38]⟩] 9)).alloc (Obj.cells #[.string ⟨#[61,61]⟩,.string ⟨#[33,61]⟩,.string ⟨#[60]⟩,.string ⟨#[60,61]⟩,.string ⟨#[62]⟩,.string ⟨#[62,61]⟩] 9)).alloc (Obj.cells #[.string ⟨#[124]⟩] 9)).alloc (Obj.cells #[.string ⟨#[94]⟩] 9)).alloc (Obj.cells #[.string ⟨#[38]⟩] 9)).alloc (Obj.cells #[.string ⟨#[60,60]⟩,.string ⟨#[62,62]⟩] 9)).alloc (Obj.cells #[.string ⟨#[43]⟩,.string ⟨#[45]⟩] 9)).alloc (Obj.cells #[.string ⟨#[42]⟩,.string ⟨#[47]⟩,.string ⟨#[37]⟩] 9)) w.heap.size:=by
 simp only [RkRows]
 refine ⟨?_, ?_, ?_, ?_, ?_, ?_, ?_, ?_, ?_⟩
 ·have h:=Has.new (w.alloc (Obj.map #[] 0)) #[.string ⟨#[124,124]⟩] 9
  have hs:((w.alloc (Obj.map #[] 0))).heap.size = w.heap.size + 1:=by simp
  rw [hs] at h
  exact ((((((((h.alloc _).alloc _).alloc _).alloc _).alloc _).alloc _).alloc _).alloc _)
 ·have h:=Has.new ((w.alloc (Obj.map #[] 0)).alloc (Obj.cells #[.string ⟨#[124,124]⟩] 9)) #[.string ⟨#[38,38]⟩] 9
  have hs:(((w.alloc (Obj.map #[] 0)).alloc (Obj.cells #[.string ⟨#[124,124]⟩] 9))).heap.size = w.heap.size + 2:=by simp
  rw [hs] at h
  exact (((((((h.alloc _).alloc _).alloc _).alloc _).alloc _).alloc _).alloc _)
 ·have h:=Has.new (((w.alloc (Obj.map #[] 0)).alloc (Obj.cells #[.string ⟨#[124,124]⟩] 9)).alloc (Obj.cells #[.string ⟨#[38,38]⟩] 9)) #[.string ⟨#[61,61]⟩,.string ⟨#[33,61]⟩,.string ⟨#[60]⟩,.string ⟨#[60,61]⟩,.string ⟨#[62]⟩,.string ⟨#[62,61]⟩] 9
  have hs:((((w.alloc (Obj.map #[] 0)).alloc (Obj.cells #[.string ⟨#[124,124]⟩] 9)).alloc (Obj.cells #[.string ⟨#[38,38]⟩] 9))).heap.size = w.heap.size + 3:=by simp
  rw [hs] at h
  exact ((((((h.alloc _).alloc _).alloc _).alloc _).alloc _).alloc _)
 ·have h:=Has.new ((((w.alloc (Obj.map #[] 0)).alloc (Obj.cells #[.string ⟨#[124,124]⟩] 9)).alloc (Obj.cells #[.string ⟨#[38,38]⟩] 9)).alloc (Obj.cells #[.string ⟨#[61,61]⟩,.string ⟨#[33,61]⟩,.string ⟨#[60]⟩,.string ⟨#[60,61]⟩,.string ⟨#[62]⟩,.string ⟨#[62,61]⟩] 9)) #[.string ⟨#[124]⟩] 9
  have hs:(((((w.alloc (Obj.map #[] 0)).alloc (Obj.cells #[.string ⟨#[124,124]⟩] 9)).alloc (Obj.cells #[.string ⟨#[38,38]⟩] 9)).alloc (Obj.cells #[.string ⟨#[61,61]⟩,.string ⟨#[33,61]⟩,.string ⟨#[60]⟩,.string ⟨#[60,61]⟩,.string ⟨#[62]⟩,.string ⟨#[62,61]⟩] 9))).heap.size = w.heap.size + 4:=by simp
  rw [hs] at h
  exact (((((h.alloc _).alloc _).alloc _).alloc _).alloc _)
 ·have h:=Has.new (((((w.alloc (Obj.map #[] 0)).alloc (Obj.cells #[.string ⟨#[124,124]⟩] 9)).alloc (Obj.cells #[.string ⟨#[38,38]⟩] 9)).alloc (Obj.cells #[.string ⟨#[61,61]⟩,.string ⟨#[33,61]⟩,.string ⟨#[60]⟩,.string ⟨#[60,61]⟩,.string ⟨#[62]⟩,.string ⟨#[62,61]⟩] 9)).alloc (Obj.cells #[.string ⟨#[124]⟩] 9)) #[.string ⟨#[94]⟩] 9
  have hs:((((((w.alloc (Obj.map #[] 0)).alloc (Obj.cells #[.string ⟨#[124,124]⟩] 9)).alloc (Obj.cells #[.string ⟨#[38,38]⟩] 9)).alloc (Obj.cells #[.string ⟨#[61,61]⟩,.string ⟨#[33,61]⟩,.string ⟨#[60]⟩,.string ⟨#[60,61]⟩,.string ⟨#[62]⟩,.string ⟨#[62,61]⟩] 9)).alloc (Obj.cells #[.string ⟨#[124]⟩] 9))).heap.size = w.heap.size + 5:=by simp
  rw [hs] at h
  exact ((((h.alloc _).alloc _).alloc _).alloc _)
 ·have h:=Has.new ((((((w.alloc (Obj.map #[] 0)).alloc (Obj.cells #[.string ⟨#[124,124]⟩] 9)).alloc (Obj.cells #[.string ⟨#[38,38]⟩] 9)).alloc (Obj.cells #[.string ⟨#[61,61]⟩,.string ⟨#[33,61]⟩,.string ⟨#[60]⟩,.string ⟨#[60,61]⟩,.string ⟨#[62]⟩,.string ⟨#[62,61]⟩] 9)).alloc (Obj.cells #[.string ⟨#[124]⟩] 9)).alloc (Obj.cells #[.string ⟨#[94]⟩] 9)) #[.string ⟨#[38]⟩] 9
  have hs:(((((((w.alloc (Obj.map #[] 0)).alloc (Obj.cells #[.string ⟨#[124,124]⟩] 9)).alloc (Obj.cells #[.string ⟨#[38,38]⟩] 9)).alloc (Obj.cells #[.string ⟨#[61,61]⟩,.string ⟨#[33,61]⟩,.string ⟨#[60]⟩,.string ⟨#[60,61]⟩,.string ⟨#[62]⟩,.string ⟨#[62,61]⟩] 9)).alloc (Obj.cells #[.string ⟨#[124]⟩] 9)).alloc (Obj.cells #[.string ⟨#[94]⟩] 9))).heap.size = w.heap.size + 6:=by simp
  rw [hs] at h
  exact (((h.alloc _).alloc _).alloc _)
 ·have h:=Has.new (((((((w.alloc (Obj.map #[] 0)).alloc (Obj.cells #[.string ⟨#[124,124]⟩] 9)).alloc (Obj.cells #[.string ⟨#[38,38]⟩] 9)).alloc (Obj.cells #[.string ⟨#[61,61]⟩,.string ⟨#[33,61]⟩,.string ⟨#[60]⟩,.string ⟨#[60,61]⟩,.string ⟨#[62]⟩,.string ⟨#[62,61]⟩] 9)).alloc (Obj.cells #[.string ⟨#[124]⟩] 9)).alloc (Obj.cells #[.string ⟨#[94]⟩] 9)).alloc (Obj.cells #[.string ⟨#[38]⟩] 9)) #[.string ⟨#[60,60]⟩,.string ⟨#[62,62]⟩] 9
  have hs:((((((((w.alloc (Obj.map #[] 0)).alloc (Obj.cells #[.string ⟨#[124,124]⟩] 9)).alloc (Obj.cells #[.string ⟨#[38,38]⟩] 9)).alloc (Obj.cells #[.string ⟨#[61,61]⟩,.string ⟨#[33,61]⟩,.string ⟨#[60]⟩,.string ⟨#[60,61]⟩,.string ⟨#[62]⟩,.string ⟨#[62,61]⟩] 9)).alloc (Obj.cells #[.string ⟨#[124]⟩] 9)).alloc (Obj.cells #[.string ⟨#[94]⟩] 9)).alloc (Obj.cells #[.string ⟨#[38]⟩] 9))).heap.size = w.heap.size + 7:=by simp
  rw [hs] at h
  exact ((h.alloc _).alloc _)
 ·have h:=Has.new ((((((((w.alloc (Obj.map #[] 0)).alloc (Obj.cells #[.string ⟨#[124,124]⟩] 9)).alloc (Obj.cells #[.string ⟨#[38,38]⟩] 9)).alloc (Obj.cells #[.string ⟨#[61,61]⟩,.string ⟨#[33,61]⟩,.string ⟨#[60]⟩,.string ⟨#[60,61]⟩,.string ⟨#[62]⟩,.string ⟨#[62,61]⟩] 9)).alloc (Obj.cells #[.string ⟨#[124]⟩] 9)).alloc (Obj.cells #[.string ⟨#[94]⟩] 9)).alloc (Obj.cells #[.string ⟨#[38]⟩] 9)).alloc (Obj.cells #[.string ⟨#[60,60]⟩,.string ⟨#[62,62]⟩] 9)) #[.string ⟨#[43]⟩,.string ⟨#[45]⟩] 9
  have hs:(((((((((w.alloc (Obj.map #[] 0)).alloc (Obj.cells #[.string ⟨#[124,124]⟩] 9)).alloc (Obj.cells #[.string ⟨#[38,38]⟩] 9)).alloc (Obj.cells #[.string ⟨#[61,61]⟩,.string ⟨#[33,61]⟩,.string ⟨#[60]⟩,.string ⟨#[60,61]⟩,.string ⟨#[62]⟩,.string ⟨#[62,61]⟩] 9)).alloc (Obj.cells #[.string ⟨#[124]⟩] 9)).alloc (Obj.cells #[.string ⟨#[94]⟩] 9)).alloc (Obj.cells #[.string ⟨#[38]⟩] 9)).alloc (Obj.cells #[.string ⟨#[60,60]⟩,.string ⟨#[62,62]⟩] 9))).heap.size = w.heap.size + 8:=by simp
  rw [hs] at h
  exact (h.alloc _)
 ·have h:=Has.new (((((((((w.alloc (Obj.map #[] 0)).alloc (Obj.cells #[.string ⟨#[124,124]⟩] 9)).alloc (Obj.cells #[.string ⟨#[38,38]⟩] 9)).alloc (Obj.cells #[.string ⟨#[61,61]⟩,.string ⟨#[33,61]⟩,.string ⟨#[60]⟩,.string ⟨#[60,61]⟩,.string ⟨#[62]⟩,.string ⟨#[62,61]⟩] 9)).alloc (Obj.cells #[.string ⟨#[124]⟩] 9)).alloc (Obj.cells #[.string ⟨#[94]⟩] 9)).alloc (Obj.cells #[.string ⟨#[38]⟩] 9)).alloc (Obj.cells #[.string ⟨#[60,60]⟩,.string ⟨#[62,62]⟩] 9)).alloc (Obj.cells #[.string ⟨#[43]⟩,.string ⟨#[45]⟩] 9)) #[.string ⟨#[42]⟩,.string ⟨#[47]⟩,.string ⟨#[37]⟩] 9
  have hs:((((((((((w.alloc (Obj.map #[] 0)).alloc (Obj.cells #[.string ⟨#[124,124]⟩] 9)).alloc (Obj.cells #[.string ⟨#[38,38]⟩] 9)).alloc (Obj.cells #[.string ⟨#[61,61]⟩,.string ⟨#[33,61]⟩,.string ⟨#[60]⟩,.string ⟨#[60,61]⟩,.string ⟨#[62]⟩,.string ⟨#[62,61]⟩] 9)).alloc (Obj.cells #[.string ⟨#[124]⟩] 9)).alloc (Obj.cells #[.string ⟨#[94]⟩] 9)).alloc (Obj.cells #[.string ⟨#[38]⟩] 9)).alloc (Obj.cells #[.string ⟨#[60,60]⟩,.string ⟨#[62,62]⟩] 9)).alloc (Obj.cells #[.string ⟨#[43]⟩,.string ⟨#[45]⟩] 9))).heap.size = w.heap.size + 9:=by simp
  rw [hs] at h
  exact h
set_option maxRecDepth 100000 in
set_option maxHeartbeats 4000000 in
theorem ranks_said (w:World) :
  Calls Tryd.prog 71 #[] w fun e w' => ∃ b,e = .returned (.map (some b)) /\ w'.ownsMap Tryd.prog 9 E3 b 18 (rkD (rkPrs 9 0)) /\ Below w.heap.size w w':=by
 have hmm := @run_makeMap Tryd.prog
 have HM0:Aside0 (World.ownsMap ((((((((((w.alloc (Obj.map #[] 0)).alloc (Obj.cells #[.string ⟨#[124,124]⟩] 9)).alloc (Obj.cells #[.string ⟨#[38,38]⟩] 9)).alloc (Obj.cells #[.string ⟨#[61,61]⟩,.string ⟨#[33,61]⟩,.string ⟨#[60]⟩,.string ⟨#[60,61]⟩,.string ⟨#[62]⟩,.string ⟨#[62,61]⟩] 9)).alloc (Obj.cells #[.string ⟨#[124]⟩] 9)).alloc (Obj.cells #[.string ⟨#[94]⟩] 9)).alloc (Obj.cells #[.string ⟨#[38]⟩] 9)).alloc (Obj.cells #[.string ⟨#[60,60]⟩,.string ⟨#[62,62]⟩] 9)).alloc (Obj.cells #[.string ⟨#[43]⟩,.string ⟨#[45]⟩] 9)).alloc (Obj.cells #[.string ⟨#[42]⟩,.string ⟨#[47]⟩,.string ⟨#[37]⟩] 9)) Tryd.prog 9 E3 w.heap.size 0 (rkD (rkPrs 0 0))):=⟨(World.ownsMap.alloc (World.ownsMap.alloc (World.ownsMap.alloc (World.ownsMap.alloc (World.ownsMap.alloc (World.ownsMap.alloc (World.ownsMap.alloc (World.ownsMap.alloc (World.ownsMap.alloc (World.ownsMap_made w Tryd.prog 9 E3) _) _) _) _) _) _) _) _) _)⟩
 have HR0:=am (RkRows.made w)
 have HB0:Aside0 (Below w.heap.size w ((((((((((w.alloc (Obj.map #[] 0)).alloc (Obj.cells #[.string ⟨#[124,124]⟩] 9)).alloc (Obj.cells #[.string ⟨#[38,38]⟩] 9)).alloc (Obj.cells #[.string ⟨#[61,61]⟩,.string ⟨#[33,61]⟩,.string ⟨#[60]⟩,.string ⟨#[60,61]⟩,.string ⟨#[62]⟩,.string ⟨#[62,61]⟩] 9)).alloc (Obj.cells #[.string ⟨#[124]⟩] 9)).alloc (Obj.cells #[.string ⟨#[94]⟩] 9)).alloc (Obj.cells #[.string ⟨#[38]⟩] 9)).alloc (Obj.cells #[.string ⟨#[60,60]⟩,.string ⟨#[62,62]⟩] 9)).alloc (Obj.cells #[.string ⟨#[43]⟩,.string ⟨#[45]⟩] 9)).alloc (Obj.cells #[.string ⟨#[42]⟩,.string ⟨#[47]⟩,.string ⟨#[37]⟩] 9))):=⟨below_alloc (below_alloc (below_alloc (below_alloc (below_alloc (below_alloc (below_alloc (below_alloc (below_alloc (below_alloc (Below.refl _ _) _) _) _) _) _) _) _) _) _) _⟩
 have HS0:Aside0 (w.heap.size + 9 < (((((((((((w.alloc (Obj.map #[] 0)).alloc (Obj.cells #[.string ⟨#[124,124]⟩] 9)).alloc (Obj.cells #[.string ⟨#[38,38]⟩] 9)).alloc (Obj.cells #[.string ⟨#[61,61]⟩,.string ⟨#[33,61]⟩,.string ⟨#[60]⟩,.string ⟨#[60,61]⟩,.string ⟨#[62]⟩,.string ⟨#[62,61]⟩] 9)).alloc (Obj.cells #[.string ⟨#[124]⟩] 9)).alloc (Obj.cells #[.string ⟨#[94]⟩] 9)).alloc (Obj.cells #[.string ⟨#[38]⟩] 9)).alloc (Obj.cells #[.string ⟨#[60,60]⟩,.string ⟨#[62,62]⟩] 9)).alloc (Obj.cells #[.string ⟨#[43]⟩,.string ⟨#[45]⟩] 9)).alloc (Obj.cells #[.string ⟨#[42]⟩,.string ⟨#[47]⟩,.string ⟨#[37]⟩] 9))).heap.size):=⟨by simp⟩
 go_enter Tryd.func71,Tryd.ntmps71
 go_wp2
 obtain ⟨W,hW⟩:∃ W,((((((((((w.alloc (Obj.map #[] 0)).alloc (Obj.cells #[.string ⟨#[124,124]⟩] 9)).alloc (Obj.cells #[.string ⟨#[38,38]⟩] 9)).alloc (Obj.cells #[.string ⟨#[61,61]⟩,.string ⟨#[33,61]⟩,.string ⟨#[60]⟩,.string ⟨#[60,61]⟩,.string ⟨#[62]⟩,.string ⟨#[62,61]⟩] 9)).alloc (Obj.cells #[.string ⟨#[124]⟩] 9)).alloc (Obj.cells #[.string ⟨#[94]⟩] 9)).alloc (Obj.cells #[.string ⟨#[38]⟩] 9)).alloc (Obj.cells #[.string ⟨#[60,60]⟩,.string ⟨#[62,62]⟩] 9)).alloc (Obj.cells #[.string ⟨#[43]⟩,.string ⟨#[45]⟩] 9)).alloc (Obj.cells #[.string ⟨#[42]⟩,.string ⟨#[47]⟩,.string ⟨#[37]⟩] 9)) = W:=⟨_,rfl⟩
 rw [hW] at HM0 HR0 HB0 HS0
 try rw [hW]
 go_loopw [17] (fun v wr => ∃ i:Int,v = .int .i64 i /\ 0 <= i /\ i <= 9 /\ Aside0 (wr.ownsMap Tryd.prog 9 E3 w.heap.size (rkPrs i.toNat 0).length (rkD (rkPrs i.toNat 0))) /\ Aside0 (RkRows wr w.heap.size) /\ Aside0 (Below w.heap.size w wr) /\ Aside0 (w.heap.size + 9 < wr.heap.size)) (fun v _=>9 - (intOf v).toNat)
 case atStart=>exact ⟨0,rfl,by omega,by omega,HM0,HR0,HB0,HS0⟩
 case round =>
  clear HM0 HR0 HB0 HS0
  obtain ⟨i,rfl,hi0,hi1,HM,HR,HB,HS⟩:=hrel
  rcases (by omega:i = 0 \/ i = 1 \/ i = 2 \/ i = 3 \/ i = 4 \/ i = 5 \/ i = 6 \/ i = 7 \/ i = 8 \/ i = 9) with rfl | rfl | rfl | rfl | rfl | rfl | rfl | rfl | rfl | rfl
  ·have hx:=idx117_0
   go_wp2
   clear hx
   go_loopw [23] (fun v wr2 => ∃ j:Int,v = .int .i64 j /\ 0 <= j /\ j <= 1 /\ Aside0 (wr2.ownsMap Tryd.prog 9 E3 w.heap.size (rkPrs 0 j.toNat).length (rkD (rkPrs 0 j.toNat))) /\ Aside0 (RkRows wr2 w.heap.size) /\ Aside0 (Below w.heap.size w wr2) /\ Aside0 (w.heap.size + 9 < wr2.heap.size)) (fun v _=>1 - (intOf v).toNat)
   case atStart=>exact ⟨0,rfl,by omega,by omega,HM,HR,HB,HS⟩
   case round =>
    clear HM HR HB HS
    obtain ⟨j,rfl,hj0,hj1,HM,HR,HB,HS⟩:=hrel
    rcases (by omega:j = 0 \/ j = 1) with rfl | rfl
    ·have hc:Has wr (w.heap.size + 1) #[.string ⟨#[124,124]⟩] 9:=HR.out.1
     have c0:=hci hc 0 rfl
     clear hc
     go_wp2_with ((with_reducible refine wpList_mapUpdate_own _ rfl (.tmp 27) (.tmp 28) (.tmp 30) 101 rfl 9 3 law9 Tryd.underlying101 E3 w.heap.size _ _ rfl HM.out (by decide) (.string ⟨#[124,124]⟩) (.int .i64 1) _ rfl rfl (keyOf_string_mk Tryd.underlying9 (by decide)) (.lit (.int .i64 1)) [] (plainElem_int Tryd.underlying3 (by decide)) ?_);intro w3 h3 b3)
     exact ⟨⟨1,rfl,by omega,by omega,⟨h3⟩,⟨HR.out.grown b3⟩,⟨pw_below_grown HB.out _ HB.out.size b3 (by rintro k ⟨⟩;exact Nat.le_refl _)⟩,⟨Nat.lt_of_lt_of_le HS.out b3.size⟩⟩,by simp [intOf]⟩
    ·go_wp2
     exact ⟨⟨1,rfl,by omega,by omega,HM,HR,HB,HS⟩,by simp [intOf]⟩
  ·have hx:=idx117_1
   go_wp2
   clear hx
   go_loopw [23] (fun v wr2 => ∃ j:Int,v = .int .i64 j /\ 0 <= j /\ j <= 1 /\ Aside0 (wr2.ownsMap Tryd.prog 9 E3 w.heap.size (rkPrs 1 j.toNat).length (rkD (rkPrs 1 j.toNat))) /\ Aside0 (RkRows wr2 w.heap.size) /\ Aside0 (Below w.heap.size w wr2) /\ Aside0 (w.heap.size + 9 < wr2.heap.size)) (fun v _=>1 - (intOf v).toNat)
   case atStart=>exact ⟨0,rfl,by omega,by omega,HM,HR,HB,HS⟩
   case round =>
    clear HM HR HB HS
    obtain ⟨j,rfl,hj0,hj1,HM,HR,HB,HS⟩:=hrel
    rcases (by omega:j = 0 \/ j = 1) with rfl | rfl
    ·have hc:Has wr (w.heap.size + 1 + 1) #[.string ⟨#[38,38]⟩] 9:=HR.out.2.1
     have c0:=hci hc 0 rfl
     clear hc
     go_wp2_with ((with_reducible refine wpList_mapUpdate_own _ rfl (.tmp 27) (.tmp 28) (.tmp 30) 101 rfl 9 3 law9 Tryd.underlying101 E3 w.heap.size _ _ rfl HM.out (by decide) (.string ⟨#[38,38]⟩) (.int .i64 2) _ rfl rfl (keyOf_string_mk Tryd.underlying9 (by decide)) (.lit (.int .i64 2)) [] (plainElem_int Tryd.underlying3 (by decide)) ?_);intro w3 h3 b3)
     exact ⟨⟨1,rfl,by omega,by omega,⟨h3⟩,⟨HR.out.grown b3⟩,⟨pw_below_grown HB.out _ HB.out.size b3 (by rintro k ⟨⟩;exact Nat.le_refl _)⟩,⟨Nat.lt_of_lt_of_le HS.out b3.size⟩⟩,by simp [intOf]⟩
    ·go_wp2
     exact ⟨⟨2,rfl,by omega,by omega,HM,HR,HB,HS⟩,by simp [intOf]⟩
  ·have hx:=idx117_2
   go_wp2
   clear hx
   go_loopw [23] (fun v wr2 => ∃ j:Int,v = .int .i64 j /\ 0 <= j /\ j <= 6 /\ Aside0 (wr2.ownsMap Tryd.prog 9 E3 w.heap.size (rkPrs 2 j.toNat).length (rkD (rkPrs 2 j.toNat))) /\ Aside0 (RkRows wr2 w.heap.size) /\ Aside0 (Below w.heap.size w wr2) /\ Aside0 (w.heap.size + 9 < wr2.heap.size)) (fun v _=>6 - (intOf v).toNat)
   case atStart=>exact ⟨0,rfl,by omega,by omega,HM,HR,HB,HS⟩
   case round =>
    clear HM HR HB HS
    obtain ⟨j,rfl,hj0,hj1,HM,HR,HB,HS⟩:=hrel
    rcases (by omega:j = 0 \/ j = 1 \/ j = 2 \/ j = 3 \/ j = 4 \/ j = 5 \/ j = 6) with rfl | rfl | rfl | rfl | rfl | rfl | rfl
    ·have hc:Has wr (w.heap.size + 1 + 1 + 1) #[.string ⟨#[61,61]⟩,.string ⟨#[33,61]⟩,.string ⟨#[60]⟩,.string ⟨#[60,61]⟩,.string ⟨#[62]⟩,.string ⟨#[62,61]⟩] 9:=HR.out.2.2.1
     have c0:=hci hc 0 rfl
     clear hc
     go_wp2_with ((with_reducible refine wpList_mapUpdate_own _ rfl (.tmp 27) (.tmp 28) (.tmp 30) 101 rfl 9 3 law9 Tryd.underlying101 E3 w.heap.size _ _ rfl HM.out (by decide) (.string ⟨#[61,61]⟩) (.int .i64 3) _ rfl rfl (keyOf_string_mk Tryd.underlying9 (by decide)) (.lit (.int .i64 3)) [] (plainElem_int Tryd.underlying3 (by decide)) ?_);intro w3 h3 b3)
     exact ⟨⟨1,rfl,by omega,by omega,⟨h3⟩,⟨HR.out.grown b3⟩,⟨pw_below_grown HB.out _ HB.out.size b3 (by rintro k ⟨⟩;exact Nat.le_refl _)⟩,⟨Nat.lt_of_lt_of_le HS.out b3.size⟩⟩,by simp [intOf]⟩
    ·have hc:Has wr (w.heap.size + 1 + 1 + 1) #[.string ⟨#[61,61]⟩,.string ⟨#[33,61]⟩,.string ⟨#[60]⟩,.string ⟨#[60,61]⟩,.string ⟨#[62]⟩,.string ⟨#[62,61]⟩] 9:=HR.out.2.2.1
     have c0:=hci hc 1 rfl
     clear hc
     go_wp2_with ((with_reducible refine wpList_mapUpdate_own _ rfl (.tmp 27) (.tmp 28) (.tmp 30) 101 rfl 9 3 law9 Tryd.underlying101 E3 w.heap.size _ _ rfl HM.out (by decide) (.string ⟨#[33,61]⟩) (.int .i64 3) _ rfl rfl (keyOf_string_mk Tryd.underlying9 (by decide)) (.lit (.int .i64 3)) [] (plainElem_int Tryd.underlying3 (by decide)) ?_);intro w3 h3 b3)
     exact ⟨⟨2,rfl,by omega,by omega,⟨h3⟩,⟨HR.out.grown b3⟩,⟨pw_below_grown HB.out _ HB.out.size b3 (by rintro k ⟨⟩;exact Nat.le_refl _)⟩,⟨Nat.lt_of_lt_of_le HS.out b3.size⟩⟩,by simp [intOf]⟩
    ·have hc:Has wr (w.heap.size + 1 + 1 + 1) #[.string ⟨#[61,61]⟩,.string ⟨#[33,61]⟩,.string ⟨#[60]⟩,.string ⟨#[60,61]⟩,.string ⟨#[62]⟩,.string ⟨#[62,61]⟩] 9:=HR.out.2.2.1
     have c0:=hci hc 2 rfl
     clear hc
     go_wp2_with ((with_reducible refine wpList_mapUpdate_own _ rfl (.tmp 27) (.tmp 28) (.tmp 30) 101 rfl 9 3 law9 Tryd.underlying101 E3 w.heap.size _ _ rfl HM.out (by decide) (.string ⟨#[60]⟩) (.int .i64 3) _ rfl rfl (keyOf_string_mk Tryd.underlying9 (by decide)) (.lit (.int .i64 3)) [] (plainElem_int Tryd.underlying3 (by decide)) ?_);intro w3 h3 b3)
     exact ⟨⟨3,rfl,by omega,by omega,⟨h3⟩,⟨HR.out.grown b3⟩,⟨pw_below_grown HB.out _ HB.out.size b3 (by rintro k ⟨⟩;exact Nat.le_refl _)⟩,⟨Nat.lt_of_lt_of_le HS.out b3.size⟩⟩,by simp [intOf]⟩
    ·have hc:Has wr (w.heap.size + 1 + 1 + 1) #[.string ⟨#[61,61]⟩,.string ⟨#[33,61]⟩,.string ⟨#[60]⟩,.string ⟨#[60,61]⟩,.string ⟨#[62]⟩,.string ⟨#[62,61]⟩] 9:=HR.out.2.2.1
     have c0:=hci hc 3 rfl
     clear hc
     go_wp2_with ((with_reducible refine wpList_mapUpdate_own _ rfl (.tmp 27) (.tmp 28) (.tmp 30) 101 rfl 9 3 law9 Tryd.underlying101 E3 w.heap.size _ _ rfl HM.out (by decide) (.string ⟨#[60,61]⟩) (.int .i64 3) _ rfl rfl (keyOf_string_mk Tryd.underlying9 (by decide)) (.lit (.int .i64 3)) [] (plainElem_int Tryd.underlying3 (by decide)) ?_);intro w3 h3 b3)
     exact ⟨⟨4,rfl,by omega,by omega,⟨h3⟩,⟨HR.out.grown b3⟩,⟨pw_below_grown HB.out _ HB.out.size b3 (by rintro k ⟨⟩;exact Nat.le_refl _)⟩,⟨Nat.lt_of_lt_of_le HS.out b3.size⟩⟩,by simp [intOf]⟩
    ·have hc:Has wr (w.heap.size + 1 + 1 + 1) #[.string ⟨#[61,61]⟩,.string ⟨#[33,61]⟩,.string ⟨#[60]⟩,.string ⟨#[60,61]⟩,.string ⟨#[62]⟩,.string ⟨#[62,61]⟩] 9:=HR.out.2.2.1
     have c0:=hci hc 4 rfl
     clear hc
     go_wp2_with ((with_reducible refine wpList_mapUpdate_own _ rfl (.tmp 27) (.tmp 28) (.tmp 30) 101 rfl 9 3 law9 Tryd.underlying101 E3 w.heap.size _ _ rfl HM.out (by decide) (.string ⟨#[62]⟩) (.int .i64 3) _ rfl rfl (keyOf_string_mk Tryd.underlying9 (by decide)) (.lit (.int .i64 3)) [] (plainElem_int Tryd.underlying3 (by decide)) ?_);intro w3 h3 b3)
     exact ⟨⟨5,rfl,by omega,by omega,⟨h3⟩,⟨HR.out.grown b3⟩,⟨pw_below_grown HB.out _ HB.out.size b3 (by rintro k ⟨⟩;exact Nat.le_refl _)⟩,⟨Nat.lt_of_lt_of_le HS.out b3.size⟩⟩,by simp [intOf]⟩
    ·have hc:Has wr (w.heap.size + 1 + 1 + 1) #[.string ⟨#[61,61]⟩,.string ⟨#[33,61]⟩,.string ⟨#[60]⟩,.string ⟨#[60,61]⟩,.string ⟨#[62]⟩,.string ⟨#[62,61]⟩] 9:=HR.out.2.2.1
     have c0:=hci hc 5 rfl
     clear hc
     go_wp2_with ((with_reducible refine wpList_mapUpdate_own _ rfl (.tmp 27) (.tmp 28) (.tmp 30) 101 rfl 9 3 law9 Tryd.underlying101 E3 w.heap.size _ _ rfl HM.out (by decide) (.string ⟨#[62,61]⟩) (.int .i64 3) _ rfl rfl (keyOf_string_mk Tryd.underlying9 (by decide)) (.lit (.int .i64 3)) [] (plainElem_int Tryd.underlying3 (by decide)) ?_);intro w3 h3 b3)
     exact ⟨⟨6,rfl,by omega,by omega,⟨h3⟩,⟨HR.out.grown b3⟩,⟨pw_below_grown HB.out _ HB.out.size b3 (by rintro k ⟨⟩;exact Nat.le_refl _)⟩,⟨Nat.lt_of_lt_of_le HS.out b3.size⟩⟩,by simp [intOf]⟩
    ·go_wp2
     exact ⟨⟨3,rfl,by omega,by omega,HM,HR,HB,HS⟩,by simp [intOf]⟩
  ·have hx:=idx117_3
   go_wp2
   clear hx
   go_loopw [23] (fun v wr2 => ∃ j:Int,v = .int .i64 j /\ 0 <= j /\ j <= 1 /\ Aside0 (wr2.ownsMap Tryd.prog 9 E3 w.heap.size (rkPrs 3 j.toNat).length (rkD (rkPrs 3 j.toNat))) /\ Aside0 (RkRows wr2 w.heap.size) /\ Aside0 (Below w.heap.size w wr2) /\ Aside0 (w.heap.size + 9 < wr2.heap.size)) (fun v _=>1 - (intOf v).toNat)
   case atStart=>exact ⟨0,rfl,by omega,by omega,HM,HR,HB,HS⟩
   case round =>
    clear HM HR HB HS
    obtain ⟨j,rfl,hj0,hj1,HM,HR,HB,HS⟩:=hrel
    rcases (by omega:j = 0 \/ j = 1) with rfl | rfl
    ·have hc:Has wr (w.heap.size + 1 + 1 + 1 + 1) #[.string ⟨#[124]⟩] 9:=HR.out.2.2.2.1
     have c0:=hci hc 0 rfl
     clear hc
     go_wp2_with ((with_reducible refine wpList_mapUpdate_own _ rfl (.tmp 27) (.tmp 28) (.tmp 30) 101 rfl 9 3 law9 Tryd.underlying101 E3 w.heap.size _ _ rfl HM.out (by decide) (.string ⟨#[124]⟩) (.int .i64 4) _ rfl rfl (keyOf_string_mk Tryd.underlying9 (by decide)) (.lit (.int .i64 4)) [] (plainElem_int Tryd.underlying3 (by decide)) ?_);intro w3 h3 b3)
     exact ⟨⟨1,rfl,by omega,by omega,⟨h3⟩,⟨HR.out.grown b3⟩,⟨pw_below_grown HB.out _ HB.out.size b3 (by rintro k ⟨⟩;exact Nat.le_refl _)⟩,⟨Nat.lt_of_lt_of_le HS.out b3.size⟩⟩,by simp [intOf]⟩
    ·go_wp2
     exact ⟨⟨4,rfl,by omega,by omega,HM,HR,HB,HS⟩,by simp [intOf]⟩
  ·have hx:=idx117_4
   go_wp2
   clear hx
   go_loopw [23] (fun v wr2 => ∃ j:Int,v = .int .i64 j /\ 0 <= j /\ j <= 1 /\ Aside0 (wr2.ownsMap Tryd.prog 9 E3 w.heap.size (rkPrs 4 j.toNat).length (rkD (rkPrs 4 j.toNat))) /\ Aside0 (RkRows wr2 w.heap.size) /\ Aside0 (Below w.heap.size w wr2) /\ Aside0 (w.heap.size + 9 < wr2.heap.size)) (fun v _=>1 - (intOf v).toNat)
   case atStart=>exact ⟨0,rfl,by omega,by omega,HM,HR,HB,HS⟩
   case round =>
    clear HM HR HB HS
    obtain ⟨j,rfl,hj0,hj1,HM,HR,HB,HS⟩:=hrel
    rcases (by omega:j = 0 \/ j = 1) with rfl | rfl
    ·have hc:Has wr (w.heap.size + 1 + 1 + 1 + 1 + 1) #[.string ⟨#[94]⟩] 9:=HR.out.2.2.2.2.1
     have c0:=hci hc 0 rfl
     clear hc
     go_wp2_with ((with_reducible refine wpList_mapUpdate_own _ rfl (.tmp 27) (.tmp 28) (.tmp 30) 101 rfl 9 3 law9 Tryd.underlying101 E3 w.heap.size _ _ rfl HM.out (by decide) (.string ⟨#[94]⟩) (.int .i64 5) _ rfl rfl (keyOf_string_mk Tryd.underlying9 (by decide)) (.lit (.int .i64 5)) [] (plainElem_int Tryd.underlying3 (by decide)) ?_);intro w3 h3 b3)
     exact ⟨⟨1,rfl,by omega,by omega,⟨h3⟩,⟨HR.out.grown b3⟩,⟨pw_below_grown HB.out _ HB.out.size b3 (by rintro k ⟨⟩;exact Nat.le_refl _)⟩,⟨Nat.lt_of_lt_of_le HS.out b3.size⟩⟩,by simp [intOf]⟩
    ·go_wp2
     exact ⟨⟨5,rfl,by omega,by omega,HM,HR,HB,HS⟩,by simp [intOf]⟩
  ·have hx:=idx117_5
   go_wp2
   clear hx
   go_loopw [23] (fun v wr2 => ∃ j:Int,v = .int .i64 j /\ 0 <= j /\ j <= 1 /\ Aside0 (wr2.ownsMap Tryd.prog 9 E3 w.heap.size (rkPrs 5 j.toNat).length (rkD (rkPrs 5 j.toNat))) /\ Aside0 (RkRows wr2 w.heap.size) /\ Aside0 (Below w.heap.size w wr2) /\ Aside0 (w.heap.size + 9 < wr2.heap.size)) (fun v _=>1 - (intOf v).toNat)
   case atStart=>exact ⟨0,rfl,by omega,by omega,HM,HR,HB,HS⟩
   case round =>
    clear HM HR HB HS
    obtain ⟨j,rfl,hj0,hj1,HM,HR,HB,HS⟩:=hrel
    rcases (by omega:j = 0 \/ j = 1) with rfl | rfl
    ·have hc:Has wr (w.heap.size + 1 + 1 + 1 + 1 + 1 + 1) #[.string ⟨#[38]⟩] 9:=HR.out.2.2.2.2.2.1
     have c0:=hci hc 0 rfl
     clear hc
     go_wp2_with ((with_reducible refine wpList_mapUpdate_own _ rfl (.tmp 27) (.tmp 28) (.tmp 30) 101 rfl 9 3 law9 Tryd.underlying101 E3 w.heap.size _ _ rfl HM.out (by decide) (.string ⟨#[38]⟩) (.int .i64 6) _ rfl rfl (keyOf_string_mk Tryd.underlying9 (by decide)) (.lit (.int .i64 6)) [] (plainElem_int Tryd.underlying3 (by decide)) ?_);intro w3 h3 b3)
     exact ⟨⟨1,rfl,by omega,by omega,⟨h3⟩,⟨HR.out.grown b3⟩,⟨pw_below_grown HB.out _ HB.out.size b3 (by rintro k ⟨⟩;exact Nat.le_refl _)⟩,⟨Nat.lt_of_lt_of_le HS.out b3.size⟩⟩,by simp [intOf]⟩
    ·go_wp2
     exact ⟨⟨6,rfl,by omega,by omega,HM,HR,HB,HS⟩,by simp [intOf]⟩
  ·have hx:=idx117_6
   go_wp2
   clear hx
   go_loopw [23] (fun v wr2 => ∃ j:Int,v = .int .i64 j /\ 0 <= j /\ j <= 2 /\ Aside0 (wr2.ownsMap Tryd.prog 9 E3 w.heap.size (rkPrs 6 j.toNat).length (rkD (rkPrs 6 j.toNat))) /\ Aside0 (RkRows wr2 w.heap.size) /\ Aside0 (Below w.heap.size w wr2) /\ Aside0 (w.heap.size + 9 < wr2.heap.size)) (fun v _=>2 - (intOf v).toNat)
   case atStart=>exact ⟨0,rfl,by omega,by omega,HM,HR,HB,HS⟩
   case round =>
    clear HM HR HB HS
    obtain ⟨j,rfl,hj0,hj1,HM,HR,HB,HS⟩:=hrel
    rcases (by omega:j = 0 \/ j = 1 \/ j = 2) with rfl | rfl | rfl
    ·have hc:Has wr (w.heap.size + 1 + 1 + 1 + 1 + 1 + 1 + 1) #[.string ⟨#[60,60]⟩,.string ⟨#[62,62]⟩] 9:=HR.out.2.2.2.2.2.2.1
     have c0:=hci hc 0 rfl
     clear hc
     go_wp2_with ((with_reducible refine wpList_mapUpdate_own _ rfl (.tmp 27) (.tmp 28) (.tmp 30) 101 rfl 9 3 law9 Tryd.underlying101 E3 w.heap.size _ _ rfl HM.out (by decide) (.string ⟨#[60,60]⟩) (.int .i64 7) _ rfl rfl (keyOf_string_mk Tryd.underlying9 (by decide)) (.lit (.int .i64 7)) [] (plainElem_int Tryd.underlying3 (by decide)) ?_);intro w3 h3 b3)
     exact ⟨⟨1,rfl,by omega,by omega,⟨h3⟩,⟨HR.out.grown b3⟩,⟨pw_below_grown HB.out _ HB.out.size b3 (by rintro k ⟨⟩;exact Nat.le_refl _)⟩,⟨Nat.lt_of_lt_of_le HS.out b3.size⟩⟩,by simp [intOf]⟩
    ·have hc:Has wr (w.heap.size + 1 + 1 + 1 + 1 + 1 + 1 + 1) #[.string ⟨#[60,60]⟩,.string ⟨#[62,62]⟩] 9:=HR.out.2.2.2.2.2.2.1
     have c0:=hci hc 1 rfl
     clear hc
     go_wp2_with ((with_reducible refine wpList_mapUpdate_own _ rfl (.tmp 27) (.tmp 28) (.tmp 30) 101 rfl 9 3 law9 Tryd.underlying101 E3 w.heap.size _ _ rfl HM.out (by decide) (.string ⟨#[62,62]⟩) (.int .i64 7) _ rfl rfl (keyOf_string_mk Tryd.underlying9 (by decide)) (.lit (.int .i64 7)) [] (plainElem_int Tryd.underlying3 (by decide)) ?_);intro w3 h3 b3)
     exact ⟨⟨2,rfl,by omega,by omega,⟨h3⟩,⟨HR.out.grown b3⟩,⟨pw_below_grown HB.out _ HB.out.size b3 (by rintro k ⟨⟩;exact Nat.le_refl _)⟩,⟨Nat.lt_of_lt_of_le HS.out b3.size⟩⟩,by simp [intOf]⟩
    ·go_wp2
     exact ⟨⟨7,rfl,by omega,by omega,HM,HR,HB,HS⟩,by simp [intOf]⟩
  ·have hx:=idx117_7
   go_wp2
   clear hx
   go_loopw [23] (fun v wr2 => ∃ j:Int,v = .int .i64 j /\ 0 <= j /\ j <= 2 /\ Aside0 (wr2.ownsMap Tryd.prog 9 E3 w.heap.size (rkPrs 7 j.toNat).length (rkD (rkPrs 7 j.toNat))) /\ Aside0 (RkRows wr2 w.heap.size) /\ Aside0 (Below w.heap.size w wr2) /\ Aside0 (w.heap.size + 9 < wr2.heap.size)) (fun v _=>2 - (intOf v).toNat)
   case atStart=>exact ⟨0,rfl,by omega,by omega,HM,HR,HB,HS⟩
   case round =>
    clear HM HR HB HS
    obtain ⟨j,rfl,hj0,hj1,HM,HR,HB,HS⟩:=hrel
    rcases (by omega:j = 0 \/ j = 1 \/ j = 2) with rfl | rfl | rfl
    ·have hc:Has wr (w.heap.size + 1 + 1 + 1 + 1 + 1 + 1 + 1 + 1) #[.string ⟨#[43]⟩,.string ⟨#[45]⟩] 9:=HR.out.2.2.2.2.2.2.2.1
     have c0:=hci hc 0 rfl
     clear hc
     go_wp2_with ((with_reducible refine wpList_mapUpdate_own _ rfl (.tmp 27) (.tmp 28) (.tmp 30) 101 rfl 9 3 law9 Tryd.underlying101 E3 w.heap.size _ _ rfl HM.out (by decide) (.string ⟨#[43]⟩) (.int .i64 8) _ rfl rfl (keyOf_string_mk Tryd.underlying9 (by decide)) (.lit (.int .i64 8)) [] (plainElem_int Tryd.underlying3 (by decide)) ?_);intro w3 h3 b3)
     exact ⟨⟨1,rfl,by omega,by omega,⟨h3⟩,⟨HR.out.grown b3⟩,⟨pw_below_grown HB.out _ HB.out.size b3 (by rintro k ⟨⟩;exact Nat.le_refl _)⟩,⟨Nat.lt_of_lt_of_le HS.out b3.size⟩⟩,by simp [intOf]⟩
    ·have hc:Has wr (w.heap.size + 1 + 1 + 1 + 1 + 1 + 1 + 1 + 1) #[.string ⟨#[43]⟩,.string ⟨#[45]⟩] 9:=HR.out.2.2.2.2.2.2.2.1
     have c0:=hci hc 1 rfl
     clear hc
     go_wp2_with ((with_reducible refine wpList_mapUpdate_own _ rfl (.tmp 27) (.tmp 28) (.tmp 30) 101 rfl 9 3 law9 Tryd.underlying101 E3 w.heap.size _ _ rfl HM.out (by decide) (.string ⟨#[45]⟩) (.int .i64 8) _ rfl rfl (keyOf_string_mk Tryd.underlying9 (by decide)) (.lit (.int .i64 8)) [] (plainElem_int Tryd.underlying3 (by decide)) ?_);intro w3 h3 b3)
     exact ⟨⟨2,rfl,by omega,by omega,⟨h3⟩,⟨HR.out.grown b3⟩,⟨pw_below_grown HB.out _ HB.out.size b3 (by rintro k ⟨⟩;exact Nat.le_refl _)⟩,⟨Nat.lt_of_lt_of_le HS.out b3.size⟩⟩,by simp [intOf]⟩
    ·go_wp2
     exact ⟨⟨8,rfl,by omega,by omega,HM,HR,HB,HS⟩,by simp [intOf]⟩
  ·have hx:=idx117_8
   go_wp2
   clear hx
   go_loopw [23] (fun v wr2 => ∃ j:Int,v = .int .i64 j /\ 0 <= j /\ j <= 3 /\ Aside0 (wr2.ownsMap Tryd.prog 9 E3 w.heap.size (rkPrs 8 j.toNat).length (rkD (rkPrs 8 j.toNat))) /\ Aside0 (RkRows wr2 w.heap.size) /\ Aside0 (Below w.heap.size w wr2) /\ Aside0 (w.heap.size + 9 < wr2.heap.size)) (fun v _=>3 - (intOf v).toNat)
   case atStart=>exact ⟨0,rfl,by omega,by omega,HM,HR,HB,HS⟩
   case round =>
    clear HM HR HB HS
    obtain ⟨j,rfl,hj0,hj1,HM,HR,HB,HS⟩:=hrel
    rcases (by omega:j = 0 \/ j = 1 \/ j = 2 \/ j = 3) with rfl | rfl | rfl | rfl
    ·have hc:Has wr (w.heap.size + 1 + 1 + 1 + 1 + 1 + 1 + 1 + 1 + 1) #[.string ⟨#[42]⟩,.string ⟨#[47]⟩,.string ⟨#[37]⟩] 9:=HR.out.2.2.2.2.2.2.2.2
     have c0:=hci hc 0 rfl
     clear hc
     go_wp2_with ((with_reducible refine wpList_mapUpdate_own _ rfl (.tmp 27) (.tmp 28) (.tmp 30) 101 rfl 9 3 law9 Tryd.underlying101 E3 w.heap.size _ _ rfl HM.out (by decide) (.string ⟨#[42]⟩) (.int .i64 9) _ rfl rfl (keyOf_string_mk Tryd.underlying9 (by decide)) (.lit (.int .i64 9)) [] (plainElem_int Tryd.underlying3 (by decide)) ?_);intro w3 h3 b3)
     exact ⟨⟨1,rfl,by omega,by omega,⟨h3⟩,⟨HR.out.grown b3⟩,⟨pw_below_grown HB.out _ HB.out.size b3 (by rintro k ⟨⟩;exact Nat.le_refl _)⟩,⟨Nat.lt_of_lt_of_le HS.out b3.size⟩⟩,by simp [intOf]⟩
    ·have hc:Has wr (w.heap.size + 1 + 1 + 1 + 1 + 1 + 1 + 1 + 1 + 1) #[.string ⟨#[42]⟩,.string ⟨#[47]⟩,.string ⟨#[37]⟩] 9:=HR.out.2.2.2.2.2.2.2.2
     have c0:=hci hc 1 rfl
     clear hc
     go_wp2_with ((with_reducible refine wpList_mapUpdate_own _ rfl (.tmp 27) (.tmp 28) (.tmp 30) 101 rfl 9 3 law9 Tryd.underlying101 E3 w.heap.size _ _ rfl HM.out (by decide) (.string ⟨#[47]⟩) (.int .i64 9) _ rfl rfl (keyOf_string_mk Tryd.underlying9 (by decide)) (.lit (.int .i64 9)) [] (plainElem_int Tryd.underlying3 (by decide)) ?_);intro w3 h3 b3)
     exact ⟨⟨2,rfl,by omega,by omega,⟨h3⟩,⟨HR.out.grown b3⟩,⟨pw_below_grown HB.out _ HB.out.size b3 (by rintro k ⟨⟩;exact Nat.le_refl _)⟩,⟨Nat.lt_of_lt_of_le HS.out b3.size⟩⟩,by simp [intOf]⟩
    ·have hc:Has wr (w.heap.size + 1 + 1 + 1 + 1 + 1 + 1 + 1 + 1 + 1) #[.string ⟨#[42]⟩,.string ⟨#[47]⟩,.string ⟨#[37]⟩] 9:=HR.out.2.2.2.2.2.2.2.2
     have c0:=hci hc 2 rfl
     clear hc
     go_wp2_with ((with_reducible refine wpList_mapUpdate_own _ rfl (.tmp 27) (.tmp 28) (.tmp 30) 101 rfl 9 3 law9 Tryd.underlying101 E3 w.heap.size _ _ rfl HM.out (by decide) (.string ⟨#[37]⟩) (.int .i64 9) _ rfl rfl (keyOf_string_mk Tryd.underlying9 (by decide)) (.lit (.int .i64 9)) [] (plainElem_int Tryd.underlying3 (by decide)) ?_);intro w3 h3 b3)
     exact ⟨⟨3,rfl,by omega,by omega,⟨h3⟩,⟨HR.out.grown b3⟩,⟨pw_below_grown HB.out _ HB.out.size b3 (by rintro k ⟨⟩;exact Nat.le_refl _)⟩,⟨Nat.lt_of_lt_of_le HS.out b3.size⟩⟩,by simp [intOf]⟩
    ·go_wp2
     exact ⟨⟨9,rfl,by omega,by omega,HM,HR,HB,HS⟩,by simp [intOf]⟩
  ·go_wp2
   go_ret
   exact ⟨w.heap.size,rfl,HM.out,HB.out⟩
end Go.Proofs.YtngpgdmafmkddaaDoor.Par
end
section
namespace Go.Proofs.YtngpgdmafmkddaaDoor.Calm
open Go
set_option linter.unusedVariables false
set_option linter.unusedSimpArgs false
section
variable {P:Program}
def tailQ (P:Program) (l:List Oper) (n:Nat) (Q:Exit -> Act -> World -> Prop):Exit -> Act -> World -> Prop
 | .normal,a,w=>wpList P l.toArray Q (l.drop n) a w
 | e,a,w=>Q e a w
def splitB (l:List Oper) (n:Nat):Bool:=
 decide (n < l.length) && Region.sinkB .any l.toArray n && Region.chainB .any l.toArray n && Region.seqB .any l.toArray (l.length - n) n ((Array.replicate n true) ++ (Array.replicate (l.length - n) false)) &&
 ((List.range n).all fun i=>match l[i]? with | none=>true | some o=>o.guard.isNone && o.after.all fun e=>decide (e.on < i))
theorem getD_app (x:Array Bool) (m i:Nat) (d:Bool) (h:i < x.size):(x ++ Array.replicate m false).getD i d = x.getD i d:=by
 simp [Array.getD,h,Array.getElem_append]
 intro h2;omega
theorem getD_any {x:Array Bool} {i:Nat} {d e:Bool} (h:i < x.size):x.getD i d = x.getD i e:=by simp [Array.getD,h]
theorem least (p:Nat -> Prop):∀ n,(∃ i,i < n /\ p i) -> ∃ i,i < n /\ p i /\ ∀ j,j < i -> ¬ p j
 | 0,⟨_,h,_⟩=>absurd h (Nat.not_lt_zero _)
 | n + 1,⟨i,hi,hp⟩=>by
  by_cases h:∃ i,i < n /\ p i
  ·obtain ⟨j,hj,h1,h2⟩:=least p n h
   exact ⟨j,by omega,h1,h2⟩
  ·exact ⟨i,hi,hp,fun j hj hpj=>h ⟨j,by omega,hpj⟩⟩
theorem upon_tail {l:List Oper} {n:Nat} {Q:Exit -> Act -> World -> Prop} {o:Oper} {a:Act} {K:Act -> World -> Prop} {r:Result Next} (h:o.upon P a K (tailQ P l n Q) r):o.upon P a K Q r:=by
 cases r with
 | ok nx w=>cases nx <;> exact h
 | halt x w=>cases x <;> exact h
theorem split_ind {l:List Oper} {n:Nat} {Q:Exit -> Act -> World -> Prop} (hB:splitB l n = true):∀ (fuel:Nat) (ls:Array Bool) (a:Act) (w:World),ls.size = n -> HeadInv .any l.toArray n (ls ++ Array.replicate (l.length - n) false) ->
  ls.toList.count false = fuel -> wpAny P .any (l.take n).toArray (tailQ P l n Q) fuel ls a w -> wpAny P .any l.toArray Q (fuel + (l.length - n)) (ls ++ Array.replicate (l.length - n) false) a w:=by
 simp only [splitB,Bool.and_eq_true,decide_eq_true_eq] at hB
 obtain ⟨⟨⟨⟨hn,hs⟩,hc⟩,hq⟩,hg⟩:=hB
 intro fuel
 induction fuel with
 | zero =>
  intro ls a w hsz inv hct h
  have e:ls = Array.replicate n true:=by
   apply Array.ext
   ·simp [hsz]
   ·intro i h1 h2
    have:ls[i] ≠ false:=fun e=>by
     have:false ∈ ls.toList:=by rw [<- e];simp
     exact absurd (List.count_pos_iff.2 this) (by omega)
    simpa using this
  subst e
  have:=wpAny_of_seq (P:=P) (md:=.any) (ops:=l.toArray) (Q':=Q) (l.drop n) n _ a w (fun j=>by simp) (by rw [List.length_drop];exact hq) h.2
  rw [List.length_drop] at this
  rw [Nat.zero_add]
  exact this
 | succ f ih =>
  intro ls a w hsz inv hct h
  rw [show f + 1 + (l.length - n) = (f + (l.length - n)) + 1 by omega]
  obtain ⟨i0,hi0,hun,hmin⟩:∃ i0,i0 < n /\ ls.getD i0 true = false /\ ∀ j,j < i0 -> ls.getD j false = true:=by
   have hpos:0 < ls.toList.count false:=by omega
   have hex:∃ i,i < n /\ (i < n /\ ls.getD i true = false):=by
    obtain ⟨i,hi,he⟩:=List.mem_iff_getElem.1 (List.count_pos_iff.1 hpos)
    have hi' : i < ls.size:=by simpa using hi
    exact ⟨i,by omega,by omega,by simpa [hi'] using he⟩
   obtain ⟨i,hi,h1,h2⟩:=least (fun i=>i < n /\ ls.getD i true = false) n hex
   refine ⟨i,hi,h1.2,fun j hj => ?_⟩
   have:=h2 j hj
   rw [getD_any (e:=true) (by omega)]
   cases hh:ls.getD j true with
   | true=>rfl
   | false=>exact absurd ⟨by omega,hh⟩ this
  have head:∀ i,i < n -> ∃ o,l[i]? = some o /\ o.guard = none /\ ∀ e ∈ o.after,e.on < i:=by
   intro i hi
   have h1:=List.all_eq_true.1 hg i (List.mem_range.2 hi)
   have ho:l[i]? = some (l[i]'(by omega)):=List.getElem?_eq_getElem _
   rw [ho] at h1
   simp only [Bool.and_eq_true,Option.isNone_iff_eq_none,Array.all_eq_true'] at h1
   exact ⟨_,ho,h1.1,fun e he=>by simpa using h1.2 e he⟩
  have tl:∀ t,n <= t -> t ∉ Region.ready .any l.toArray (ls ++ Array.replicate (l.length - n) false):=
   tail_waits hs hc (by simpa using hn) inv (n - i0) i0 rfl hi0 (by rw [getD_app _ _ _ _ (by omega)];exact hun)
  refine ⟨fun h0 => ?_,fun i hi => ?_⟩
  ·obtain ⟨o,ho,hgd,haf⟩:=head i0 hi0
   have:i0 ∈ Region.ready .any l.toArray (ls ++ Array.replicate (l.length - n) false):=by
    refine mem_ready.2 ⟨by rw [getD_app _ _ _ _ (by omega)];exact hun,o,by simpa using ho,fun e he _ => ?_⟩
    rw [getD_app _ _ _ _ (by have:=haf e he;omega)]
    exact hmin _ (haf e he)
   rw [h0] at this
   cases this
  ·have hin:i < n:=by
    rcases Nat.lt_or_ge i n with h' | h'
    ·exact h'
    ·exact absurd hi (tl i h')
   obtain ⟨o,ho,hgd,haf⟩:=head i hin
   obtain ⟨hui,o',ho',hall⟩:=mem_ready.1 hi
   obtain rfl:o' = o:=Option.some.inj (ho'.symm.trans (by simpa using ho))
   have hos:(l.take n).toArray[i]? = some o':=by simp [List.getElem?_take,hin,ho]
   rw [getD_app _ _ _ _ (by omega)] at hui
   have hr:i ∈ Region.ready .any (l.take n).toArray ls:=by
    refine mem_ready.2 ⟨hui,o',hos,fun e he hb => ?_⟩
    have:=hall e he hb
    rwa [getD_app _ _ _ _ (by have:=haf e he;omega)] at this
   have hw:=h.2 i hr
   unfold wpOp at hw ⊢
   simp only [hos,ho',Region.wanted,hgd,if_true] at hw ⊢
   have hset:(ls ++ Array.replicate (l.length - n) false).setIfInBounds i true = ls.setIfInBounds i true ++ Array.replicate (l.length - n) false:=by
    apply Array.ext_getElem?
    intro j
    have hil:i < ls.size:=by omega
    rw [Array.getElem?_append]
    by_cases e:i = j
    ·subst e
     rw [if_pos (by simpa using hil),Array.getElem?_setIfInBounds_self_of_lt hil,Array.getElem?_setIfInBounds_self_of_lt (by simp;omega)]
    ·rw [Array.getElem?_setIfInBounds_ne e,Array.getElem?_append,Array.getElem?_setIfInBounds_ne e,Array.size_setIfInBounds]
   have next:∀ a' w',wpAny P .any (l.take n).toArray (tailQ P l n Q) f (ls.setIfInBounds i true) a' w' -> wpAny P .any l.toArray Q (f + (l.length - n)) ((ls ++ Array.replicate (l.length - n) false).setIfInBounds i true) a' w':=by
    intro a' w' h'
    rw [hset]
    refine ih _ a' w' (by simpa using hsz) (by rw [<- hset];exact inv.set hi hin) ?_ h'
    have hi2:i < ls.toList.length:=by simp;omega
    have he:ls.toList[i] = false:=by
     have:i < ls.size:=by omega
     simpa [this] using hui
    rw [Array.toList_setIfInBounds,List.count_set hi2,he,hct]
    simp
   rcases hw with hw | ⟨h1,a',w',h2⟩
   ·exact .inl (Oper.wp_mono next (upon_tail hw))
   ·exact .inr ⟨h1,a',w',h2⟩
theorem region_split {id:Nat} {Q:Exit -> Act -> World -> Prop} {a:Act} {w:World} {l:List Oper} (n:Nat) (S:World -> Prop) (hm:P.follows .mixedOrders = true) (hB:splitB l n = true) (hS:S w.drew)
  (h:S w.drew -> wpAnyH P .any (l.take n).toArray (tailQ P l n Q) S (l.take n).toArray.size (Array.replicate (l.take n).toArray.size false) a w.drew):(Code.region id l.toArray true).wp P Q a w:=by
 have hB':=hB
 simp only [splitB,Bool.and_eq_true,decide_eq_true_eq] at hB'
 obtain ⟨⟨⟨⟨hn,hs⟩,hc⟩,hq⟩,hg⟩:=hB'
 have hsz:(l.take n).toArray.size = n:=by simp;omega
 refine wp_region_any hm ?_
 have h1:=wpAny_of_held _ _ _ _ (h hS)
 rw [hsz] at h1
 have hrep:Array.replicate l.toArray.size false = Array.replicate n false ++ Array.replicate (l.length - n) false:=by
  apply Array.ext
  ·simp;omega
  ·intro j h1 h2
   simp [Array.getElem_append]
 have:=split_ind hB n (Array.replicate n false) a w.drew (by simp) ?_ (by simp) h1
 ·rw [hrep,show l.toArray.size = n + (l.length - n) by simp;omega]
  exact this
 ·refine ⟨by simp;omega,fun j oj _ hl => ?_,fun t ht ht' => ?_⟩
  ·rw [<- hrep,getD_replicate_false] at hl
   cases hl
  ·rw [<- hrep]
   exact getD_in (by simpa using ht') (getD_replicate_false _ _)
end
end Go.Proofs.YtngpgdmafmkddaaDoor.Calm
end
section
namespace Go.Proofs.YtngpgdmafmkddaaDoor.Calm
open Go
set_option linter.unusedVariables false
section
variable {P:Program}
structure VR (w:World) (v:Value) (r:Result Next):Prop where
 mk :: (out:r = .ok (.value v) w)
end
end Go.Proofs.YtngpgdmafmkddaaDoor.Calm
end
section
namespace Go.Proofs.YtngpgdmafmkddaaDoor.Calm
open Go Go.RowKit
set_option linter.unusedVariables false
section
variable {P:Program} {ops:Array Oper} {C:World -> Prop} {B:List PanicEntry -> World -> Prop} {D:Option Nat} {E:Act -> Prop}
def calmR (P:Program) (C:World -> Prop) (B:List PanicEntry -> World -> Prop) (w:World) (v:Value):Result Next -> Prop
 | .ok (.value u) w' => w' = w /\ u = v
 | .ok .skip w' => w' = w /\ undef = v
 | .ok (.enter f args) w' => w' = w /\ Calls P f args w fun e w'' => (e = .returned v /\ C w'') \/ ∃ ch,e = .panicked ch /\ B ch w''
 | _=>False
def calmAt (P:Program) (C:World -> Prop) (B:List PanicEntry -> World -> Prop) (o:Oper) (a:Act) (v:Value) (w:World):Prop:=calmR P C B w v ((execOp a.eval o).run P w)
def Gives (P:Program) (ops:Array Oper) (C:World -> Prop) (B:List PanicEntry -> World -> Prop) (o:Oper) (v:Value) (a:Act):Prop:=
 (Region.wanted o (yielded ops a.tmps) = true /\ ∀ w,C w -> calmAt P C B o a v w) \/ (Region.wanted o (yielded ops a.tmps) = false /\ v = undef)
def doomR (P:Program) (B:List PanicEntry -> World -> Prop) (w:World):Result Next -> Prop
 | .ok (.enter f args) w' => w' = w /\ Calls P f args w fun e w'' => ∃ ch,e = .panicked ch /\ B ch w''
 | _=>False
def Doomed (P:Program) (ops:Array Oper) (C:World -> Prop) (B:List PanicEntry -> World -> Prop) (o:Oper) (a:Act):Prop:=
 Region.wanted o (yielded ops a.tmps) = true /\ ∀ w,C w -> doomR P B w ((execOp a.eval o).run P w)
theorem Gives.put {o o' : Oper} {a:Act} {v u:Value} (hs:∀ cs b,o.op ≠ .select cs b) (h:∀ d,o'.dst = some d -> d ∉ o.looksAt ops) :
  Gives P ops C B o v (a.put o'.dst u) ↔ Gives P ops C B o v a:=by
 unfold Gives calmAt
 rw [execOp_put o hs a o'.dst u h,wanted_put o a o'.dst u h]
theorem Doomed.put {o o' : Oper} {a:Act} {u:Value} (hs:∀ cs b,o.op ≠ .select cs b) (h:∀ d,o'.dst = some d -> d ∉ o.looksAt ops) :
  Doomed P ops C B o (a.put o'.dst u) ↔ Doomed P ops C B o a:=by
 unfold Doomed
 rw [execOp_put o hs a o'.dst u h,wanted_put o a o'.dst u h]
structure R (P:Program) (C:World -> Prop) (B:List PanicEntry -> World -> Prop) (w:World) (v:Value) (r:Result Next):Prop where
 mk :: (out:calmR P C B w v r)
end
end Go.Proofs.YtngpgdmafmkddaaDoor.Calm
end
section
namespace Go.Proofs.YtngpgdmafmkddaaDoor.Calm
open Go
set_option linter.unusedVariables false
section
variable {P:Program}
structure ER (w:World) (f:FuncId) (args:Array Value) (r:Result Next):Prop where
 mk :: (out:r = .ok (.enter f args) w)
end
end Go.Proofs.YtngpgdmafmkddaaDoor.Calm
end
section
namespace Go.Proofs.YtngpgdmafmkddaaDoor.Calm
open Go
set_option linter.unusedVariables false
section
variable {P:Program}
structure VW (w:World) (v:Value) (w' : World) (r:Result Next):Prop where
 mk :: (out:r = .ok (.value v) w')
structure SW (w' : World) (r:Result Next):Prop where
 mk :: (out:r = .ok .skip w')
end
end Go.Proofs.YtngpgdmafmkddaaDoor.Calm
end
section
namespace Go.Proofs.YtngpgdmafmkddaaDoor.Calm
open Go
set_option linter.unusedVariables false
set_option linter.unusedSimpArgs false
section
variable {P:Program} {ops:Array Oper} {a:Act} {w:World} {Q:Exit -> Act -> World -> Prop} {S:World -> Prop}
def TreeQ (P:Program) (ops:Array Oper) (Q:Exit -> Act -> World -> Prop) (S:World -> Prop) (fuel:Nat) (ls:Array Bool) (a:Act) (w:World):Prop:=wpAnyH P .any ops Q S fuel ls a w
def Sure (Q:Exit -> Act -> World -> Prop):Prop := ∀ c (a a' : Act) w,a'.defers = a.defers -> Q (.panic c) a' w -> Q (.panic c) a w
theorem Sure.tail {l:List Oper} {n:Nat} (h:Sure Q):Sure (tailQ P l n Q):=fun c a a' w hd hq=>h c a a' w hd hq
theorem region_treeQ {id:Nat} {l:List Oper} (hm:P.follows .mixedOrders = true) (S:World -> Prop) (hS:S w.drew) (h:S w.drew -> TreeQ P l.toArray Q S l.length (Array.replicate l.length false) a w.drew):(Code.region id l.toArray true).wp P Q a w:=
 wp_region_held_drew (S:=S) hm hS fun hS' => by simpa [TreeQ] using h hS'
theorem region_treeT {id:Nat} {l:List Oper} (n:Nat) (hm:P.follows .mixedOrders = true) (hB:splitB l n = true) (S:World -> Prop) (hS:S w.drew) (h:S w.drew -> TreeQ P (l.take n).toArray (tailQ P l n Q) S n (Array.replicate n false) a w.drew):(Code.region id l.toArray true).wp P Q a w:=by
 have hB':=hB
 simp only [splitB,Bool.and_eq_true,decide_eq_true_eq] at hB'
 have hlm:n < l.length:=hB'.1.1.1.1
 have hsz:(l.take n).toArray.size = n:=by simp;omega
 refine region_split n S hm hB hS fun hS' => ?_
 rw [hsz]
 exact h hS'
theorem treeQ_h (hQ:Sure Q) (hS:S w) {fuel:Nat} {ls:Array Bool} {i:Nat} {o:Oper} {d:Tmp} (hs:Region.noSelect ops = true) (ho:ops[i]? = some o) (hd:o.dst = some d) (hr:((Region.ready .any ops ls).contains i && Region.free .any ops ls i) = true) (hw:Region.wanted o (yielded ops a.tmps) = true)
  (h:∃ v,(∀ w,S w -> VR w v ((execOp a.eval o).run P w)) /\ TreeQ P ops Q S fuel (ls.setIfInBounds i true) { tmps:=a.tmps.setIfInBounds d v,defers:=a.defers } w):TreeQ P ops Q S (fuel + 1) ls a w:=by
 obtain ⟨v,hv,h⟩:=h
 simp only [Bool.and_eq_true] at hr
 refine wpAnyH_take ho hs hr.2 hr.1 (fun c a' w' hq=>hQ c _ _ w' (by cases o.dst <;> rfl) hq) (v:=v) (.inl ⟨hw,fun w hw=>(hv w hw).out⟩) hS ?_
 rw [hd];exact h
theorem treeQ_hs (hQ:Sure Q) (hS:S w) {fuel:Nat} {ls:Array Bool} {i:Nat} {o:Oper} (hs:Region.noSelect ops = true) (ho:ops[i]? = some o) (hd:∃ d,o.dst = some d /\ Region.wanted o (yielded ops a.tmps) = false /\ TreeQ P ops Q S fuel (ls.setIfInBounds i true) { tmps:=a.tmps.setIfInBounds d undef,defers:=a.defers } w) (hr:((Region.ready .any ops ls).contains i && Region.free .any ops ls i) = true):TreeQ P ops Q S (fuel + 1) ls a w:=by
 obtain ⟨d,hd,hw,h⟩:=hd
 simp only [Bool.and_eq_true] at hr
 refine wpAnyH_take ho hs hr.2 hr.1 (fun c a' w' hq=>hQ c _ _ w' (by cases o.dst <;> rfl) hq) (v:=undef) (.inr ⟨hw,rfl⟩) hS ?_
 rw [hd];exact h
def StepQ (P:Program) (ops:Array Oper) (Q:Exit -> Act -> World -> Prop) (S:World -> Prop) (fuel:Nat) (ls:Array Bool) (a:Act) (w:World) (i:Nat):Prop:=
 wpOp P ops Q i (fun a' w' => S w' /\ TreeQ P ops Q S fuel (ls.setIfInBounds i true) a' w') a w
theorem tree_1Q {fuel:Nat} {ls:Array Bool} {i:Nat} (hr:Region.ready .any ops ls = [i]) (h:StepQ P ops Q S fuel ls a w i):TreeQ P ops Q S (fuel + 1) ls a w:=
 wpAnyH_all hr (by simp) fun j hj=>by
  obtain rfl:j = i:=by simpa using hj
  exact h
theorem tree_2Q {fuel:Nat} {ls:Array Bool} {i k:Nat} (hr:Region.ready .any ops ls = [i,k]) (h:StepQ P ops Q S fuel ls a w i) (h2:StepQ P ops Q S fuel ls a w k):TreeQ P ops Q S (fuel + 1) ls a w:=
 wpAnyH_all hr (by simp) fun j hj=>by
  rcases (by simpa using hj:j = i \/ j = k) with rfl | rfl
  ·exact h
  ·exact h2
theorem tree_endQ {ls:Array Bool} (hr:Region.ready .any ops ls = []) (h:Q .normal a w):TreeQ P ops Q S 0 ls a w:=⟨hr,h⟩
theorem tree_doneT {l:List Oper} {m:Nat} {ls:Array Bool} (hr:Region.ready .any ops ls = []) (h:wpList P l.toArray Q (l.drop m) a w):TreeQ P ops (tailQ P l m Q) S 0 ls a w:=⟨hr,h⟩
theorem step_valueQ {fuel:Nat} {ls:Array Bool} {i:Nat} {o:Oper} {d:Tmp} {v:Value} {w' : World} (ho:ops[i]? = some o) (hd:o.dst = some d) (hw:Region.wanted o (yielded ops a.tmps) = true) (hr:VW w v w' ((execOp a.eval o).run P w)) (hS:S w')
  (h:TreeQ P ops Q S fuel (ls.setIfInBounds i true) { tmps:=a.tmps.setIfInBounds d v,defers:=a.defers } w'):StepQ P ops Q S fuel ls a w i:=by
 unfold StepQ wpOp
 simp only [ho,hw,if_true]
 left
 unfold Oper.wp
 rw [hr.out,Oper.upon_value,hd]
 exact ⟨hS,h⟩
theorem step_storeQ {fuel:Nat} {ls:Array Bool} {i:Nat} {o:Oper} {w' : World} (ho:ops[i]? = some o) (hd:o.dst = none) (hw:Region.wanted o (yielded ops a.tmps) = true) (hr:SW w' ((execOp a.eval o).run P w)) (hS:S w')
  (h:TreeQ P ops Q S fuel (ls.setIfInBounds i true) a w'):StepQ P ops Q S fuel ls a w i:=by
 unfold StepQ wpOp
 simp only [ho,hw,if_true]
 left
 unfold Oper.wp
 rw [hr.out,Oper.upon_skip,hd]
 exact ⟨hS,h⟩
theorem step_callQ {fuel:Nat} {ls:Array Bool} {i:Nat} {o:Oper} {d:Tmp} {f:FuncId} {args:Array Value} (ho:ops[i]? = some o) (hd:o.dst = some d) (hw:Region.wanted o (yielded ops a.tmps) = true) (hr:ER w f args ((execOp a.eval o).run P w))
  (hc:Calls P f args w fun e w' => (∃ v,e = .returned v /\ S w' /\ TreeQ P ops Q S fuel (ls.setIfInBounds i true) { tmps:=a.tmps.setIfInBounds d v,defers:=a.defers } w') \/ ∃ ch,e = .panicked ch /\ Q (.panic ch) a w'):StepQ P ops Q S fuel ls a w i:=by
 unfold StepQ wpOp
 simp only [ho,hw,if_true]
 left
 unfold Oper.wp
 rw [hr.out,Oper.upon_enter]
 refine hc.mono ?_
 rintro e w' (⟨v,rfl,hS,h⟩ | ⟨ch,rfl,h⟩)
 ·refine ⟨hS, ?_⟩
  rw [hd];exact h
 ·exact h
def tailK (K:Act -> World -> Prop) (Q:Exit -> Act -> World -> Prop):Exit -> Act -> World -> Prop
 | .normal,a,w=>K a w
 | e,a,w=>Q e a w
theorem Sure.tailK {K:Act -> World -> Prop} (h:Sure Q):Sure (Calm.tailK K Q):=fun c a a' w hd hq=>h c a a' w hd hq
def chainR (ops:Array Oper) (n:Nat):Bool:=(List.range ops.size).all fun t=>decide (t <= n) || (List.range t).any fun j=>decide (n <= j) && Region.waitsFor .any ops t j
def splitR (l:List Oper) (n:Nat):Bool:=
 decide (n < l.length) && Region.sinkB .any l.toArray n && chainR l.toArray n &&
 ((List.range n).all fun i=>match l[i]? with | none=>true | some o=>o.guard.isNone && o.after.all fun e => !Region.binds .any e || decide (e.on < i))
theorem tail_waitsR {n:Nat} {listed:Array Bool} (hs:Region.sinkB .any ops n = true) (hc:chainR ops n = true) (hn:n < ops.size) (inv:HeadInv .any ops n listed) :
  ∀ (d i:Nat),n - i = d -> i < n -> listed.getD i true = false -> ∀ t,n <= t -> t ∉ Region.ready .any ops listed:=by
 intro d
 induction d using Nat.strongRecOn with
 | _ d ih =>
  intro i hd hi hun t ht hr
  obtain ⟨_,ot,hot,hall⟩:=mem_ready.1 hr
  have htlt:t < ops.size:=(Array.getElem?_eq_some_iff.1 hot).1
  by_cases htn:t = n
  ·subst htn
   have h1:=List.all_eq_true.1 hs i (List.mem_range.2 hi)
   obtain ⟨j,hj,hj2⟩:=List.any_eq_true.1 h1
   simp only [Bool.and_eq_true,decide_eq_true_eq] at hj2
   obtain ⟨oj,hoj,e,he,hb,hon⟩:=Region.waitsFor_spec hj2.2
   have hjle:j <= t:=by have:=List.mem_range.1 hj;omega
   by_cases hjt:j = t
   ·subst hjt
    have:oj = ot:=Option.some.inj (hoj.symm.trans hot)
    subst this
    have h2:=hall e he hb
    rw [hon,getD_both hun] at h2
    cases h2
   ·cases hl:listed.getD j false with
    | true =>
     have h2:=inv.closed j oj hoj hl e he hb
     rw [hon,getD_both hun] at h2
     cases h2
    | false =>
     have hjs:j < listed.size:=by rw [inv.size];omega
     exact ih (t - j) (by omega) j rfl (by omega) (getD_in hjs hl) t (Nat.le_refl _) hr
  ·have h1:=List.all_eq_true.1 hc t (List.mem_range.2 htlt)
   simp only [Bool.or_eq_true,decide_eq_true_eq] at h1
   rcases h1 with h1 | h1
   ·omega
   ·obtain ⟨j,hj,hj2⟩:=List.any_eq_true.1 h1
    simp only [Bool.and_eq_true,decide_eq_true_eq] at hj2
    have hjt:=List.mem_range.1 hj
    obtain ⟨o',ho',e,he,hb,hon⟩:=Region.waitsFor_spec hj2.2
    have:o' = ot:=Option.some.inj (ho'.symm.trans hot)
    subst this
    have h2:=hall e he hb
    rw [hon,getD_both (inv.tail j hj2.1 (by omega))] at h2
    cases h2
theorem upon_tailK {K:Act -> World -> Prop} {o:Oper} {a:Act} {K' : Act -> World -> Prop} {r:Result Next} (h:o.upon P a K' (tailK K Q) r):o.upon P a K' Q r:=by
 cases r with
 | ok nx w=>cases nx <;> exact h
 | halt x w=>cases x <;> exact h
def restQ (P:Program) (l:List Oper) (n:Nat) (Q:Exit -> Act -> World -> Prop) (a:Act) (w:World):Prop:=wpAny P .any l.toArray Q (l.length - n) (Array.replicate n true ++ Array.replicate (l.length - n) false) a w
theorem splitR_ind {l:List Oper} {n:Nat} (hB:splitR l n = true):∀ (fuel:Nat) (ls:Array Bool) (a:Act) (w:World),ls.size = n -> HeadInv .any l.toArray n (ls ++ Array.replicate (l.length - n) false) ->
  ls.toList.count false = fuel -> wpAny P .any (l.take n).toArray (tailK (restQ P l n Q) Q) fuel ls a w -> wpAny P .any l.toArray Q (fuel + (l.length - n)) (ls ++ Array.replicate (l.length - n) false) a w:=by
 simp only [splitR,Bool.and_eq_true,decide_eq_true_eq] at hB
 obtain ⟨⟨⟨hn,hs⟩,hc⟩,hg⟩:=hB
 intro fuel
 induction fuel with
 | zero =>
  intro ls a w hsz inv hct h
  have e:ls = Array.replicate n true:=by
   apply Array.ext
   ·simp [hsz]
   ·intro i h1 h2
    have:ls[i] ≠ false:=fun e=>by
     have:false ∈ ls.toList:=by rw [<- e];simp
     exact absurd (List.count_pos_iff.2 this) (by omega)
    simpa using this
  subst e
  rw [Nat.zero_add]
  exact h.2
 | succ f ih =>
  intro ls a w hsz inv hct h
  rw [show f + 1 + (l.length - n) = (f + (l.length - n)) + 1 by omega]
  obtain ⟨i0,hi0,hun,hmin⟩:∃ i0,i0 < n /\ ls.getD i0 true = false /\ ∀ j,j < i0 -> ls.getD j false = true:=by
   have hpos:0 < ls.toList.count false:=by omega
   have hex:∃ i,i < n /\ (i < n /\ ls.getD i true = false):=by
    obtain ⟨i,hi,he⟩:=List.mem_iff_getElem.1 (List.count_pos_iff.1 hpos)
    have hi' : i < ls.size:=by simpa using hi
    exact ⟨i,by omega,by omega,by simpa [hi'] using he⟩
   obtain ⟨i,hi,h1,h2⟩:=least (fun i=>i < n /\ ls.getD i true = false) n hex
   refine ⟨i,hi,h1.2,fun j hj => ?_⟩
   have:=h2 j hj
   rw [getD_any (e:=true) (by omega)]
   cases hh:ls.getD j true with
   | true=>rfl
   | false=>exact absurd ⟨by omega,hh⟩ this
  have head:∀ i,i < n -> ∃ o,l[i]? = some o /\ o.guard = none /\ ∀ e ∈ o.after,Region.binds .any e = true -> e.on < i:=by
   intro i hi
   have h1:=List.all_eq_true.1 hg i (List.mem_range.2 hi)
   have ho:l[i]? = some (l[i]'(by omega)):=List.getElem?_eq_getElem _
   rw [ho] at h1
   simp only [Bool.and_eq_true,Option.isNone_iff_eq_none,Array.all_eq_true'] at h1
   exact ⟨_,ho,h1.1,fun e he hb=>by have:=h1.2 e he;rw [hb] at this;simpa using this⟩
  have tl:∀ t,n <= t -> t ∉ Region.ready .any l.toArray (ls ++ Array.replicate (l.length - n) false):=
   tail_waitsR hs hc (by simpa using hn) inv (n - i0) i0 rfl hi0 (by rw [getD_app _ _ _ _ (by omega)];exact hun)
  refine ⟨fun h0 => ?_,fun i hi => ?_⟩
  ·obtain ⟨o,ho,hgd,haf⟩:=head i0 hi0
   have:i0 ∈ Region.ready .any l.toArray (ls ++ Array.replicate (l.length - n) false):=by
    refine mem_ready.2 ⟨by rw [getD_app _ _ _ _ (by omega)];exact hun,o,by simpa using ho,fun e he hb => ?_⟩
    rw [getD_app _ _ _ _ (by have:=haf e he hb;omega)]
    exact hmin _ (haf e he hb)
   rw [h0] at this
   cases this
  ·have hin:i < n:=by
    rcases Nat.lt_or_ge i n with h' | h'
    ·exact h'
    ·exact absurd hi (tl i h')
   obtain ⟨o,ho,hgd,haf⟩:=head i hin
   obtain ⟨hui,o',ho',hall⟩:=mem_ready.1 hi
   obtain rfl:o' = o:=Option.some.inj (ho'.symm.trans (by simpa using ho))
   have hos:(l.take n).toArray[i]? = some o':=by simp [List.getElem?_take,hin,ho]
   rw [getD_app _ _ _ _ (by omega)] at hui
   have hr:i ∈ Region.ready .any (l.take n).toArray ls:=by
    refine mem_ready.2 ⟨hui,o',hos,fun e he hb => ?_⟩
    have:=hall e he hb
    rwa [getD_app _ _ _ _ (by have:=haf e he hb;omega)] at this
   have hw:=h.2 i hr
   unfold wpOp at hw ⊢
   simp only [hos,ho',Region.wanted,hgd,if_true] at hw ⊢
   have hset:(ls ++ Array.replicate (l.length - n) false).setIfInBounds i true = ls.setIfInBounds i true ++ Array.replicate (l.length - n) false:=by
    apply Array.ext_getElem?
    intro j
    have hil:i < ls.size:=by omega
    rw [Array.getElem?_append]
    by_cases e:i = j
    ·subst e
     rw [if_pos (by simpa using hil),Array.getElem?_setIfInBounds_self_of_lt hil,Array.getElem?_setIfInBounds_self_of_lt (by simp;omega)]
    ·rw [Array.getElem?_setIfInBounds_ne e,Array.getElem?_append,Array.getElem?_setIfInBounds_ne e,Array.size_setIfInBounds]
   have next:∀ a' w',wpAny P .any (l.take n).toArray (tailK (restQ P l n Q) Q) f (ls.setIfInBounds i true) a' w' -> wpAny P .any l.toArray Q (f + (l.length - n)) ((ls ++ Array.replicate (l.length - n) false).setIfInBounds i true) a' w':=by
    intro a' w' h'
    rw [hset]
    refine ih _ a' w' (by simpa using hsz) (by rw [<- hset];exact inv.set hi hin) ?_ h'
    have hi2:i < ls.toList.length:=by simp;omega
    have he:ls.toList[i] = false:=by
     have:i < ls.size:=by omega
     simpa [this] using hui
    rw [Array.toList_setIfInBounds,List.count_set hi2,he,hct]
    simp
   rcases hw with hw | ⟨h1,a',w',h2⟩
   ·exact .inl (Oper.wp_mono next (upon_tailK hw))
   ·exact .inr ⟨h1,a',w',h2⟩
theorem region_treeR {id:Nat} {l:List Oper} (n:Nat) (hm:P.follows .mixedOrders = true) (hB:splitR l n = true) (S:World -> Prop) (hS:S w.drew) (h:S w.drew -> TreeQ P (l.take n).toArray (tailK (restQ P l n Q) Q) S n (Array.replicate n false) a w.drew):(Code.region id l.toArray true).wp P Q a w:=by
 have hB':=hB
 simp only [splitR,Bool.and_eq_true,decide_eq_true_eq] at hB'
 obtain ⟨⟨⟨hn,hs⟩,hc⟩,hg⟩:=hB'
 have hsz:(l.take n).toArray.size = n:=by simp;omega
 refine wp_region_any hm ?_
 have h1:=wpAny_of_held _ _ _ _ (h hS)
 have hrep:Array.replicate l.toArray.size false = Array.replicate n false ++ Array.replicate (l.length - n) false:=by
  apply Array.ext
  ·simp;omega
  ·intro j h1 h2
   simp [Array.getElem_append]
 have:=splitR_ind hB n (Array.replicate n false) a w.drew (by simp) ?_ (by simp) h1
 ·rw [hrep,show l.toArray.size = n + (l.length - n) by simp;omega]
  exact this
 ·refine ⟨by simp;omega,fun j oj _ hl => ?_,fun t ht ht' => ?_⟩
  ·rw [<- hrep,getD_replicate_false] at hl
   cases hl
  ·rw [<- hrep]
   exact getD_in (by simpa using ht') (getD_replicate_false _ _)
theorem restQ_tree {l:List Oper} {n:Nat} (S:World -> Prop) (h:TreeQ P l.toArray Q S (l.length - n) (Array.replicate n true ++ Array.replicate (l.length - n) false) a w):restQ P l n Q a w:=wpAny_of_held _ _ _ _ h
theorem tree_doneR {K:Act -> World -> Prop} {ls:Array Bool} (hr:Region.ready .any ops ls = []) (h:K a w):TreeQ P ops (tailK K Q) S 0 ls a w:=⟨hr,h⟩
theorem step_list {fuel:Nat} {ls:Array Bool} {i:Nat} {o:Oper} (ho:ops[i]? = some o) (h:wpList P ops (tailK (fun a' w' => S w' /\ TreeQ P ops Q S fuel (ls.setIfInBounds i true) a' w') Q) [o] a w):StepQ P ops Q S fuel ls a w i:=by
 unfold StepQ wpOp
 simp only [ho]
 simp only [wpList] at h
 split
 ·rename_i hw
  rw [if_pos hw] at h
  rcases h with h | ⟨h1,a',w',h2⟩
  ·exact .inl (upon_tailK h)
  ·exact .inr ⟨h1,a',w',h2⟩
 ·rename_i hw
  rw [if_neg hw] at h
  exact h
end
end Go.Proofs.YtngpgdmafmkddaaDoor.Calm
end
section
namespace Go.Proofs.YtngpgdmafmkddaaDoor.Calm
open Go
variable {P : Program} {ops : Array Oper} {a : Act} {w : World} {Q : Exit → Act → World → Prop} {S : World → Prop}
theorem tqh (hQ : Sure Q) (hS : S w) {fuel : Nat} {ls : Array Bool} (i : Nat) {o : Oper} {d : Tmp}
 (h : ∃ v, (∀ w, S w → VR w v ((execOp a.eval o).run P w)) ∧ TreeQ P ops Q S fuel (ls.setIfInBounds i true) { tmps := a.tmps.setIfInBounds d v, defers := a.defers } w)
 (hs : Region.noSelect ops = true := by kernel_rfl) (ho : ops[i]? = some o := by rfl) (hd : o.dst = some d := by rfl) (hr : ((Region.ready .any ops ls).contains i && Region.free .any ops ls i) = true := by kernel_rfl) (hw : Region.wanted o (yielded ops a.tmps) = true := by rfl) : TreeQ P ops Q S (fuel + 1) ls a w := treeQ_h hQ hS hs ho hd hr hw h
end Go.Proofs.YtngpgdmafmkddaaDoor.Calm
end
section
namespace Go.Proofs.YtngpgdmafmkddaaDoor.Par
open Go.Proofs.YtngpgdmafmkddaaDoor.Calm Go.RowKit Go.Proofs.YtngpgdmafmkddaaDoorW.PrintWords Go.Proofs.YtngpgdmafmkddaaDoorW.PrintLast Go.Proofs.YtngpgdmafmkddaaDoorW.PrintMore
open Go.Proofs.YtngpgdmafmkddaaDoor.PParseBlanks (S35 S25 S27 k35 k25 k27 rd_T35 rd_T25 rd_T27 at_T35 at_T25 at_T27)
set_option linter.unusedVariables false
set_option linter.unusedSimpArgs false
open Go.Maps Go.WideMaps
theorem ER_go {w:World} {f:FuncId} {args:Array Value} {r:Result Next} (h:r = .ok (.enter f args) w):ER w f args r:=⟨h⟩
theorem rkD_eq:rkD (rkPrs 9 0) = .map [(.string [33,61],.lit (.int .i64 3)),(.string [37],.lit (.int .i64 9)),(.string [38],.lit (.int .i64 6)),(.string [38,38],.lit (.int .i64 2)),(.string [42],.lit (.int .i64 9)),(.string [43],.lit (.int .i64 8)),(.string [45],.lit (.int .i64 8)),(.string [47],.lit (.int .i64 9)),(.string [60],.lit (.int .i64 3)),(.string [60,60],.lit (.int .i64 7)),(.string [60,61],.lit (.int .i64 3)),(.string [61,61],.lit (.int .i64 3)),(.string [62],.lit (.int .i64 3)),(.string [62,61],.lit (.int .i64 3)),(.string [62,62],.lit (.int .i64 7)),(.string [94],.lit (.int .i64 5)),(.string [124],.lit (.int .i64 4)),(.string [124,124],.lit (.int .i64 1))]:=by kernel_rfl
theorem rk_at (l:List UInt8):(rkD (rkPrs 9 0)).atKey (.string l) (.lit (.int .i64 0)) = .lit (.int .i64 (rankOf l)):=by
 rw [rkD_eq]
 by_cases h0:l = [124,124]
 ·subst h0;rfl
 by_cases h1:l = [38,38]
 ·subst h1;rfl
 by_cases h2:l = [61,61]
 ·subst h2;rfl
 by_cases h3:l = [33,61]
 ·subst h3;rfl
 by_cases h4:l = [60]
 ·subst h4;rfl
 by_cases h5:l = [60,61]
 ·subst h5;rfl
 by_cases h6:l = [62]
 ·subst h6;rfl
 by_cases h7:l = [62,61]
 ·subst h7;rfl
 by_cases h8:l = [124]
 ·subst h8;rfl
 by_cases h9:l = [94]
 ·subst h9;rfl
 by_cases h10:l = [38]
 ·subst h10;rfl
 by_cases h11:l = [60,60]
 ·subst h11;rfl
 by_cases h12:l = [62,62]
 ·subst h12;rfl
 by_cases h13:l = [43]
 ·subst h13;rfl
 by_cases h14:l = [45]
 ·subst h14;rfl
 by_cases h15:l = [42]
 ·subst h15;rfl
 by_cases h16:l = [47]
 ·subst h16;rfl
 by_cases h17:l = [37]
 ·subst h17;rfl
 have e:rankOf l = 0:=by unfold rankOf;rw [if_neg h0,if_neg h1,if_neg h2,if_neg h3,if_neg h4,if_neg h5,if_neg h6,if_neg h7,if_neg h8,if_neg h9,if_neg h10,if_neg h11,if_neg h12,if_neg h13,if_neg h14,if_neg h15,if_neg h16,if_neg h17]
 rw [e]
 have g0:=Ne.symm h0
 have g1:=Ne.symm h1
 have g2:=Ne.symm h2
 have g3:=Ne.symm h3
 have g4:=Ne.symm h4
 have g5:=Ne.symm h5
 have g6:=Ne.symm h6
 have g7:=Ne.symm h7
 have g8:=Ne.symm h8
 have g9:=Ne.symm h9
 have g10:=Ne.symm h10
 have g11:=Ne.symm h11
 have g12:=Ne.symm h12
 have g13:=Ne.symm h13
 have g14:=Ne.symm h14
 have g15:=Ne.symm h15
 have g16:=Ne.symm h16
 have g17:=Ne.symm h17
 simp [Maps.has,DataW.atKey,Lit.sameKey,g0,g1,g2,g3,g4,g5,g6,g7,g8,g9,g10,g11,g12,g13,g14,g15,g16,g17]
theorem kind_ps' {g:Nat} {e:Int} {l:List S35} {w:World} (H:PS w g l e):Calls Tryd.prog 19 #[.pointer (some ⟨g,0,none⟩)] w fun en w' => en = .returned (.int .i64 (kindP l)) /\ Below w.heap.size w w':=let ⟨A,c,h⟩:=H;kind_said g l e A c w h
set_option maxRecDepth 100000 in
set_option maxHeartbeats 2000000 in
theorem rank_ok:RankOK:=by
 intro g e l w HP
 have HPP:=am HP
 by_cases hk:kindP l = 4
 ·cases l with
  | nil=>exact absurd hk (by decide)
  | cons t r =>
   have hr:rankP (t :: r) = rankOf t.f1.toList:=if_pos hk
   have HR:=am hr
   have HKK:=am hk
   clear hk hr HP
   go_enter Tryd.func53,Tryd.ntmps53
   go_wp2_with (
    go_at_call 19
    (with_reducible refine Calls.mono (kind_ps' HPP.out) ?_)
    rintro en w1 ⟨he,hb⟩
    rw [HKK.out] at he
    subst he)
   have hb1:=below_drew hb
   have HP1:=HPP.out.below hb1
   obtain ⟨W,hW⟩:∃ W,w1.drew = W:=⟨_,rfl⟩
   rw [hW] at HP1 hb1
   obtain ⟨A,c,HQ⟩:=HP1
   obtain ⟨ad,rfl,r0,r1,r2⟩:=tok0 HQ.toks
   have c0:=hci HQ.has 0 rfl
   have hsz:t.f1.size < 4611686018427387904:=HQ.le.2 t List.mem_cons_self
   have hl:(0:Int) < ((t :: r).length:Int):=by simp
   refine region_treeQ (by kernel_rfl) (fun w' => w'.cell? ⟨g,0,none⟩ = some (.slice (some ad) (t :: r).length c) /\ w'.cell? ⟨ad.block,ad.off + 1,none⟩ = some (.string t.f1)) (hW ▸ ⟨c0,r1⟩) fun hS => ?_
   rw [hW] at hS ⊢
   clear hW
   refine treeQ_h (by
    intro c a a' w1 hd h
    simp +zetaDelta only [Exit.then,Exit.inBlock,bodyPost] at h ⊢
    simp at h) hS (i:=1) (by kernel_rfl) (by rfl) (by rfl) (by kernel_rfl) (by rfl) ?_
   apply Exists.intro
   apply And.intro
   ·rintro w' ⟨k1,k2⟩
    apply VR.mk
    go_simp
    with_reducible rfl
   simp only [sA,sB,sC]
   refine treeQ_h (by
    intro c a a' w1 hd h
    simp +zetaDelta only [Exit.then,Exit.inBlock,bodyPost] at h ⊢
    simp at h) hS (i:=2) (by kernel_rfl) (by rfl) (by rfl) (by kernel_rfl) (by rfl) ?_
   apply Exists.intro
   apply And.intro
   ·rintro w' ⟨k1,k2⟩
    apply VR.mk
    go_simp
    with_reducible rfl
   simp only [sA,sB,sC]
   refine treeQ_h (by
    intro c a a' w1 hd h
    simp +zetaDelta only [Exit.then,Exit.inBlock,bodyPost] at h ⊢
    simp at h) hS (i:=3) (by kernel_rfl) (by rfl) (by rfl) (by kernel_rfl) (by rfl) ?_
   apply Exists.intro
   apply And.intro
   ·rintro w' ⟨k1,k2⟩
    apply VR.mk
    go_simp
    with_reducible rfl
   simp only [sA,sB,sC]
   refine treeQ_h (by
    intro c a a' w1 hd h
    simp +zetaDelta only [Exit.then,Exit.inBlock,bodyPost] at h ⊢
    simp at h) hS (i:=4) (by kernel_rfl) (by rfl) (by rfl) (by kernel_rfl) (by rfl) ?_
   apply Exists.intro
   apply And.intro
   ·rintro w' ⟨k1,k2⟩
    apply VR.mk
    go_simp
    with_reducible rfl
   simp only [sA,sB,sC]
   refine treeQ_h (by
    intro c a a' w1 hd h
    simp +zetaDelta only [Exit.then,Exit.inBlock,bodyPost] at h ⊢
    simp at h) hS (i:=5) (by kernel_rfl) (by rfl) (by rfl) (by kernel_rfl) (by rfl) ?_
   apply Exists.intro
   apply And.intro
   ·rintro w' ⟨k1,k2⟩
    apply VR.mk
    go_simp
    with_reducible rfl
   simp only [sA,sB,sC]
   refine treeQ_h (by
    intro c a a' w1 hd h
    simp +zetaDelta only [Exit.then,Exit.inBlock,bodyPost] at h ⊢
    simp at h) hS (i:=6) (by kernel_rfl) (by rfl) (by rfl) (by kernel_rfl) (by rfl) ?_
   apply Exists.intro
   apply And.intro
   ·rintro w' ⟨k1,k2⟩
    apply VR.mk
    go_simp
    with_reducible rfl
   simp only [sA,sB,sC]
   refine treeQ_h (by
    intro c a a' w1 hd h
    simp +zetaDelta only [Exit.then,Exit.inBlock,bodyPost] at h ⊢
    simp at h) hS (i:=7) (by kernel_rfl) (by rfl) (by rfl) (by kernel_rfl) (by rfl) ?_
   apply Exists.intro
   apply And.intro
   ·rintro w' ⟨k1,k2⟩
    apply VR.mk
    go_simp
    with_reducible rfl
   simp only [sA,sB,sC]
   refine tree_1Q (i:=0) (by kernel_rfl) ?_
   refine step_callQ (by rfl) (by rfl) (by rfl) (ER_go (by go_simp;with_reducible exact ⟨rfl,rfl⟩)) ?_
   refine (ranks_said W).mono ?_
   rintro en w2 ⟨b,rfl,hm,hb2⟩
   have k1:=pwcb hb2 hS.1
   have k2:=pwcb hb2 hS.2
   refine .inl ⟨_,rfl,⟨k1,k2⟩, ?_⟩
   simp only [sA,sB,sC]
   refine tree_1Q (i:=8) (by kernel_rfl) ?_
   refine step_list (by rfl) ?_
   refine wpList_lookup_own_int _ rfl (.tmp 6) (.tmp 13) 101 rfl 9 3 .i64 law9 Tryd.underlying101 Tryd.underlying3 (by kernel_rfl) b 18 _ rfl hm (.string t.f1) _ rfl (keyOf_string_mk Tryd.underlying9 (by unfold maxLen;omega)) ?_
   intro c9 hat hwf
   obtain rfl:c9 = rankOf t.f1.toList:=by
    have h:=hat.symm.trans (rk_at t.f1.data.toList)
    injection h with h
    injection h with _ h
    rw [ByteArray.toList_eq]
    exact h
   refine ⟨⟨k1,k2⟩, ?_⟩
   simp only [Act.put,sA,sB,sC]
   refine tree_1Q (i:=9) (by kernel_rfl) ?_
   refine step_list (by rfl) ?_
   go_wp2
   refine ⟨⟨k1,k2⟩,tree_endQ (by kernel_rfl) ?_⟩
   go_wp2
   go_ret
   rw [HR.out]
   exact ⟨rfl,below_then hb1 hb1.size hb2⟩
 ·have hr:rankP l = 0:=by cases l with | nil=>rfl | cons t r=>exact if_neg hk
  have hkb:(kindP l != 4) = true:=by simp [hk]
  have HR:=am hr
  obtain ⟨q,hq⟩:∃ q,kindP l = q:=⟨_,rfl⟩
  rw [hq] at hkb
  have HQ:=am hq
  clear hk hr HP hq
  go_enter Tryd.func53,Tryd.ntmps53
  go_wp2_with (
    go_at_call 19
    (with_reducible refine Calls.mono (kind_ps' HPP.out) ?_)
    rintro en w1 ⟨he,hb⟩
    rw [HQ.out] at he
    subst he)
  go_ret
  rw [HR.out]
  exact ⟨rfl,hb⟩
end Go.Proofs.YtngpgdmafmkddaaDoor.Par
end
section
namespace Go.Proofs.YtngpgdmafmkddaaDoor.Lex
open Go.Proofs.YtngpgdmafmkddaaDoor.Calm Go.Proofs.YtngpgdmafmkddaaDoor.Par Go.RowKit Go.Proofs.YtngpgdmafmkddaaDoorW.PrintWords Go.Proofs.YtngpgdmafmkddaaDoorW.PrintLast Go.Proofs.YtngpgdmafmkddaaDoorW.PrintMore
open Go.Proofs.YtngpgdmafmkddaaDoor.PParseBlanks (S35 S25 S27 k35 k25 k27 rd_T35 rd_T25 rd_T27 at_T35 at_T25 at_T27)
set_option linter.unusedVariables false
set_option linter.unusedSimpArgs false
abbrev fromN (s:ByteArray) (at_:Nat):List UInt8:=s.data.toList.drop at_
def spanL (p:Int -> Bool):List UInt8 -> Nat
 | []=>0
 | b :: r=>if p (b.toNat:Int) = true then spanL p r + 1 else 0
theorem bt_get {s:ByteArray} {i:Nat} (h:i < s.size):∃ b:UInt8,(fromN s i) = b :: fromN s (i + 1) /\ bt s (i:Int) = (b.toNat:Int):=by
 have h1:i < s.data.toList.length:=by simpa using h
 refine ⟨s.data.toList[i],List.drop_eq_getElem_cons h1, ?_⟩
 unfold bt
 rw [dif_pos (show (i:Int).toNat < s.size by simpa using h)]
 rfl
theorem from_end {s:ByteArray} {i:Nat} (h:s.size <= i):fromN s i = []:=List.drop_eq_nil_of_le (by simpa using h)
theorem spanL_eq {p:Int -> Bool} {s:ByteArray} (at_:Nat):∀ n:Nat,at_ + n <= s.size -> (∀ j:Nat,j < n -> p (bt s ((at_ + j:Nat):Int)) = true) -> (at_ + n = s.size \/ p (bt s ((at_ + n:Nat):Int)) = false) -> spanL p (fromN s at_) = n:=by
 intro n
 induction n generalizing at_ with
 | zero =>
  intro h1 h2 h3
  by_cases h:at_ < s.size
  ·obtain ⟨b,e,hb⟩:=bt_get h
   rw [e,spanL]
   rcases h3 with h3 | h3
   ·omega
   ·rw [Nat.add_zero,hb] at h3
    rw [if_neg (by rw [h3];decide)]
  ·rw [from_end (by omega),spanL]
 | succ n ih =>
  intro h1 h2 h3
  obtain ⟨b,e,hb⟩:=bt_get (s:=s) (i:=at_) (by omega)
  rw [e,spanL]
  have h0:=h2 0 (by omega)
  rw [Nat.add_zero,hb] at h0
  rw [if_pos h0,ih (at_ + 1) (by omega) (fun j hj=>by have:=h2 (j + 1) (by omega);rwa [show at_ + (j + 1) = at_ + 1 + j by omega] at this) (by rwa [show at_ + (n + 1) = at_ + 1 + n by omega] at h3)]
theorem spanL_le {p:Int -> Bool} (l:List UInt8):spanL p l <= l.length:=by
 induction l with
 | nil=>simp [spanL]
 | cons b r ih =>
  rw [spanL]
  split
  ·simp;omega
  ·simp
def Pred (k:Nat) (p:Int -> Bool):Prop:=(∀ (c:Int) (w:World),0 <= c -> c <= 255 -> Calls Tryd.prog k #[.int .u8 c] w fun e w' => e = .returned (.bool (p c)) /\ Below w.heap.size w w') /\ ∀ (c:Int) (w:World),(callFunc k #[.int .u8 c]).run Tryd.prog w = .ok (.enter k #[.int .u8 c]) w
theorem Drawn0.below {w w' : World} (h:Drawn0 w w'):Below w.heap.size w w':=by
 obtain ⟨n,rfl⟩:=h.out
 exact ⟨rfl,rfl,rfl,Nat.le_refl _,fun _ _=>rfl⟩
def isBlank (c:Int):Bool:=(c == 32) || (c == 9) || (c == 10) || (c == 13)
def notNl (c:Int):Bool:=c != 10
def isPartB (c:Int):Bool:=(c == 95) || (decide (Go.bits .or .u8 c 32 >= 97) && decide (Go.bits .or .u8 c 32 <= 122)) || isDig c
theorem blank_pred:Pred 32 isBlank:=by
 refine ⟨fun c w h0 h1 => ?_,fun c w=>by kernel_rfl⟩
 go_enter Tryd.func32,Tryd.ntmps32
 by_cases h32:c = 32
 ·subst h32
  go_wp2
  go_ret
  exact ⟨rfl,Below.refl _ _⟩
 have e32:(c == 32) = false:=by simp [h32]
 by_cases h9:c = 9
 ·subst h9
  go_wp2
  go_ret
  exact ⟨rfl,Below.refl _ _⟩
 have e9:(c == 9) = false:=by simp [h9]
 by_cases h10:c = 10
 ·subst h10
  go_wp2
  go_ret
  exact ⟨rfl,Below.refl _ _⟩
 have e10:(c == 10) = false:=by simp [h10]
 obtain ⟨b,hb⟩:∃ b,(c == 13) = b:=⟨_,rfl⟩
 go_wp2
 go_ret
 exact ⟨by rw [<- hb];simp [isBlank,h32,h9,h10],Below.refl _ _⟩
theorem nl_pred:Pred 34 notNl:=by
 refine ⟨fun c w h0 h1 => ?_,fun c w=>by kernel_rfl⟩
 go_enter Tryd.func34,Tryd.ntmps34
 go_wp2
 go_ret
 exact ⟨rfl,Below.refl _ _⟩
theorem part_f (c:Int):PParseBlanks.lex_isPart.f c = some (isPartB c):=by
 unfold PParseBlanks.lex_isPart.f PParseBlanks.lex_isLetter.f isPartB
 rw [dig_f]
 by_cases h:c = 95
 ·simp [h]
 ·have h' : (c == 95) = false:=by simp [h]
  by_cases h2:Go.bits .or .u8 c 32 >= 97
  ·by_cases h3:Go.bits .or .u8 c 32 <= 122 <;> simp [h,h2,h3]
  ·simp [h,h2]
theorem part_pred:Pred 35 isPartB:=⟨fun c w h0 h1=>(PParseBlanks.lex_isPart.calls c _ w (part_f c)).mono fun e w' h=>⟨h.1,Drawn0.below h.2⟩,fun c w=>by kernel_rfl⟩
abbrev lxC (s:ByteArray) (at_:Int) (mp:Value):Array Value:=#[.string s,.int .i64 at_,mp]
set_option maxRecDepth 100000 in
set_option maxHeartbeats 4000000 in
theorem span_said (k:Nat) (p:Int -> Bool) (PK:Pred k p) (m:Nat) (s:ByteArray) (at_:Nat) (mp:Value) (w:World) (H:Has w m (lxC s at_ mp) 65) (ha:at_ <= s.size) (hs:s.size < 4611686018427387904) :
  Calls Tryd.prog 31 #[.pointer (some ⟨m,0,none⟩),.func (.func k) #[] #[]] w fun e w' => e = .returned (.int .i64 (spanL p (fromN s at_))) /\ Below w.heap.size w w':=by
 have HP:=am PK.1
 have hcf:=PK.2
 have HH:=am H
 have B0:=am (Below.refl w.heap.size w)
 clear PK H
 go_enter Tryd.func31,Tryd.ntmps31
 go_wp2
 go_loopw [5] (fun v wr => ∃ n:Nat,v = .int .i64 (n:Int) /\ at_ + n <= s.size /\ Aside0 (∀ j:Nat,j < n -> p (bt s ((at_ + j:Nat):Int)) = true) /\ Aside0 (Below w.heap.size w wr)) (fun v _=>s.size - (intOf v).toNat)
 case atStart=>exact ⟨0,rfl,by omega,⟨fun j hj=>by omega⟩,B0⟩
 case round =>
  clear B0
  obtain ⟨n,rfl,hn,HJ,HB⟩:=hrel
  have HD:=am (below_drew HB.out)
  have H1:=HH.out.belowS HD.out
  have kw:IntKind.i64.wrap ((at_:Int) + (n:Int)) = (at_:Int) + (n:Int):=IntWalk.i64_in _ (by omega)
  have kw2:wrap64 ((at_:Int) + (n:Int)) = (at_:Int) + (n:Int):=by unfold wrap64;omega
  obtain ⟨W,hW⟩:∃ W,wr.drew = W:=⟨_,rfl⟩
  rw [hW] at H1 HD
  go_wp2
  refine region_treeQ (by kernel_rfl) (fun w' => Has w' m (lxC s at_ mp) 65) (hW ▸ H1) fun hS => ?_
  rw [hW] at hS ⊢
  clear hW
  generalize hQQ:Exit.then _ _ = QQ
  have hsure:Sure QQ:=by
   rw [<- hQQ]
   intro c a a' w1 hd h
   simp +zetaDelta only [Exit.then,Exit.inBlock,bodyPost] at h ⊢
   first | (simp at h;done) | simpa [hd] using h
  by_cases hlt:at_ + n < s.size
  ·have hd:decide ((at_:Int) + (n:Int) < (s.size:Int)) = true:=decide_eq_true (by omega)
   refine tqh hsure hS 0 ?_
   apply Exists.intro
   apply And.intro
   ·rintro w' k1
    apply VR.mk
    go_simp
    with_reducible rfl
   simp only [sA,sB,sC]
   refine tqh hsure hS 1 ?_
   apply Exists.intro
   apply And.intro
   ·rintro w' k1
    apply VR.mk
    go_simp
    with_reducible rfl
   simp only [sA,sB,sC]
   refine tqh hsure hS 2 ?_
   apply Exists.intro
   apply And.intro
   ·rintro w' k1
    apply VR.mk
    go_simp
    with_reducible rfl
   simp only [sA,sB,sC]
   refine tqh hsure hS 3 ?_
   apply Exists.intro
   apply And.intro
   ·rintro w' k1
    have cc0:=hci k1 1 rfl
    apply VR.mk
    go_simp
    with_reducible rfl
   simp only [sA,sB,sC]
   refine tqh hsure hS 4 ?_
   apply Exists.intro
   apply And.intro
   ·rintro w' k1
    apply VR.mk
    go_simp
    with_reducible rfl
   simp only [sA,sB,sC]
   refine tqh hsure hS 5 ?_
   apply Exists.intro
   apply And.intro
   ·rintro w' k1
    apply VR.mk
    go_simp
    with_reducible rfl
   simp only [sA,sB,sC]
   try (first | rw [kw] | rw [kw2])
   refine tqh hsure hS 6 ?_
   apply Exists.intro
   apply And.intro
   ·rintro w' k1
    apply VR.mk
    go_simp
    with_reducible rfl
   simp only [sA,sB,sC]
   refine tqh hsure hS 7 ?_
   apply Exists.intro
   apply And.intro
   ·rintro w' k1
    apply VR.mk
    go_simp
    with_reducible rfl
   simp only [sA,sB,sC]
   refine tqh hsure hS 8 ?_
   apply Exists.intro
   apply And.intro
   ·rintro w' k1
    apply VR.mk
    go_simp
    with_reducible rfl
   simp only [sA,sB,sC]
   refine tqh hsure hS 9 ?_
   apply Exists.intro
   apply And.intro
   ·rintro w' k1
    have cc0:=hci k1 0 rfl
    apply VR.mk
    go_simp
    with_reducible rfl
   simp only [sA,sB,sC]
   refine tqh hsure hS 10 ?_
   apply Exists.intro
   apply And.intro
   ·rintro w' k1
    apply VR.mk
    go_simp
    with_reducible rfl
   simp only [sA,sB,sC]
   refine tqh hsure hS 11 ?_
   apply Exists.intro
   apply And.intro
   ·rintro w' k1
    apply VR.mk
    go_simp
    with_reducible rfl
   simp only [sA,sB,sC]
   refine tqh hsure hS 12 ?_
   apply Exists.intro
   apply And.intro
   ·rintro w' k1
    apply VR.mk
    go_simp
    with_reducible rfl
   simp only [sA,sB,sC]
   refine tqh hsure hS 13 ?_
   apply Exists.intro
   apply And.intro
   ·rintro w' k1
    apply VR.mk
    go_simp
    with_reducible rfl
   simp only [sA,sB,sC]
   refine tqh hsure hS 14 ?_
   apply Exists.intro
   apply And.intro
   ·rintro w' k1
    apply VR.mk
    go_simp
    with_reducible rfl
   simp only [sA,sB,sC]
   refine tqh hsure hS 15 ?_
   apply Exists.intro
   apply And.intro
   ·rintro w' k1
    apply VR.mk
    go_simp
    with_reducible rfl
   simp only [sA,sB,sC]
   refine tqh hsure hS 16 ?_
   apply Exists.intro
   apply And.intro
   ·rintro w' k1
    apply VR.mk
    go_simp
    with_reducible rfl
   simp only [sA,sB,sC]
   refine tqh hsure hS 17 ?_
   apply Exists.intro
   apply And.intro
   ·rintro w' k1
    have cc0:=hci k1 0 rfl
    apply VR.mk
    go_simp
    with_reducible rfl
   simp only [sA,sB,sC]
   refine tqh hsure hS 18 ?_
   apply Exists.intro
   apply And.intro
   ·rintro w' k1
    apply VR.mk
    go_simp
    with_reducible rfl
   simp only [sA,sB,sC]
   refine tqh hsure hS 19 ?_
   apply Exists.intro
   apply And.intro
   ·rintro w' k1
    apply VR.mk
    go_simp
    with_reducible rfl
   simp only [sA,sB,sC]
   refine tqh hsure hS 20 ?_
   apply Exists.intro
   apply And.intro
   ·rintro w' k1
    apply VR.mk
    go_simp
    with_reducible rfl
   simp only [sA,sB,sC]
   refine tqh hsure hS 21 ?_
   apply Exists.intro
   apply And.intro
   ·rintro w' k1
    have cc0:=hci k1 1 rfl
    apply VR.mk
    go_simp
    with_reducible rfl
   simp only [sA,sB,sC]
   refine tqh hsure hS 22 ?_
   apply Exists.intro
   apply And.intro
   ·rintro w' k1
    apply VR.mk
    go_simp
    with_reducible rfl
   simp only [sA,sB,sC]
   refine tqh hsure hS 23 ?_
   apply Exists.intro
   apply And.intro
   ·rintro w' k1
    apply VR.mk
    go_simp
    with_reducible rfl
   simp only [sA,sB,sC]
   try (first | rw [kw] | rw [kw2])
   refine tqh hsure hS 24 ?_
   apply Exists.intro
   apply And.intro
   ·rintro w' k1
    apply VR.mk
    go_simp
    rw [dif_pos (show 0 <= (at_:Int) + (n:Int) /\ (at_:Int) + (n:Int) < (s.size:Int) from ⟨by omega,by omega⟩),bt_at s ((at_:Int) + (n:Int))]
    exact rfl
   simp only [sA,sB,sC]
   have hbr:=bt_range s ((at_:Int) + (n:Int))
   refine tree_1Q (i:=25) (by kernel_rfl) ?_
   refine step_callQ (by rfl) (by rfl) (by rfl) (ER_go (by go_simp;first | with_reducible exact ⟨rfl,rfl⟩ | with_reducible rfl)) ?_
   refine (HP.out _ W hbr.1 hbr.2).mono ?_
   rintro en w2 ⟨rfl,hb2⟩
   refine .inl ⟨_,rfl,hS.belowS hb2, ?_⟩
   simp only [sA,sB,sC]
   obtain ⟨pb,hpb⟩:∃ pb,p (bt s ((at_:Int) + (n:Int))) = pb:=⟨_,rfl⟩
   rw [hpb]
   refine treeQ_h hsure (hS.belowS hb2) (i:=26) (by kernel_rfl) (by rfl) (by rfl) (by kernel_rfl) (by rfl) ?_
   apply Exists.intro
   apply And.intro
   ·rintro w' k1
    apply VR.mk
    go_simp
    with_reducible rfl
   simp only [sA,sB,sC]
   refine tree_endQ (by kernel_rfl) ?_
   rw [<- hQQ]
   have hpb2:p (bt s ((at_ + n:Nat):Int)) = pb:=by rw [<- hpb];rfl
   cases pb with
   | true =>
    go_wp2
    exact ⟨⟨n + 1,by simp,by omega,⟨fun j hj=>by
     by_cases e:j = n
     ·subst e;exact hpb2
     ·exact HJ.out j (by omega)⟩,⟨below_then HD.out HD.out.size hb2⟩⟩,by simp [intOf];omega⟩
   | false =>
    go_wp2
    go_ret
    rw [spanL_eq at_ n (by omega) HJ.out (.inr hpb2)]
    exact ⟨rfl,below_then HD.out HD.out.size hb2⟩
  ·have hd:decide ((at_:Int) + (n:Int) < (s.size:Int)) = false:=decide_eq_false (by omega)
   refine tqh hsure hS 0 ?_
   apply Exists.intro
   apply And.intro
   ·rintro w' k1
    apply VR.mk
    go_simp
    with_reducible rfl
   simp only [sA,sB,sC]
   refine tqh hsure hS 1 ?_
   apply Exists.intro
   apply And.intro
   ·rintro w' k1
    apply VR.mk
    go_simp
    with_reducible rfl
   simp only [sA,sB,sC]
   refine tqh hsure hS 2 ?_
   apply Exists.intro
   apply And.intro
   ·rintro w' k1
    apply VR.mk
    go_simp
    with_reducible rfl
   simp only [sA,sB,sC]
   refine tqh hsure hS 3 ?_
   apply Exists.intro
   apply And.intro
   ·rintro w' k1
    have cc0:=hci k1 1 rfl
    apply VR.mk
    go_simp
    with_reducible rfl
   simp only [sA,sB,sC]
   refine tqh hsure hS 4 ?_
   apply Exists.intro
   apply And.intro
   ·rintro w' k1
    apply VR.mk
    go_simp
    with_reducible rfl
   simp only [sA,sB,sC]
   refine tqh hsure hS 5 ?_
   apply Exists.intro
   apply And.intro
   ·rintro w' k1
    apply VR.mk
    go_simp
    with_reducible rfl
   simp only [sA,sB,sC]
   try (first | rw [kw] | rw [kw2])
   refine tqh hsure hS 6 ?_
   apply Exists.intro
   apply And.intro
   ·rintro w' k1
    apply VR.mk
    go_simp
    with_reducible rfl
   simp only [sA,sB,sC]
   refine tqh hsure hS 7 ?_
   apply Exists.intro
   apply And.intro
   ·rintro w' k1
    apply VR.mk
    go_simp
    with_reducible rfl
   simp only [sA,sB,sC]
   refine tqh hsure hS 8 ?_
   apply Exists.intro
   apply And.intro
   ·rintro w' k1
    apply VR.mk
    go_simp
    with_reducible rfl
   simp only [sA,sB,sC]
   refine tqh hsure hS 9 ?_
   apply Exists.intro
   apply And.intro
   ·rintro w' k1
    have cc0:=hci k1 0 rfl
    apply VR.mk
    go_simp
    with_reducible rfl
   simp only [sA,sB,sC]
   refine tqh hsure hS 10 ?_
   apply Exists.intro
   apply And.intro
   ·rintro w' k1
    apply VR.mk
    go_simp
    with_reducible rfl
   simp only [sA,sB,sC]
   refine tqh hsure hS 11 ?_
   apply Exists.intro
   apply And.intro
   ·rintro w' k1
    apply VR.mk
    go_simp
    with_reducible rfl
   simp only [sA,sB,sC]
   refine tqh hsure hS 12 ?_
   apply Exists.intro
   apply And.intro
   ·rintro w' k1
    apply VR.mk
    go_simp
    with_reducible rfl
   simp only [sA,sB,sC]
   refine treeQ_hs hsure hS (i:=13) (by kernel_rfl) (by rfl) ⟨_,by rfl,by rfl, ?_⟩ (by kernel_rfl)
   simp only [sA,sB,sC]
   refine treeQ_hs hsure hS (i:=14) (by kernel_rfl) (by rfl) ⟨_,by rfl,by rfl, ?_⟩ (by kernel_rfl)
   simp only [sA,sB,sC]
   refine treeQ_hs hsure hS (i:=15) (by kernel_rfl) (by rfl) ⟨_,by rfl,by rfl, ?_⟩ (by kernel_rfl)
   simp only [sA,sB,sC]
   refine treeQ_hs hsure hS (i:=16) (by kernel_rfl) (by rfl) ⟨_,by rfl,by rfl, ?_⟩ (by kernel_rfl)
   simp only [sA,sB,sC]
   refine treeQ_hs hsure hS (i:=17) (by kernel_rfl) (by rfl) ⟨_,by rfl,by rfl, ?_⟩ (by kernel_rfl)
   simp only [sA,sB,sC]
   refine treeQ_hs hsure hS (i:=18) (by kernel_rfl) (by rfl) ⟨_,by rfl,by rfl, ?_⟩ (by kernel_rfl)
   simp only [sA,sB,sC]
   refine treeQ_hs hsure hS (i:=19) (by kernel_rfl) (by rfl) ⟨_,by rfl,by rfl, ?_⟩ (by kernel_rfl)
   simp only [sA,sB,sC]
   refine treeQ_hs hsure hS (i:=20) (by kernel_rfl) (by rfl) ⟨_,by rfl,by rfl, ?_⟩ (by kernel_rfl)
   simp only [sA,sB,sC]
   refine treeQ_hs hsure hS (i:=21) (by kernel_rfl) (by rfl) ⟨_,by rfl,by rfl, ?_⟩ (by kernel_rfl)
   simp only [sA,sB,sC]
   refine treeQ_hs hsure hS (i:=22) (by kernel_rfl) (by rfl) ⟨_,by rfl,by rfl, ?_⟩ (by kernel_rfl)
   simp only [sA,sB,sC]
   refine treeQ_hs hsure hS (i:=23) (by kernel_rfl) (by rfl) ⟨_,by rfl,by rfl, ?_⟩ (by kernel_rfl)
   simp only [sA,sB,sC]
   refine treeQ_hs hsure hS (i:=24) (by kernel_rfl) (by rfl) ⟨_,by rfl,by rfl, ?_⟩ (by kernel_rfl)
   simp only [sA,sB,sC]
   refine treeQ_hs hsure hS (i:=25) (by kernel_rfl) (by rfl) ⟨_,by rfl,by rfl, ?_⟩ (by kernel_rfl)
   simp only [sA,sB,sC]
   refine tqh hsure hS 26 ?_
   apply Exists.intro
   apply And.intro
   ·rintro w' k1
    apply VR.mk
    go_simp
    with_reducible rfl
   simp only [sA,sB,sC]
   refine tree_endQ (by kernel_rfl) ?_
   rw [<- hQQ]
   go_wp2
   go_ret
   rw [spanL_eq at_ n (by omega) HJ.out (.inl (by omega))]
   exact ⟨rfl,HD.out⟩
end Go.Proofs.YtngpgdmafmkddaaDoor.Lex
end
section
namespace Go.Proofs.YtngpgdmafmkddaaDoor.Lex
open Go.Proofs.YtngpgdmafmkddaaDoor.Calm Go.Proofs.YtngpgdmafmkddaaDoor.Par Go.RowKit Go.Proofs.YtngpgdmafmkddaaDoorW.PrintWords Go.Proofs.YtngpgdmafmkddaaDoorW.PrintLast Go.Proofs.YtngpgdmafmkddaaDoorW.PrintMore
open Go.Proofs.YtngpgdmafmkddaaDoor.PParseBlanks (S35 S25 S27 k35 k25 k27 rd_T35 rd_T25 rd_T27 at_T35 at_T25 at_T27)
set_option linter.unusedVariables false
set_option linter.unusedSimpArgs false
theorem pre_eq (p l:List UInt8) (h:p.length <= l.length):(l.take p.length == p) = p.isPrefixOf l:=by
 rw [Bool.eq_iff_iff,beq_iff_eq,List.isPrefixOf_iff_prefix,List.prefix_iff_eq_take]
 exact eq_comm
theorem pre_short (p l:List UInt8) (h:l.length < p.length):p.isPrefixOf l = false:=by
 rw [Bool.eq_false_iff]
 intro h2
 have:=(List.isPrefixOf_iff_prefix.1 h2).length_le
 omega
theorem ext0 (a:ByteArray) (n:Nat):(a.extract 0 n).toList = a.data.toList.take n:=by
 rw [ByteArray.toList_eq,ByteArray.data_extract,Array.toList_extract,List.extract_eq_take_drop]
 simp
theorem pre_f (a b:ByteArray):PParseBlanks.strings_HasPrefix.f a b = some (b.data.toList.isPrefixOf a.data.toList):=by
 unfold PParseBlanks.strings_HasPrefix.f PParseBlanks.stringslite_HasPrefix.f
 have hb:b.data.toList.length = b.size:=by simp
 have ha:a.data.toList.length = a.size:=by simp
 by_cases h:(a.size:Int) >= (b.size:Int)
 ·rw [if_pos h,if_pos (by omega),if_pos (by omega)]
  simp only [Option.bind_some,Int.toNat_natCast]
  rw [ext0,ByteArray.toList_eq, <- hb,pre_eq _ _ (by omega)]
 ·rw [if_neg h]
  simp only [Option.bind_some]
  rw [pre_short _ _ (by omega)]
theorem pre_said (a b:ByteArray) (w:World):Calls Tryd.prog 33 #[.string a,.string b] w fun e w' => e = .returned (.bool (b.data.toList.isPrefixOf a.data.toList)) /\ Below w.heap.size w w' :=
 (PParseBlanks.strings_HasPrefix.calls a b _ w (pre_f a b)).mono fun e w' h=>⟨h.1,Drawn0.below h.2⟩
theorem ext_from (s:ByteArray) (i:Nat):(s.extract i s.size).data.toList = fromN s i:=by
 rw [ByteArray.data_extract,Array.toList_extract,List.extract_eq_take_drop]
 exact List.take_of_length_le (by simp)
theorem from_from (s:ByteArray) (i n:Nat):(fromN s i).drop n = fromN s (i + n):=List.drop_drop
theorem from_len (s:ByteArray) (i:Nat):(fromN s i).length = s.size - i:=by simp
abbrev sSlash:ByteArray:=⟨#[47,47]⟩
def skipN:Nat -> List UInt8 -> Nat
 | 0,_=>0
 | k + 1,l =>
  if [47,47].isPrefixOf (l.drop (spanL isBlank l)) = true then
   spanL isBlank l + spanL notNl (l.drop (spanL isBlank l)) + skipN k (l.drop (spanL isBlank l + spanL notNl (l.drop (spanL isBlank l))))
  else if spanL isBlank l = 0 then 0 else spanL isBlank l + skipN k (l.drop (spanL isBlank l))
theorem slash_span {l:List UInt8} (h : [47,47].isPrefixOf l = true):2 <= spanL notNl l:=by
 match l,h with
 | [],h=>exact absurd h (by decide)
 | [a],h=>simp [List.isPrefixOf] at h
 | a :: b :: r,h =>
  obtain ⟨rfl,rfl⟩:47 = a /\ 47 = b:=by simpa [List.isPrefixOf] using h
  have e:spanL notNl (47 :: 47 :: r) = spanL notNl r + 1 + 1:=rfl
  omega
set_option maxRecDepth 100000 in
set_option maxHeartbeats 4000000 in
theorem skip_said (m:Nat) (s:ByteArray) (a0:Nat) (mp:Value) (w:World) (H:Has w m (lxC s a0 mp) 65) (ha:a0 <= s.size) (hs:s.size < 4611686018427387904) :
  Calls Tryd.prog 22 #[.pointer (some ⟨m,0,none⟩)] w fun e w' => e = .returned (.tuple #[]) /\ Kept (fun b=>b = m) w w' /\ Has w' m (lxC s (a0 + skipN (s.size - a0 + 1) (fromN s a0):Nat) mp) 65 /\ a0 + skipN (s.size - a0 + 1) (fromN s a0) <= s.size:=by
 have HST:Aside0 (∃ a:Nat,a <= s.size /\ Has w m (lxC s a mp) 65 /\ Kept (fun b=>b = m) w w /\ a + skipN (s.size - a0 + 1) (fromN s a) = a0 + skipN (s.size - a0 + 1) (fromN s a0) /\ s.size - a < s.size - a0 + 1):=⟨a0,ha,H,Kept.refl _ w,rfl,by omega⟩
 clear H ha
 obtain ⟨R,hR⟩:∃ R,a0 + skipN (s.size - a0 + 1) (fromN s a0) = R:=⟨_,rfl⟩
 obtain ⟨K,hK⟩:∃ K,s.size - a0 + 1 = K:=⟨_,rfl⟩
 rw [hR,hK] at HST
 rw [hR]
 clear hR hK
 go_enter Tryd.func22,Tryd.ntmps22
 go_wp2
 go_loopg [2] K (fun k v wr=>Aside0 (∃ a:Nat,a <= s.size /\ Has wr m (lxC s a mp) 65 /\ Kept (fun b=>b = m) w wr /\ a + skipN k (fromN s a) = R /\ s.size - a < k))
 case atStart=>exact HST
 case round =>
  clear HST
  obtain ⟨a,ha,hH,hK,hR,hk⟩:=hrel.out
  clear hrel
  cases gk with
  | zero=>omega
  | succ k =>
   have HH:=am hH
   have HK:=am hK
   clear hH hK
   obtain ⟨n,hn⟩:∃ n,spanL isBlank (fromN s a) = n:=⟨_,rfl⟩
   have hle:n <= s.size - a:=by rw [<- hn, <- from_len];exact spanL_le _
   simp only [skipN] at hR
   rw [hn,from_from] at hR
   have HN:=am hn
   clear hn
   go_upto_region 1 with (
    go_at_call 31
    (with_reducible refine Calls.mono (span_said 32 isBlank blank_pred m s a mp _ HH.out ha hs) ?_)
    rintro en w1 ⟨he,hb⟩
    rw [HN.out] at he
    subst he
    replace HH:=am (HH.out.belowS hb)
    replace HK:=am (HK.out.below hb))
   have hD:=below_drew (Below.refl w1.heap.size w1)
   replace HH:=am (HH.out.belowS hD)
   replace HK:=am (HK.out.below hD)
   clear hD
   obtain ⟨W,hW⟩:∃ W,w1.drew = W:=⟨_,rfl⟩
   rw [hW] at HH HK
   have kw:IntKind.i64.wrap ((a:Int) + (n:Int)) = (a:Int) + (n:Int):=IntWalk.i64_in _ (by omega)
   have kn:((a:Int) + (n:Int)).toNat = a + n:=by omega
   have kw2:wrap64 ((a:Int) + (n:Int)) = (a:Int) + (n:Int):=by unfold wrap64;omega
   refine region_treeQ (by kernel_rfl) (fun w' => Has w' m (lxC s a mp) 65) (hW ▸ HH.out) fun hS => ?_
   rw [hW] at hS ⊢
   clear hW
   generalize hQQ:Exit.then _ _ = QQ
   have hsure:Sure QQ:=by
    rw [<- hQQ]
    intro c a a' w1 hd h
    simp +zetaDelta only [Exit.then,Exit.inBlock,bodyPost] at h ⊢
    first | (simp at h;done) | simpa [hd] using h
   refine tqh hsure hS 0 ?_
   apply Exists.intro
   apply And.intro
   ·rintro w' k1
    apply VR.mk
    go_simp
    with_reducible rfl
   simp only [sA,sB,sC]
   refine tqh hsure hS 1 ?_
   apply Exists.intro
   apply And.intro
   ·rintro w' k1
    apply VR.mk
    go_simp
    with_reducible rfl
   simp only [sA,sB,sC]
   refine tqh hsure hS 2 ?_
   apply Exists.intro
   apply And.intro
   ·rintro w' k1
    apply VR.mk
    go_simp
    with_reducible rfl
   simp only [sA,sB,sC]
   refine tqh hsure hS 3 ?_
   apply Exists.intro
   apply And.intro
   ·rintro w' k1
    have cc0:=hci k1 0 rfl
    apply VR.mk
    go_simp
    with_reducible rfl
   simp only [sA,sB,sC]
   refine tqh hsure hS 4 ?_
   apply Exists.intro
   apply And.intro
   ·rintro w' k1
    apply VR.mk
    go_simp
    with_reducible rfl
   simp only [sA,sB,sC]
   refine tqh hsure hS 5 ?_
   apply Exists.intro
   apply And.intro
   ·rintro w' k1
    apply VR.mk
    go_simp
    with_reducible rfl
   simp only [sA,sB,sC]
   refine tqh hsure hS 6 ?_
   apply Exists.intro
   apply And.intro
   ·rintro w' k1
    apply VR.mk
    go_simp
    with_reducible rfl
   simp only [sA,sB,sC]
   refine tqh hsure hS 7 ?_
   apply Exists.intro
   apply And.intro
   ·rintro w' k1
    have cc0:=hci k1 1 rfl
    apply VR.mk
    go_simp
    with_reducible rfl
   simp only [sA,sB,sC]
   refine tqh hsure hS 8 ?_
   apply Exists.intro
   apply And.intro
   ·rintro w' k1
    apply VR.mk
    go_simp
    with_reducible rfl
   simp only [sA,sB,sC]
   refine tqh hsure hS 9 ?_
   apply Exists.intro
   apply And.intro
   ·rintro w' k1
    apply VR.mk
    go_simp
    with_reducible rfl
   simp only [sA,sB,sC]
   refine tqh hsure hS 10 ?_
   apply Exists.intro
   apply And.intro
   ·rintro w' k1
    apply VR.mk
    go_simp
    refine (if_pos ⟨by omega,by omega⟩).trans ?_
    with_reducible rfl
   simp only [sA,sB,sC]
   refine tree_1Q (i:=11) (by kernel_rfl) ?_
   refine step_callQ (by rfl) (by rfl) (by rfl) (ER_go (by go_simp;first | with_reducible exact ⟨rfl,rfl⟩ | with_reducible rfl)) ?_
   refine (pre_said (s.extract (a + n) s.size) sSlash W).mono ?_
   rintro en w2 ⟨rfl,hb2⟩
   rw [ext_from]
   refine .inl ⟨_,rfl,hS.belowS hb2, ?_⟩
   simp only [sA,sB,sC]
   refine tree_endQ (by kernel_rfl) ?_
   rw [<- hQQ]
   clear hsure hQQ hS
   replace HH:=am (HH.out.belowS hb2)
   replace HK:=am (HK.out.below hb2)
   cases hsl : [47,47].isPrefixOf (fromN s (a + n)) with
   | true =>
    rw [if_pos hsl] at hR
    have h2:=slash_span hsl
    obtain ⟨n1,hn1⟩:∃ n1,spanL notNl (fromN s (a + n)) = n1:=⟨_,rfl⟩
    rw [hn1] at h2 hR
    have hle1:n1 <= s.size - (a + n):=by rw [<- hn1, <- from_len];exact spanL_le _
    have HN1:=am hn1
    rw [from_from, <- Nat.add_assoc] at hR
    clear hn1 hsl
    have c1:=hci HH.out 1 rfl
    have f1:=HH.out.frozen 1
    have hX:Has (w2.setCell ⟨m,1,none⟩ (.int .i64 ((a:Int) + (n:Int)))) m (lxC s ((a + n:Nat):Int) mp) 65:=HH.out.set_ 1 _
    have hX:=am hX
    have HK2:=am (Kept.setCell (a:=⟨m,1,none⟩) HK.out rfl (.int .i64 ((a:Int) + (n:Int))))
    have kw3:IntKind.i64.wrap (((a + n:Nat):Int) + (n1:Int)) = ((a + n + n1:Nat):Int):=by rw [IntWalk.i64_in _ (by omega)];rfl
    have kz:((n1:Int) == 0) = false:=by simp;omega
    go_wp2_with (
      go_at_call 31
      (with_reducible refine Calls.mono (span_said 34 notNl nl_pred m s (a + n) mp _ hX.out (by omega) hs) ?_)
      rintro en w3 ⟨he,hb3⟩
      rw [HN1.out] at he
      subst he
      have hX3:=am (hX.out.belowS hb3)
      have HK3:=am (HK2.out.below hb3)
      clear c1 f1
      have c3:=hci hX3.out 1 rfl
      have f3:=hX3.out.frozen 1)
    go_roundg k
    case measure=>omega
    case rel=>exact ⟨⟨a + n + n1,by omega,hX3.out.set_ 1 _,Kept.setCell (a:=⟨m,1,none⟩) HK3.out rfl _,by rw [Nat.add_assoc a n n1];exact hR,by omega⟩⟩
   | false =>
    rw [if_neg (by rw [hsl];decide)] at hR
    clear hsl
    have c1:=hci HH.out 1 rfl
    have f1:=HH.out.frozen 1
    by_cases hz:n = 0
    ·rw [if_pos hz] at hR
     have kz:((n:Int) == 0) = true:=by simp [hz]
     clear hz
     go_wp2
     refine bodyPost_ret (results_none rfl _ _ _) rfl ?_
     rw [Nat.add_zero] at hR
     subst hR
     exact ⟨rfl,HK.out,HH.out,ha⟩
    ·rw [if_neg hz] at hR
     have kz:((n:Int) == 0) = false:=by simp;omega
     rw [<- Nat.add_assoc] at hR
     go_wp2
     go_roundg k
     case measure=>omega
     case rel=>exact ⟨⟨a + n,by omega,HH.out.set_ 1 _,Kept.setCell (a:=⟨m,1,none⟩) HK.out rfl _,hR,by omega⟩⟩
end Go.Proofs.YtngpgdmafmkddaaDoor.Lex
end
section
namespace Go.Proofs
open Go.Shelf
def Tryd.lays137_ren:Go.Shelf.Ren:=⟨fun | 137=>59 | 217=>73 | 266=>82 | n=>n,fun | 9=>9 | 5=>5 | 3=>3 | n=>n,fun | n=>n⟩
theorem Tryd.lays137:Go.Proofs.Lays.n137 Tryd.prog Tryd.lays137_ren := {
 mixed:=by kernel_rfl
 f137:=Tryd.func59.trans (congrArg some (by kernel_rfl))
 f217:=Tryd.func73.trans (congrArg some (by kernel_rfl))
 f266:=Tryd.func82.trans (congrArg some (by kernel_rfl))
 t3:=Tryd.underlying3
 a3:=Tryd.isAgg3
 z3:=Tryd.sizeOf3
 v3:=Tryd.zeroValue3
 t5:=Tryd.underlying5
 a5:=Tryd.isAgg5
 z5:=Tryd.sizeOf5
 v5:=Tryd.zeroValue5
 t9:=Tryd.underlying9
 a9:=Tryd.isAgg9
 z9:=Tryd.sizeOf9
 v9:=Tryd.zeroValue9 }
open Go.RowKit in
theorem Tryd.strings_IndexByte (s:ByteArray) (c:Int) (w:World) :
  Calls Tryd.prog 59 #[.string s,.int .u8 c] w fun e w' => e = .returned (.int .i64 (Lib.indexByte s.data.toList c.toNat.toUInt8)) /\ w' = w:=Any.strings_IndexByte Tryd.lays137 s c w
def Tryd.lays157_ren:Go.Shelf.Ren:=⟨fun | 157=>30 | 229=>55 | 199=>56 | 261=>72 | 311=>80 | 312=>81 | n=>n,fun | 9=>9 | 31=>39 | 3=>3 | 5=>5 | 4=>4 | 119=>94 | 0=>0 | 40=>96 | 152=>107 | 21=>21 | 154=>109 | 51=>110 | 141=>112 | 196=>121 | 193=>118 | 198=>124 | 49=>122 | 194=>119 | 201=>127 | 226=>131 | 46=>132 | 227=>133 | n=>n,fun | 0=>0 | 6=>1 | n=>n⟩
theorem Tryd.lays157:Go.Proofs.Lays.n157 Tryd.prog Tryd.lays157_ren := {
 mixed:=by kernel_rfl
 f157:=Tryd.func30.trans (congrArg some (by kernel_rfl))
 f199:=Tryd.func56.trans (congrArg some (by kernel_rfl))
 f229:=Tryd.func55.trans (congrArg some (by kernel_rfl))
 f261:=Tryd.func72.trans (congrArg some (by kernel_rfl))
 f311:=Tryd.func80.trans (congrArg some (by kernel_rfl))
 f312:=Tryd.func81.trans (congrArg some (by kernel_rfl))
 t0:=Tryd.underlying0
 a0:=Tryd.isAgg0
 z0:=Tryd.sizeOf0
 v0:=Tryd.zeroValue0
 t3:=Tryd.underlying3
 a3:=Tryd.isAgg3
 z3:=Tryd.sizeOf3
 v3:=Tryd.zeroValue3
 t4:=Tryd.underlying4
 a4:=Tryd.isAgg4
 z4:=Tryd.sizeOf4
 v4:=Tryd.zeroValue4
 t5:=Tryd.underlying5
 a5:=Tryd.isAgg5
 z5:=Tryd.sizeOf5
 v5:=Tryd.zeroValue5
 t9:=Tryd.underlying9
 a9:=Tryd.isAgg9
 z9:=Tryd.sizeOf9
 v9:=Tryd.zeroValue9
 t21:=Tryd.underlying21
 a21:=Tryd.isAgg21
 z21:=Tryd.sizeOf21
 v21:=Tryd.zeroValue21
 t31:=Tryd.underlying39
 a31:=Tryd.isAgg39
 z31:=Tryd.sizeOf39
 v31:=Tryd.zeroValue39
 t40:=Tryd.underlying96
 a40:=Tryd.isAgg96
 z40:=Tryd.sizeOf96
 v40:=Tryd.zeroValue96
 t46:=Tryd.underlying132
 a46:=Tryd.isAgg132
 z46:=Tryd.sizeOf132
 v46:=Tryd.zeroValue132
 t49:=Tryd.underlying122
 a49:=Tryd.isAgg122
 z49:=Tryd.sizeOf122
 v49:=Tryd.zeroValue122
 t51:=Tryd.underlying110
 a51:=Tryd.isAgg110
 z51:=Tryd.sizeOf110
 v51:=Tryd.zeroValue110
 t119:=Tryd.underlying94
 a119:=Tryd.isAgg94
 z119:=Tryd.sizeOf94
 t141:=Tryd.underlying112
 a141:=Tryd.isAgg112
 z141:=Tryd.sizeOf112
 v141:=Tryd.zeroValue112
 t152:=Tryd.underlying107
 a152:=Tryd.isAgg107
 z152:=Tryd.sizeOf107
 v152:=Tryd.zeroValue107
 t154:=Tryd.underlying109
 a154:=Tryd.isAgg109
 z154:=Tryd.sizeOf109
 v154:=Tryd.zeroValue109
 t193:=Tryd.underlying118
 a193:=Tryd.isAgg118
 z193:=Tryd.sizeOf118
 v193:=Tryd.zeroValue118
 t194:=Tryd.underlying119
 a194:=Tryd.isAgg119
 z194:=Tryd.sizeOf119
 v194:=Tryd.zeroValue119
 t196:=Tryd.underlying121
 a196:=Tryd.isAgg121
 z196:=Tryd.sizeOf121
 v196:=Tryd.zeroValue121
 t198:=Tryd.underlying124
 a198:=Tryd.isAgg124
 z198:=Tryd.sizeOf124
 v198:=Tryd.zeroValue124
 t201:=Tryd.underlying127
 a201:=Tryd.isAgg127
 z201:=Tryd.sizeOf127
 v201:=Tryd.zeroValue127
 t226:=Tryd.underlying131
 a226:=Tryd.isAgg131
 z226:=Tryd.sizeOf131
 v226:=Tryd.zeroValue131
 t227:=Tryd.underlying133
 a227:=Tryd.isAgg133
 z227:=Tryd.sizeOf133
 v227:=Tryd.zeroValue133
 g0:=by kernel_rfl
 g6:=by kernel_rfl }
open Go.RowKit Go.Lib in
theorem Tryd.strings_Fields (s:ByteArray) (w:World) (hs:s.size < 4294967281) (hascii:∀ (j:Nat) b,s.data.toList[j]? = some b -> b.toNat < 128) (htab:Lib.TabIs Tryd.prog w "strings.asciiSpace" .u8 Lib.asciiSpaceTab) :
  Calls Tryd.prog 30 #[.string s] w fun e w' =>
   e = .returned (.slice (some ⟨w.heap.size,0,none⟩) (Lib.fields s.data.toList).length (Lib.fields s.data.toList).length) /\ w' = w.alloc (.cells ((Lib.fields s.data.toList).map fun l=>Value.string ⟨l.toArray⟩).toArray 9):=Any.strings_Fields Tryd.lays157 (by kernel_rfl) (by kernel_rfl) s w hs hascii htab
end Go.Proofs
end
section
namespace Go.Proofs.YtngpgdmafmkddaaDoor.Lex
open Go.Proofs.YtngpgdmafmkddaaDoor.Calm Go.Proofs.YtngpgdmafmkddaaDoor.Par Go.RowKit Go.Proofs.YtngpgdmafmkddaaDoorW.PrintWords Go.Proofs.YtngpgdmafmkddaaDoorW.PrintLast Go.Proofs.YtngpgdmafmkddaaDoorW.PrintMore
open Go.Proofs.YtngpgdmafmkddaaDoor.PParseBlanks (S35 S25 S27 k35 k25 k27 rd_T35 rd_T25 rd_T27 at_T35 at_T25 at_T27)
set_option linter.unusedVariables false
set_option linter.unusedSimpArgs false
theorem idx97_0 (s0 s1 s2 s3 s4 s5 s6 s7 s8 s9 s10:Value) (w:World):(Instr.index 97 (.agg #[s0,s1,s2,s3,s4,s5,s6,s7,s8,s9,s10]) (.int .i64 0)).run Tryd.prog w = .ok s0 w:=by kernel_rfl
theorem idx97_1 (s0 s1 s2 s3 s4 s5 s6 s7 s8 s9 s10:Value) (w:World):(Instr.index 97 (.agg #[s0,s1,s2,s3,s4,s5,s6,s7,s8,s9,s10]) (.int .i64 1)).run Tryd.prog w = .ok s1 w:=by kernel_rfl
theorem idx97_2 (s0 s1 s2 s3 s4 s5 s6 s7 s8 s9 s10:Value) (w:World):(Instr.index 97 (.agg #[s0,s1,s2,s3,s4,s5,s6,s7,s8,s9,s10]) (.int .i64 2)).run Tryd.prog w = .ok s2 w:=by kernel_rfl
theorem idx97_3 (s0 s1 s2 s3 s4 s5 s6 s7 s8 s9 s10:Value) (w:World):(Instr.index 97 (.agg #[s0,s1,s2,s3,s4,s5,s6,s7,s8,s9,s10]) (.int .i64 3)).run Tryd.prog w = .ok s3 w:=by kernel_rfl
theorem idx97_4 (s0 s1 s2 s3 s4 s5 s6 s7 s8 s9 s10:Value) (w:World):(Instr.index 97 (.agg #[s0,s1,s2,s3,s4,s5,s6,s7,s8,s9,s10]) (.int .i64 4)).run Tryd.prog w = .ok s4 w:=by kernel_rfl
theorem idx97_5 (s0 s1 s2 s3 s4 s5 s6 s7 s8 s9 s10:Value) (w:World):(Instr.index 97 (.agg #[s0,s1,s2,s3,s4,s5,s6,s7,s8,s9,s10]) (.int .i64 5)).run Tryd.prog w = .ok s5 w:=by kernel_rfl
theorem idx97_6 (s0 s1 s2 s3 s4 s5 s6 s7 s8 s9 s10:Value) (w:World):(Instr.index 97 (.agg #[s0,s1,s2,s3,s4,s5,s6,s7,s8,s9,s10]) (.int .i64 6)).run Tryd.prog w = .ok s6 w:=by kernel_rfl
theorem idx97_7 (s0 s1 s2 s3 s4 s5 s6 s7 s8 s9 s10:Value) (w:World):(Instr.index 97 (.agg #[s0,s1,s2,s3,s4,s5,s6,s7,s8,s9,s10]) (.int .i64 7)).run Tryd.prog w = .ok s7 w:=by kernel_rfl
theorem idx97_8 (s0 s1 s2 s3 s4 s5 s6 s7 s8 s9 s10:Value) (w:World):(Instr.index 97 (.agg #[s0,s1,s2,s3,s4,s5,s6,s7,s8,s9,s10]) (.int .i64 8)).run Tryd.prog w = .ok s8 w:=by kernel_rfl
theorem idx97_9 (s0 s1 s2 s3 s4 s5 s6 s7 s8 s9 s10:Value) (w:World):(Instr.index 97 (.agg #[s0,s1,s2,s3,s4,s5,s6,s7,s8,s9,s10]) (.int .i64 9)).run Tryd.prog w = .ok s9 w:=by kernel_rfl
theorem idx97_10 (s0 s1 s2 s3 s4 s5 s6 s7 s8 s9 s10:Value) (w:World):(Instr.index 97 (.agg #[s0,s1,s2,s3,s4,s5,s6,s7,s8,s9,s10]) (.int .i64 10)).run Tryd.prog w = .ok s10 w:=by kernel_rfl
abbrev twoSigns:List (List UInt8):=[[45,62],[61,62],[58,58],[61,61],[33,61],[60,61],[62,61],[38,38],[124,124],[60,60],[62,62]]
abbrev oneSigns:ByteArray:=⟨#[40,41,123,125,91,93,60,62,43,45,42,47,37,38,124,94,33,61,44,59,58,46]⟩
def signN (l:List UInt8):Nat:=if (twoSigns.any fun p=>p.isPrefixOf l) = true then 2 else match l with
 | []=>0
 | b :: _=>if 0 <= Lib.indexByte oneSigns.data.toList b then 1 else 0
theorem two_at {l:List UInt8} (k:Nat) (hk:k < 11) (h:(twoSigns.getD k []).isPrefixOf l = true):signN l = 2:=by
 unfold signN
 rw [if_pos]
 rw [List.any_eq_true]
 refine ⟨twoSigns.getD k [], ?_,h⟩
 rw [List.getD_eq_getElem?_getD,List.getElem?_eq_getElem (by simpa using hk)]
 exact List.getElem_mem _
theorem two_no {l:List UInt8} (h:∀ k:Nat,k < 11 -> (twoSigns.getD k []).isPrefixOf l = false):(twoSigns.any fun p=>p.isPrefixOf l) = false:=by
 simp only [List.any_cons,List.any_nil,Bool.or_eq_false_iff]
 exact ⟨h 0 (by omega),h 1 (by omega),h 2 (by omega),h 3 (by omega),h 4 (by omega),h 5 (by omega),h 6 (by omega),h 7 (by omega),h 8 (by omega),h 9 (by omega),h 10 (by omega),trivial⟩
theorem byte_back (b:UInt8):((b.toNat:Int)).toNat.toUInt8 = b:=by simp
set_option maxRecDepth 100000 in
set_option maxHeartbeats 4000000 in
theorem sign_said (m:Nat) (s:ByteArray) (a:Nat) (mp:Value) (w:World) (H:Has w m (lxC s a mp) 65) (ha:a < s.size) (hs:s.size < 4611686018427387904) :
  Calls Tryd.prog 36 #[.pointer (some ⟨m,0,none⟩)] w fun e w' => e = .returned (.int .i64 (signN (fromN s a))) /\ Below w.heap.size w w':=by
 have hD:=below_drew (Below.refl w.heap.size w)
 have HH:=am (H.belowS hD)
 have HB:=am hD
 clear H hD
 obtain ⟨b0,e0,hb0⟩:=bt_get ha
 go_enter Tryd.func36,Tryd.ntmps36
 go_wp2
 obtain ⟨W,hW⟩:∃ W,w.drew = W:=⟨_,rfl⟩
 rw [hW] at HH HB
 refine region_treeQ (by kernel_rfl) (fun w' => Has w' m (lxC s a mp) 65) (hW ▸ HH.out) fun hS => ?_
 rw [hW] at hS ⊢
 clear hW
 generalize hQQ:Exit.then _ _ = QQ
 have hsure:Sure QQ:=by
  rw [<- hQQ]
  intro c a a' w1 hd h
  simp +zetaDelta only [Exit.then,Exit.inBlock,bodyPost] at h ⊢
  first | (simp at h;done) | simpa [hd] using h
 refine tqh hsure hS 0 ?_
 apply Exists.intro
 apply And.intro
 ·rintro w' k1
  apply VR.mk
  go_simp
  with_reducible rfl
 simp only [sA,sB,sC]
 refine tqh hsure hS 1 ?_
 apply Exists.intro
 apply And.intro
 ·rintro w' k1
  apply VR.mk
  go_simp
  with_reducible rfl
 simp only [sA,sB,sC]
 refine tqh hsure hS 2 ?_
 apply Exists.intro
 apply And.intro
 ·rintro w' k1
  apply VR.mk
  go_simp
  with_reducible rfl
 simp only [sA,sB,sC]
 refine tqh hsure hS 3 ?_
 apply Exists.intro
 apply And.intro
 ·rintro w' k1
  have cc0:=hci k1 0 rfl
  apply VR.mk
  go_simp
  with_reducible rfl
 simp only [sA,sB,sC]
 refine tqh hsure hS 4 ?_
 apply Exists.intro
 apply And.intro
 ·rintro w' k1
  apply VR.mk
  go_simp
  with_reducible rfl
 simp only [sA,sB,sC]
 refine tqh hsure hS 5 ?_
 apply Exists.intro
 apply And.intro
 ·rintro w' k1
  apply VR.mk
  go_simp
  with_reducible rfl
 simp only [sA,sB,sC]
 refine tqh hsure hS 6 ?_
 apply Exists.intro
 apply And.intro
 ·rintro w' k1
  apply VR.mk
  go_simp
  with_reducible rfl
 simp only [sA,sB,sC]
 refine tqh hsure hS 7 ?_
 apply Exists.intro
 apply And.intro
 ·rintro w' k1
  have cc0:=hci k1 1 rfl
  apply VR.mk
  go_simp
  with_reducible rfl
 simp only [sA,sB,sC]
 refine tqh hsure hS 8 ?_
 apply Exists.intro
 apply And.intro
 ·rintro w' k1
  apply VR.mk
  go_simp
  refine (if_pos (by omega)).trans ?_
  with_reducible rfl
 simp only [sA,sB,sC]
 refine tqh hsure hS 9 ?_
 apply Exists.intro
 apply And.intro
 ·rintro w' k1
  apply VR.mk
  go_simp
  with_reducible rfl
 simp only [sA,sB,sC]
 refine tree_endQ (by kernel_rfl) ?_
 rw [<- hQQ]
 clear hsure hQQ hS
 obtain ⟨rs,hrs⟩:∃ r,s.extract a s.size = r:=⟨_,rfl⟩
 rw [hrs]
 have hrl:rs.data.toList = fromN s a:=by rw [<- hrs];exact ext_from s a
 have hr0:0 < rs.size:=by
  have h:rs.data.toList.length = rs.size:=by simp
  rw [hrl,e0] at h
  simp at h
  omega
 have hrb:bt rs (0:Int) = (b0.toNat:Int):=by
  obtain ⟨b1,e1,h1⟩:=bt_get (s:=rs) (i:=0) hr0
  have h2:fromN rs 0 = fromN s a:=by rw [fromN,List.drop_zero];exact hrl
  rw [h2,e0] at e1
  injection e1 with e1 _
  rw [e1];exact h1
 clear hrs hb0
 have HRL:=am hrl
 have HRB:Aside0 (∀ h:0 < rs.size,rs[0] = b0):=⟨fun h=>by
  unfold bt at hrb
  rw [dif_pos (show (0:Int).toNat < rs.size from h)] at hrb
  exact UInt8.toNat_inj.1 (Int.ofNat.inj hrb)⟩
 clear hrl hrb
 go_wp2
 go_loopw [16] (fun v wr => ∃ i:Int,v = .int .i64 i /\ 0 <= i /\ i <= 11 /\ Aside0 (Below w.heap.size w wr) /\ Aside0 (∀ k:Nat,(k:Int) < i -> (twoSigns.getD k []).isPrefixOf (fromN s a) = false)) (fun v _=>11 - (intOf v).toNat)
 case atStart=>exact ⟨0,rfl,by omega,by omega,HB,⟨fun k hk=>by omega⟩⟩
 case round =>
  clear HB
  obtain ⟨i,rfl,hi0,hi1,HB,HJ⟩:=hrel
  rcases (by omega:i = 0 \/ i = 1 \/ i = 2 \/ i = 3 \/ i = 4 \/ i = 5 \/ i = 6 \/ i = 7 \/ i = 8 \/ i = 9 \/ i = 10 \/ i = 11) with rfl | rfl | rfl | rfl | rfl | rfl | rfl | rfl | rfl | rfl | rfl | rfl
  ·have hx:=idx97_0
   cases hp:List.isPrefixOf [45,62] (fromN s a) with
   | true =>
    have HPP:=am hp
    clear hp
    go_wp2_with (
      go_at_call 33
      (with_reducible refine Calls.mono (pre_said rs ⟨#[45,62]⟩ _) ?_)
      rintro en w2 ⟨he,hb2⟩
      rw [HRL.out,show List.isPrefixOf (ByteArray.data ⟨#[45,62]⟩).toList (fromN s a) = true from HPP.out] at he
      subst he)
    go_ret
    rw [two_at 0 (by omega) HPP.out]
    exact ⟨rfl,below_then HB.out HB.out.size hb2⟩
   | false =>
    have HPP:=am hp
    clear hp
    go_wp2_with (
      go_at_call 33
      (with_reducible refine Calls.mono (pre_said rs ⟨#[45,62]⟩ _) ?_)
      rintro en w2 ⟨he,hb2⟩
      rw [HRL.out,show List.isPrefixOf (ByteArray.data ⟨#[45,62]⟩).toList (fromN s a) = false from HPP.out] at he
      subst he)
    exact ⟨⟨1,rfl,by omega,by omega,⟨below_then HB.out HB.out.size hb2⟩,⟨fun j hj=>by
     by_cases e:j = 0
     ·subst e;exact HPP.out
     ·exact HJ.out j (by omega)⟩⟩,by simp [intOf]⟩
  ·have hx:=idx97_1
   cases hp:List.isPrefixOf [61,62] (fromN s a) with
   | true =>
    have HPP:=am hp
    clear hp
    go_wp2_with (
      go_at_call 33
      (with_reducible refine Calls.mono (pre_said rs ⟨#[61,62]⟩ _) ?_)
      rintro en w2 ⟨he,hb2⟩
      rw [HRL.out,show List.isPrefixOf (ByteArray.data ⟨#[61,62]⟩).toList (fromN s a) = true from HPP.out] at he
      subst he)
    go_ret
    rw [two_at 1 (by omega) HPP.out]
    exact ⟨rfl,below_then HB.out HB.out.size hb2⟩
   | false =>
    have HPP:=am hp
    clear hp
    go_wp2_with (
      go_at_call 33
      (with_reducible refine Calls.mono (pre_said rs ⟨#[61,62]⟩ _) ?_)
      rintro en w2 ⟨he,hb2⟩
      rw [HRL.out,show List.isPrefixOf (ByteArray.data ⟨#[61,62]⟩).toList (fromN s a) = false from HPP.out] at he
      subst he)
    exact ⟨⟨2,rfl,by omega,by omega,⟨below_then HB.out HB.out.size hb2⟩,⟨fun j hj=>by
     by_cases e:j = 1
     ·subst e;exact HPP.out
     ·exact HJ.out j (by omega)⟩⟩,by simp [intOf]⟩
  ·have hx:=idx97_2
   cases hp:List.isPrefixOf [58,58] (fromN s a) with
   | true =>
    have HPP:=am hp
    clear hp
    go_wp2_with (
      go_at_call 33
      (with_reducible refine Calls.mono (pre_said rs ⟨#[58,58]⟩ _) ?_)
      rintro en w2 ⟨he,hb2⟩
      rw [HRL.out,show List.isPrefixOf (ByteArray.data ⟨#[58,58]⟩).toList (fromN s a) = true from HPP.out] at he
      subst he)
    go_ret
    rw [two_at 2 (by omega) HPP.out]
    exact ⟨rfl,below_then HB.out HB.out.size hb2⟩
   | false =>
    have HPP:=am hp
    clear hp
    go_wp2_with (
      go_at_call 33
      (with_reducible refine Calls.mono (pre_said rs ⟨#[58,58]⟩ _) ?_)
      rintro en w2 ⟨he,hb2⟩
      rw [HRL.out,show List.isPrefixOf (ByteArray.data ⟨#[58,58]⟩).toList (fromN s a) = false from HPP.out] at he
      subst he)
    exact ⟨⟨3,rfl,by omega,by omega,⟨below_then HB.out HB.out.size hb2⟩,⟨fun j hj=>by
     by_cases e:j = 2
     ·subst e;exact HPP.out
     ·exact HJ.out j (by omega)⟩⟩,by simp [intOf]⟩
  ·have hx:=idx97_3
   cases hp:List.isPrefixOf [61,61] (fromN s a) with
   | true =>
    have HPP:=am hp
    clear hp
    go_wp2_with (
      go_at_call 33
      (with_reducible refine Calls.mono (pre_said rs ⟨#[61,61]⟩ _) ?_)
      rintro en w2 ⟨he,hb2⟩
      rw [HRL.out,show List.isPrefixOf (ByteArray.data ⟨#[61,61]⟩).toList (fromN s a) = true from HPP.out] at he
      subst he)
    go_ret
    rw [two_at 3 (by omega) HPP.out]
    exact ⟨rfl,below_then HB.out HB.out.size hb2⟩
   | false =>
    have HPP:=am hp
    clear hp
    go_wp2_with (
      go_at_call 33
      (with_reducible refine Calls.mono (pre_said rs ⟨#[61,61]⟩ _) ?_)
      rintro en w2 ⟨he,hb2⟩
      rw [HRL.out,show List.isPrefixOf (ByteArray.data ⟨#[61,61]⟩).toList (fromN s a) = false from HPP.out] at he
      subst he)
    exact ⟨⟨4,rfl,by omega,by omega,⟨below_then HB.out HB.out.size hb2⟩,⟨fun j hj=>by
     by_cases e:j = 3
     ·subst e;exact HPP.out
     ·exact HJ.out j (by omega)⟩⟩,by simp [intOf]⟩
  ·have hx:=idx97_4
   cases hp:List.isPrefixOf [33,61] (fromN s a) with
   | true =>
    have HPP:=am hp
    clear hp
    go_wp2_with (
      go_at_call 33
      (with_reducible refine Calls.mono (pre_said rs ⟨#[33,61]⟩ _) ?_)
      rintro en w2 ⟨he,hb2⟩
      rw [HRL.out,show List.isPrefixOf (ByteArray.data ⟨#[33,61]⟩).toList (fromN s a) = true from HPP.out] at he
      subst he)
    go_ret
    rw [two_at 4 (by omega) HPP.out]
    exact ⟨rfl,below_then HB.out HB.out.size hb2⟩
   | false =>
    have HPP:=am hp
    clear hp
    go_wp2_with (
      go_at_call 33
      (with_reducible refine Calls.mono (pre_said rs ⟨#[33,61]⟩ _) ?_)
      rintro en w2 ⟨he,hb2⟩
      rw [HRL.out,show List.isPrefixOf (ByteArray.data ⟨#[33,61]⟩).toList (fromN s a) = false from HPP.out] at he
      subst he)
    exact ⟨⟨5,rfl,by omega,by omega,⟨below_then HB.out HB.out.size hb2⟩,⟨fun j hj=>by
     by_cases e:j = 4
     ·subst e;exact HPP.out
     ·exact HJ.out j (by omega)⟩⟩,by simp [intOf]⟩
  ·have hx:=idx97_5
   cases hp:List.isPrefixOf [60,61] (fromN s a) with
   | true =>
    have HPP:=am hp
    clear hp
    go_wp2_with (
      go_at_call 33
      (with_reducible refine Calls.mono (pre_said rs ⟨#[60,61]⟩ _) ?_)
      rintro en w2 ⟨he,hb2⟩
      rw [HRL.out,show List.isPrefixOf (ByteArray.data ⟨#[60,61]⟩).toList (fromN s a) = true from HPP.out] at he
      subst he)
    go_ret
    rw [two_at 5 (by omega) HPP.out]
    exact ⟨rfl,below_then HB.out HB.out.size hb2⟩
   | false =>
    have HPP:=am hp
    clear hp
    go_wp2_with (
      go_at_call 33
      (with_reducible refine Calls.mono (pre_said rs ⟨#[60,61]⟩ _) ?_)
      rintro en w2 ⟨he,hb2⟩
      rw [HRL.out,show List.isPrefixOf (ByteArray.data ⟨#[60,61]⟩).toList (fromN s a) = false from HPP.out] at he
      subst he)
    exact ⟨⟨6,rfl,by omega,by omega,⟨below_then HB.out HB.out.size hb2⟩,⟨fun j hj=>by
     by_cases e:j = 5
     ·subst e;exact HPP.out
     ·exact HJ.out j (by omega)⟩⟩,by simp [intOf]⟩
  ·have hx:=idx97_6
   cases hp:List.isPrefixOf [62,61] (fromN s a) with
   | true =>
    have HPP:=am hp
    clear hp
    go_wp2_with (
      go_at_call 33
      (with_reducible refine Calls.mono (pre_said rs ⟨#[62,61]⟩ _) ?_)
      rintro en w2 ⟨he,hb2⟩
      rw [HRL.out,show List.isPrefixOf (ByteArray.data ⟨#[62,61]⟩).toList (fromN s a) = true from HPP.out] at he
      subst he)
    go_ret
    rw [two_at 6 (by omega) HPP.out]
    exact ⟨rfl,below_then HB.out HB.out.size hb2⟩
   | false =>
    have HPP:=am hp
    clear hp
    go_wp2_with (
      go_at_call 33
      (with_reducible refine Calls.mono (pre_said rs ⟨#[62,61]⟩ _) ?_)
      rintro en w2 ⟨he,hb2⟩
      rw [HRL.out,show List.isPrefixOf (ByteArray.data ⟨#[62,61]⟩).toList (fromN s a) = false from HPP.out] at he
      subst he)
    exact ⟨⟨7,rfl,by omega,by omega,⟨below_then HB.out HB.out.size hb2⟩,⟨fun j hj=>by
     by_cases e:j = 6
     ·subst e;exact HPP.out
     ·exact HJ.out j (by omega)⟩⟩,by simp [intOf]⟩
  ·have hx:=idx97_7
   cases hp:List.isPrefixOf [38,38] (fromN s a) with
   | true =>
    have HPP:=am hp
    clear hp
    go_wp2_with (
      go_at_call 33
      (with_reducible refine Calls.mono (pre_said rs ⟨#[38,38]⟩ _) ?_)
      rintro en w2 ⟨he,hb2⟩
      rw [HRL.out,show List.isPrefixOf (ByteArray.data ⟨#[38,38]⟩).toList (fromN s a) = true from HPP.out] at he
      subst he)
    go_ret
    rw [two_at 7 (by omega) HPP.out]
    exact ⟨rfl,below_then HB.out HB.out.size hb2⟩
   | false =>
    have HPP:=am hp
    clear hp
    go_wp2_with (
      go_at_call 33
      (with_reducible refine Calls.mono (pre_said rs ⟨#[38,38]⟩ _) ?_)
      rintro en w2 ⟨he,hb2⟩
      rw [HRL.out,show List.isPrefixOf (ByteArray.data ⟨#[38,38]⟩).toList (fromN s a) = false from HPP.out] at he
      subst he)
    exact ⟨⟨8,rfl,by omega,by omega,⟨below_then HB.out HB.out.size hb2⟩,⟨fun j hj=>by
     by_cases e:j = 7
     ·subst e;exact HPP.out
     ·exact HJ.out j (by omega)⟩⟩,by simp [intOf]⟩
  ·have hx:=idx97_8
   cases hp:List.isPrefixOf [124,124] (fromN s a) with
   | true =>
    have HPP:=am hp
    clear hp
    go_wp2_with (
      go_at_call 33
      (with_reducible refine Calls.mono (pre_said rs ⟨#[124,124]⟩ _) ?_)
      rintro en w2 ⟨he,hb2⟩
      rw [HRL.out,show List.isPrefixOf (ByteArray.data ⟨#[124,124]⟩).toList (fromN s a) = true from HPP.out] at he
      subst he)
    go_ret
    rw [two_at 8 (by omega) HPP.out]
    exact ⟨rfl,below_then HB.out HB.out.size hb2⟩
   | false =>
    have HPP:=am hp
    clear hp
    go_wp2_with (
      go_at_call 33
      (with_reducible refine Calls.mono (pre_said rs ⟨#[124,124]⟩ _) ?_)
      rintro en w2 ⟨he,hb2⟩
      rw [HRL.out,show List.isPrefixOf (ByteArray.data ⟨#[124,124]⟩).toList (fromN s a) = false from HPP.out] at he
      subst he)
    exact ⟨⟨9,rfl,by omega,by omega,⟨below_then HB.out HB.out.size hb2⟩,⟨fun j hj=>by
     by_cases e:j = 8
     ·subst e;exact HPP.out
     ·exact HJ.out j (by omega)⟩⟩,by simp [intOf]⟩
  ·have hx:=idx97_9
   cases hp:List.isPrefixOf [60,60] (fromN s a) with
   | true =>
    have HPP:=am hp
    clear hp
    go_wp2_with (
      go_at_call 33
      (with_reducible refine Calls.mono (pre_said rs ⟨#[60,60]⟩ _) ?_)
      rintro en w2 ⟨he,hb2⟩
      rw [HRL.out,show List.isPrefixOf (ByteArray.data ⟨#[60,60]⟩).toList (fromN s a) = true from HPP.out] at he
      subst he)
    go_ret
    rw [two_at 9 (by omega) HPP.out]
    exact ⟨rfl,below_then HB.out HB.out.size hb2⟩
   | false =>
    have HPP:=am hp
    clear hp
    go_wp2_with (
      go_at_call 33
      (with_reducible refine Calls.mono (pre_said rs ⟨#[60,60]⟩ _) ?_)
      rintro en w2 ⟨he,hb2⟩
      rw [HRL.out,show List.isPrefixOf (ByteArray.data ⟨#[60,60]⟩).toList (fromN s a) = false from HPP.out] at he
      subst he)
    exact ⟨⟨10,rfl,by omega,by omega,⟨below_then HB.out HB.out.size hb2⟩,⟨fun j hj=>by
     by_cases e:j = 9
     ·subst e;exact HPP.out
     ·exact HJ.out j (by omega)⟩⟩,by simp [intOf]⟩
  ·have hx:=idx97_10
   cases hp:List.isPrefixOf [62,62] (fromN s a) with
   | true =>
    have HPP:=am hp
    clear hp
    go_wp2_with (
      go_at_call 33
      (with_reducible refine Calls.mono (pre_said rs ⟨#[62,62]⟩ _) ?_)
      rintro en w2 ⟨he,hb2⟩
      rw [HRL.out,show List.isPrefixOf (ByteArray.data ⟨#[62,62]⟩).toList (fromN s a) = true from HPP.out] at he
      subst he)
    go_ret
    rw [two_at 10 (by omega) HPP.out]
    exact ⟨rfl,below_then HB.out HB.out.size hb2⟩
   | false =>
    have HPP:=am hp
    clear hp
    go_wp2_with (
      go_at_call 33
      (with_reducible refine Calls.mono (pre_said rs ⟨#[62,62]⟩ _) ?_)
      rintro en w2 ⟨he,hb2⟩
      rw [HRL.out,show List.isPrefixOf (ByteArray.data ⟨#[62,62]⟩).toList (fromN s a) = false from HPP.out] at he
      subst he)
    exact ⟨⟨11,rfl,by omega,by omega,⟨below_then HB.out HB.out.size hb2⟩,⟨fun j hj=>by
     by_cases e:j = 10
     ·subst e;exact HPP.out
     ·exact HJ.out j (by omega)⟩⟩,by simp [intOf]⟩
  ·have hno:=two_no (l:=fromN s a) fun k hk=>HJ.out k (by omega)
   obtain ⟨q,hq⟩:∃ q,Lib.indexByte oneSigns.data.toList b0 = q:=⟨_,rfl⟩
   have HQ:Aside0 (Lib.indexByte [40,41,123,125,91,93,60,62,43,45,42,47,37,38,124,94,33,61,44,59,58,46] b0 = q):=⟨hq⟩
   have HQ1:=am hq
   clear hq
   by_cases hq0:0 <= q
   ·have hs0:signN (fromN s a) = 1:=by
     unfold signN
     rw [if_neg (by rw [hno];decide),e0]
     dsimp only
     rw [HQ1.out]
     exact if_pos hq0
    have hd:decide (0 <= q) = true:=decide_eq_true hq0
    have hd2:decide (q >= 0) = true:=decide_eq_true hq0
    have HS0:=am hs0
    clear hs0 hno hq0
    have hg:=HRB.out hr0
    go_wp2_with (
      go_at_call 59
      (with_reducible refine Calls.mono (Tryd.strings_IndexByte oneSigns (b0.toNat:Int) _) ?_)
      rintro en w2 ⟨he,hw2⟩
      rw [byte_back,HQ1.out] at he
      subst he
      subst hw2)
    go_ret
    rw [HS0.out]
    exact ⟨rfl,HB.out⟩
   ·have hs0:signN (fromN s a) = 0:=by
     unfold signN
     rw [if_neg (by rw [hno];decide),e0]
     dsimp only
     rw [HQ1.out]
     exact if_neg hq0
    have hd:decide (0 <= q) = false:=decide_eq_false hq0
    have hd2:decide (q >= 0) = false:=decide_eq_false hq0
    have HS0:=am hs0
    clear hs0 hno hq0
    have hg:=HRB.out hr0
    go_wp2_with (
      go_at_call 59
      (with_reducible refine Calls.mono (Tryd.strings_IndexByte oneSigns (b0.toNat:Int) _) ?_)
      rintro en w2 ⟨he,hw2⟩
      rw [byte_back,HQ1.out] at he
      subst he
      subst hw2)
    go_ret
    rw [HS0.out]
    exact ⟨rfl,HB.out⟩
end Go.Proofs.YtngpgdmafmkddaaDoor.Lex
end
section
namespace Go.Proofs.YtngpgdmafmkddaaDoor.Lex
open Go.Proofs.YtngpgdmafmkddaaDoor.Calm Go.Proofs.YtngpgdmafmkddaaDoor.Par Go.RowKit Go.Proofs.YtngpgdmafmkddaaDoorW.PrintWords Go.Proofs.YtngpgdmafmkddaaDoorW.PrintLast Go.Proofs.YtngpgdmafmkddaaDoorW.PrintMore
open Go.Proofs.YtngpgdmafmkddaaDoor.PParseBlanks (S35 S25 S27 k35 k25 k27 rd_T35 rd_T25 rd_T27 at_T35 at_T25 at_T27)
set_option linter.unusedVariables false
set_option linter.unusedSimpArgs false
open Go.Maps Go.WideMaps
abbrev Tab (w:World):Prop:=Lib.TabBelow Tryd.prog w.heap.size w "strings.asciiSpace" .u8 Lib.asciiSpaceTab
theorem Tab.below {w w' : World} (h:Tab w) (hb:Below w.heap.size w w'):Tab w':=Lib.tabBelow_of_tabIs (h w' hb)
abbrev wordL:List (List UInt8):=[[102,110],[115,116,114,117,99,116],[101,110,117,109],[99,111,110,115,116],[108,101,116],[109,117,116],[105,102],[101,108,115,101],[109,97,116,99,104],[119,104,105,108,101],[108,111,111,112],[98,114,101,97,107],[99,111,110,116,105,110,117,101],[114,101,116,117,114,110],[116,114,117,101],[102,97,108,115,101],[97,115]]
noncomputable abbrev E4:Value -> Option (DataW Unit × List MemPlace):=plainElem Tryd.prog 4
noncomputable def wdD (l:List (List UInt8)):DataW Unit:=l.foldl (fun D p=>D.put (.string p) (.lit (.bool true))) (.map [])
abbrev wordText:ByteArray:=⟨#[102,110,32,115,116,114,117,99,116,32,101,110,117,109,32,99,111,110,115,116,32,108,101,116,32,109,117,116,32,105,102,32,101,108,115,101,32,109,97,116,99,104,32,119,104,105,108,101,32,108,111,111,112,32,98,114,101,97,107,32,99,111,110,116,105,110,117,101,32,114,101,116,117,114,110,32,116,114,117,101,32,102,97,108,115,101,32,97,115]⟩
theorem fields_row:((Lib.fields wordText.data.toList).map fun l=>Value.string ⟨l.toArray⟩).toArray = #[.string ⟨#[102,110]⟩,.string ⟨#[115,116,114,117,99,116]⟩,.string ⟨#[101,110,117,109]⟩,.string ⟨#[99,111,110,115,116]⟩,.string ⟨#[108,101,116]⟩,.string ⟨#[109,117,116]⟩,.string ⟨#[105,102]⟩,.string ⟨#[101,108,115,101]⟩,.string ⟨#[109,97,116,99,104]⟩,.string ⟨#[119,104,105,108,101]⟩,.string ⟨#[108,111,111,112]⟩,.string ⟨#[98,114,101,97,107]⟩,.string ⟨#[99,111,110,116,105,110,117,101]⟩,.string ⟨#[114,101,116,117,114,110]⟩,.string ⟨#[116,114,117,101]⟩,.string ⟨#[102,97,108,115,101]⟩,.string ⟨#[97,115]⟩]:=by kernel_rfl
theorem fields_len:(Lib.fields wordText.data.toList).length = 17:=by kernel_rfl
theorem text_ascii:∀ (j:Nat) b,wordText.data.toList[j]? = some b -> b.toNat < 128:=by
 intro j b h
 have h2:(wordText.data.toList.all fun b=>decide (b.toNat < 128)) = true:=by kernel_rfl
 have h3:=List.all_eq_true.1 h2 b (List.mem_of_getElem? h)
 simpa using h3
set_option maxRecDepth 100000 in
set_option maxHeartbeats 4000000 in
theorem words_said (w:World) (HT:Tab w) :
  Calls Tryd.prog 21 #[] w fun e w' => ∃ b,e = .returned (.map (some b)) /\ w'.ownsMap Tryd.prog 9 E4 b 17 (wdD wordL) /\ w.heap.size <= b /\ Below w.heap.size w w':=by
 have hmm := @run_makeMap Tryd.prog
 have HB0:=am (below_alloc (Below.refl w.heap.size w) (Obj.map #[] 0))
 have HT0:=am (HT w (Below.refl _ _))
 have HTB:Aside0 (Lib.TabIs Tryd.prog (w.alloc (Obj.map #[] 0)) "strings.asciiSpace" .u8 Lib.asciiSpaceTab):=⟨HT _ HB0.out⟩
 have HM0:Aside0 (World.ownsMap ((w.alloc (Obj.map #[] 0)).alloc (Obj.cells #[.string ⟨#[102,110]⟩,.string ⟨#[115,116,114,117,99,116]⟩,.string ⟨#[101,110,117,109]⟩,.string ⟨#[99,111,110,115,116]⟩,.string ⟨#[108,101,116]⟩,.string ⟨#[109,117,116]⟩,.string ⟨#[105,102]⟩,.string ⟨#[101,108,115,101]⟩,.string ⟨#[109,97,116,99,104]⟩,.string ⟨#[119,104,105,108,101]⟩,.string ⟨#[108,111,111,112]⟩,.string ⟨#[98,114,101,97,107]⟩,.string ⟨#[99,111,110,116,105,110,117,101]⟩,.string ⟨#[114,101,116,117,114,110]⟩,.string ⟨#[116,114,117,101]⟩,.string ⟨#[102,97,108,115,101]⟩,.string ⟨#[97,115]⟩] 9)) Tryd.prog 9 E4 w.heap.size 0 (wdD (wordL.take 0))):=⟨World.ownsMap.alloc (World.ownsMap_made w Tryd.prog 9 E4) _⟩
 have HR0:Aside0 (Has ((w.alloc (Obj.map #[] 0)).alloc (Obj.cells #[.string ⟨#[102,110]⟩,.string ⟨#[115,116,114,117,99,116]⟩,.string ⟨#[101,110,117,109]⟩,.string ⟨#[99,111,110,115,116]⟩,.string ⟨#[108,101,116]⟩,.string ⟨#[109,117,116]⟩,.string ⟨#[105,102]⟩,.string ⟨#[101,108,115,101]⟩,.string ⟨#[109,97,116,99,104]⟩,.string ⟨#[119,104,105,108,101]⟩,.string ⟨#[108,111,111,112]⟩,.string ⟨#[98,114,101,97,107]⟩,.string ⟨#[99,111,110,116,105,110,117,101]⟩,.string ⟨#[114,101,116,117,114,110]⟩,.string ⟨#[116,114,117,101]⟩,.string ⟨#[102,97,108,115,101]⟩,.string ⟨#[97,115]⟩] 9)) (w.heap.size + 1) #[.string ⟨#[102,110]⟩,.string ⟨#[115,116,114,117,99,116]⟩,.string ⟨#[101,110,117,109]⟩,.string ⟨#[99,111,110,115,116]⟩,.string ⟨#[108,101,116]⟩,.string ⟨#[109,117,116]⟩,.string ⟨#[105,102]⟩,.string ⟨#[101,108,115,101]⟩,.string ⟨#[109,97,116,99,104]⟩,.string ⟨#[119,104,105,108,101]⟩,.string ⟨#[108,111,111,112]⟩,.string ⟨#[98,114,101,97,107]⟩,.string ⟨#[99,111,110,116,105,110,117,101]⟩,.string ⟨#[114,101,116,117,114,110]⟩,.string ⟨#[116,114,117,101]⟩,.string ⟨#[102,97,108,115,101]⟩,.string ⟨#[97,115]⟩] 9):=⟨by
  have h:=Has.new (w.alloc (Obj.map #[] 0)) #[.string ⟨#[102,110]⟩,.string ⟨#[115,116,114,117,99,116]⟩,.string ⟨#[101,110,117,109]⟩,.string ⟨#[99,111,110,115,116]⟩,.string ⟨#[108,101,116]⟩,.string ⟨#[109,117,116]⟩,.string ⟨#[105,102]⟩,.string ⟨#[101,108,115,101]⟩,.string ⟨#[109,97,116,99,104]⟩,.string ⟨#[119,104,105,108,101]⟩,.string ⟨#[108,111,111,112]⟩,.string ⟨#[98,114,101,97,107]⟩,.string ⟨#[99,111,110,116,105,110,117,101]⟩,.string ⟨#[114,101,116,117,114,110]⟩,.string ⟨#[116,114,117,101]⟩,.string ⟨#[102,97,108,115,101]⟩,.string ⟨#[97,115]⟩] 9
  have hs:(w.alloc (Obj.map #[] 0)).heap.size = w.heap.size + 1:=by simp
  rwa [hs] at h⟩
 have HB1:=am (below_alloc HB0.out (Obj.cells #[.string ⟨#[102,110]⟩,.string ⟨#[115,116,114,117,99,116]⟩,.string ⟨#[101,110,117,109]⟩,.string ⟨#[99,111,110,115,116]⟩,.string ⟨#[108,101,116]⟩,.string ⟨#[109,117,116]⟩,.string ⟨#[105,102]⟩,.string ⟨#[101,108,115,101]⟩,.string ⟨#[109,97,116,99,104]⟩,.string ⟨#[119,104,105,108,101]⟩,.string ⟨#[108,111,111,112]⟩,.string ⟨#[98,114,101,97,107]⟩,.string ⟨#[99,111,110,116,105,110,117,101]⟩,.string ⟨#[114,101,116,117,114,110]⟩,.string ⟨#[116,114,117,101]⟩,.string ⟨#[102,97,108,115,101]⟩,.string ⟨#[97,115]⟩] 9))
 clear HT HT0 HB0
 go_enter Tryd.func21,Tryd.ntmps21
 go_wp2_with (
  go_at_call 30
  (with_reducible refine Calls.mono (Tryd.strings_Fields wordText _ (by decide) text_ascii HTB.out) ?_)
  rintro en w1 ⟨he,hw⟩
  rw [fields_len] at he
  rw [fields_row] at hw
  subst he
  subst hw)
 obtain ⟨W,hW⟩:∃ W,(w.alloc (Obj.map #[] 0)).alloc (Obj.cells #[.string ⟨#[102,110]⟩,.string ⟨#[115,116,114,117,99,116]⟩,.string ⟨#[101,110,117,109]⟩,.string ⟨#[99,111,110,115,116]⟩,.string ⟨#[108,101,116]⟩,.string ⟨#[109,117,116]⟩,.string ⟨#[105,102]⟩,.string ⟨#[101,108,115,101]⟩,.string ⟨#[109,97,116,99,104]⟩,.string ⟨#[119,104,105,108,101]⟩,.string ⟨#[108,111,111,112]⟩,.string ⟨#[98,114,101,97,107]⟩,.string ⟨#[99,111,110,116,105,110,117,101]⟩,.string ⟨#[114,101,116,117,114,110]⟩,.string ⟨#[116,114,117,101]⟩,.string ⟨#[102,97,108,115,101]⟩,.string ⟨#[97,115]⟩] 9) = W:=⟨_,rfl⟩
 rw [hW] at HM0 HR0 HB1
 try rw [hW]
 go_loopw [7] (fun v wr => ∃ i:Int,v = .int .i64 i /\ 0 <= i /\ i <= 17 /\ Aside0 (wr.ownsMap Tryd.prog 9 E4 w.heap.size i.toNat (wdD (wordL.take i.toNat))) /\ Aside0 (Has wr (w.heap.size + 1) #[.string ⟨#[102,110]⟩,.string ⟨#[115,116,114,117,99,116]⟩,.string ⟨#[101,110,117,109]⟩,.string ⟨#[99,111,110,115,116]⟩,.string ⟨#[108,101,116]⟩,.string ⟨#[109,117,116]⟩,.string ⟨#[105,102]⟩,.string ⟨#[101,108,115,101]⟩,.string ⟨#[109,97,116,99,104]⟩,.string ⟨#[119,104,105,108,101]⟩,.string ⟨#[108,111,111,112]⟩,.string ⟨#[98,114,101,97,107]⟩,.string ⟨#[99,111,110,116,105,110,117,101]⟩,.string ⟨#[114,101,116,117,114,110]⟩,.string ⟨#[116,114,117,101]⟩,.string ⟨#[102,97,108,115,101]⟩,.string ⟨#[97,115]⟩] 9) /\ Aside0 (Below w.heap.size w wr)) (fun v _=>17 - (intOf v).toNat)
 case atStart=>exact ⟨0,rfl,by omega,by omega,HM0,HR0,HB1⟩
 case round =>
  clear HM0 HR0 HB1 HTB
  obtain ⟨i,rfl,hi0,hi1,HM,HR,HB⟩:=hrel
  rcases (by omega:i = 0 \/ i = 1 \/ i = 2 \/ i = 3 \/ i = 4 \/ i = 5 \/ i = 6 \/ i = 7 \/ i = 8 \/ i = 9 \/ i = 10 \/ i = 11 \/ i = 12 \/ i = 13 \/ i = 14 \/ i = 15 \/ i = 16 \/ i = 17) with rfl | rfl | rfl | rfl | rfl | rfl | rfl | rfl | rfl | rfl | rfl | rfl | rfl | rfl | rfl | rfl | rfl | rfl
  ·have c0:=hci HR.out 0 rfl
   go_wp2_with ((with_reducible refine wpList_mapUpdate_own _ rfl (.tmp 11) (.tmp 12) (.const (.bool true)) 62 rfl 9 4 law9 Tryd.underlying62 E4 w.heap.size _ _ rfl HM.out (by decide) (.string ⟨#[102,110]⟩) (.bool true) _ rfl rfl (keyOf_string_mk Tryd.underlying9 (by decide)) (.lit (.bool true)) [] (plainElem_bool Tryd.underlying4 true) ?_);intro w3 h3 b3)
   exact ⟨⟨1,rfl,by omega,by omega,⟨h3⟩,⟨HR.out.grown b3 (by omega)⟩,⟨pw_below_grown HB.out _ HB.out.size b3 (by rintro k ⟨⟩;exact Nat.le_refl _)⟩⟩,by simp [intOf]⟩
  ·have c0:=hci HR.out 1 rfl
   go_wp2_with ((with_reducible refine wpList_mapUpdate_own _ rfl (.tmp 11) (.tmp 12) (.const (.bool true)) 62 rfl 9 4 law9 Tryd.underlying62 E4 w.heap.size _ _ rfl HM.out (by decide) (.string ⟨#[115,116,114,117,99,116]⟩) (.bool true) _ rfl rfl (keyOf_string_mk Tryd.underlying9 (by decide)) (.lit (.bool true)) [] (plainElem_bool Tryd.underlying4 true) ?_);intro w3 h3 b3)
   exact ⟨⟨2,rfl,by omega,by omega,⟨h3⟩,⟨HR.out.grown b3 (by omega)⟩,⟨pw_below_grown HB.out _ HB.out.size b3 (by rintro k ⟨⟩;exact Nat.le_refl _)⟩⟩,by simp [intOf]⟩
  ·have c0:=hci HR.out 2 rfl
   go_wp2_with ((with_reducible refine wpList_mapUpdate_own _ rfl (.tmp 11) (.tmp 12) (.const (.bool true)) 62 rfl 9 4 law9 Tryd.underlying62 E4 w.heap.size _ _ rfl HM.out (by decide) (.string ⟨#[101,110,117,109]⟩) (.bool true) _ rfl rfl (keyOf_string_mk Tryd.underlying9 (by decide)) (.lit (.bool true)) [] (plainElem_bool Tryd.underlying4 true) ?_);intro w3 h3 b3)
   exact ⟨⟨3,rfl,by omega,by omega,⟨h3⟩,⟨HR.out.grown b3 (by omega)⟩,⟨pw_below_grown HB.out _ HB.out.size b3 (by rintro k ⟨⟩;exact Nat.le_refl _)⟩⟩,by simp [intOf]⟩
  ·have c0:=hci HR.out 3 rfl
   go_wp2_with ((with_reducible refine wpList_mapUpdate_own _ rfl (.tmp 11) (.tmp 12) (.const (.bool true)) 62 rfl 9 4 law9 Tryd.underlying62 E4 w.heap.size _ _ rfl HM.out (by decide) (.string ⟨#[99,111,110,115,116]⟩) (.bool true) _ rfl rfl (keyOf_string_mk Tryd.underlying9 (by decide)) (.lit (.bool true)) [] (plainElem_bool Tryd.underlying4 true) ?_);intro w3 h3 b3)
   exact ⟨⟨4,rfl,by omega,by omega,⟨h3⟩,⟨HR.out.grown b3 (by omega)⟩,⟨pw_below_grown HB.out _ HB.out.size b3 (by rintro k ⟨⟩;exact Nat.le_refl _)⟩⟩,by simp [intOf]⟩
  ·have c0:=hci HR.out 4 rfl
   go_wp2_with ((with_reducible refine wpList_mapUpdate_own _ rfl (.tmp 11) (.tmp 12) (.const (.bool true)) 62 rfl 9 4 law9 Tryd.underlying62 E4 w.heap.size _ _ rfl HM.out (by decide) (.string ⟨#[108,101,116]⟩) (.bool true) _ rfl rfl (keyOf_string_mk Tryd.underlying9 (by decide)) (.lit (.bool true)) [] (plainElem_bool Tryd.underlying4 true) ?_);intro w3 h3 b3)
   exact ⟨⟨5,rfl,by omega,by omega,⟨h3⟩,⟨HR.out.grown b3 (by omega)⟩,⟨pw_below_grown HB.out _ HB.out.size b3 (by rintro k ⟨⟩;exact Nat.le_refl _)⟩⟩,by simp [intOf]⟩
  ·have c0:=hci HR.out 5 rfl
   go_wp2_with ((with_reducible refine wpList_mapUpdate_own _ rfl (.tmp 11) (.tmp 12) (.const (.bool true)) 62 rfl 9 4 law9 Tryd.underlying62 E4 w.heap.size _ _ rfl HM.out (by decide) (.string ⟨#[109,117,116]⟩) (.bool true) _ rfl rfl (keyOf_string_mk Tryd.underlying9 (by decide)) (.lit (.bool true)) [] (plainElem_bool Tryd.underlying4 true) ?_);intro w3 h3 b3)
   exact ⟨⟨6,rfl,by omega,by omega,⟨h3⟩,⟨HR.out.grown b3 (by omega)⟩,⟨pw_below_grown HB.out _ HB.out.size b3 (by rintro k ⟨⟩;exact Nat.le_refl _)⟩⟩,by simp [intOf]⟩
  ·have c0:=hci HR.out 6 rfl
   go_wp2_with ((with_reducible refine wpList_mapUpdate_own _ rfl (.tmp 11) (.tmp 12) (.const (.bool true)) 62 rfl 9 4 law9 Tryd.underlying62 E4 w.heap.size _ _ rfl HM.out (by decide) (.string ⟨#[105,102]⟩) (.bool true) _ rfl rfl (keyOf_string_mk Tryd.underlying9 (by decide)) (.lit (.bool true)) [] (plainElem_bool Tryd.underlying4 true) ?_);intro w3 h3 b3)
   exact ⟨⟨7,rfl,by omega,by omega,⟨h3⟩,⟨HR.out.grown b3 (by omega)⟩,⟨pw_below_grown HB.out _ HB.out.size b3 (by rintro k ⟨⟩;exact Nat.le_refl _)⟩⟩,by simp [intOf]⟩
  ·have c0:=hci HR.out 7 rfl
   go_wp2_with ((with_reducible refine wpList_mapUpdate_own _ rfl (.tmp 11) (.tmp 12) (.const (.bool true)) 62 rfl 9 4 law9 Tryd.underlying62 E4 w.heap.size _ _ rfl HM.out (by decide) (.string ⟨#[101,108,115,101]⟩) (.bool true) _ rfl rfl (keyOf_string_mk Tryd.underlying9 (by decide)) (.lit (.bool true)) [] (plainElem_bool Tryd.underlying4 true) ?_);intro w3 h3 b3)
   exact ⟨⟨8,rfl,by omega,by omega,⟨h3⟩,⟨HR.out.grown b3 (by omega)⟩,⟨pw_below_grown HB.out _ HB.out.size b3 (by rintro k ⟨⟩;exact Nat.le_refl _)⟩⟩,by simp [intOf]⟩
  ·have c0:=hci HR.out 8 rfl
   go_wp2_with ((with_reducible refine wpList_mapUpdate_own _ rfl (.tmp 11) (.tmp 12) (.const (.bool true)) 62 rfl 9 4 law9 Tryd.underlying62 E4 w.heap.size _ _ rfl HM.out (by decide) (.string ⟨#[109,97,116,99,104]⟩) (.bool true) _ rfl rfl (keyOf_string_mk Tryd.underlying9 (by decide)) (.lit (.bool true)) [] (plainElem_bool Tryd.underlying4 true) ?_);intro w3 h3 b3)
   exact ⟨⟨9,rfl,by omega,by omega,⟨h3⟩,⟨HR.out.grown b3 (by omega)⟩,⟨pw_below_grown HB.out _ HB.out.size b3 (by rintro k ⟨⟩;exact Nat.le_refl _)⟩⟩,by simp [intOf]⟩
  ·have c0:=hci HR.out 9 rfl
   go_wp2_with ((with_reducible refine wpList_mapUpdate_own _ rfl (.tmp 11) (.tmp 12) (.const (.bool true)) 62 rfl 9 4 law9 Tryd.underlying62 E4 w.heap.size _ _ rfl HM.out (by decide) (.string ⟨#[119,104,105,108,101]⟩) (.bool true) _ rfl rfl (keyOf_string_mk Tryd.underlying9 (by decide)) (.lit (.bool true)) [] (plainElem_bool Tryd.underlying4 true) ?_);intro w3 h3 b3)
   exact ⟨⟨10,rfl,by omega,by omega,⟨h3⟩,⟨HR.out.grown b3 (by omega)⟩,⟨pw_below_grown HB.out _ HB.out.size b3 (by rintro k ⟨⟩;exact Nat.le_refl _)⟩⟩,by simp [intOf]⟩
  ·have c0:=hci HR.out 10 rfl
   go_wp2_with ((with_reducible refine wpList_mapUpdate_own _ rfl (.tmp 11) (.tmp 12) (.const (.bool true)) 62 rfl 9 4 law9 Tryd.underlying62 E4 w.heap.size _ _ rfl HM.out (by decide) (.string ⟨#[108,111,111,112]⟩) (.bool true) _ rfl rfl (keyOf_string_mk Tryd.underlying9 (by decide)) (.lit (.bool true)) [] (plainElem_bool Tryd.underlying4 true) ?_);intro w3 h3 b3)
   exact ⟨⟨11,rfl,by omega,by omega,⟨h3⟩,⟨HR.out.grown b3 (by omega)⟩,⟨pw_below_grown HB.out _ HB.out.size b3 (by rintro k ⟨⟩;exact Nat.le_refl _)⟩⟩,by simp [intOf]⟩
  ·have c0:=hci HR.out 11 rfl
   go_wp2_with ((with_reducible refine wpList_mapUpdate_own _ rfl (.tmp 11) (.tmp 12) (.const (.bool true)) 62 rfl 9 4 law9 Tryd.underlying62 E4 w.heap.size _ _ rfl HM.out (by decide) (.string ⟨#[98,114,101,97,107]⟩) (.bool true) _ rfl rfl (keyOf_string_mk Tryd.underlying9 (by decide)) (.lit (.bool true)) [] (plainElem_bool Tryd.underlying4 true) ?_);intro w3 h3 b3)
   exact ⟨⟨12,rfl,by omega,by omega,⟨h3⟩,⟨HR.out.grown b3 (by omega)⟩,⟨pw_below_grown HB.out _ HB.out.size b3 (by rintro k ⟨⟩;exact Nat.le_refl _)⟩⟩,by simp [intOf]⟩
  ·have c0:=hci HR.out 12 rfl
   go_wp2_with ((with_reducible refine wpList_mapUpdate_own _ rfl (.tmp 11) (.tmp 12) (.const (.bool true)) 62 rfl 9 4 law9 Tryd.underlying62 E4 w.heap.size _ _ rfl HM.out (by decide) (.string ⟨#[99,111,110,116,105,110,117,101]⟩) (.bool true) _ rfl rfl (keyOf_string_mk Tryd.underlying9 (by decide)) (.lit (.bool true)) [] (plainElem_bool Tryd.underlying4 true) ?_);intro w3 h3 b3)
   exact ⟨⟨13,rfl,by omega,by omega,⟨h3⟩,⟨HR.out.grown b3 (by omega)⟩,⟨pw_below_grown HB.out _ HB.out.size b3 (by rintro k ⟨⟩;exact Nat.le_refl _)⟩⟩,by simp [intOf]⟩
  ·have c0:=hci HR.out 13 rfl
   go_wp2_with ((with_reducible refine wpList_mapUpdate_own _ rfl (.tmp 11) (.tmp 12) (.const (.bool true)) 62 rfl 9 4 law9 Tryd.underlying62 E4 w.heap.size _ _ rfl HM.out (by decide) (.string ⟨#[114,101,116,117,114,110]⟩) (.bool true) _ rfl rfl (keyOf_string_mk Tryd.underlying9 (by decide)) (.lit (.bool true)) [] (plainElem_bool Tryd.underlying4 true) ?_);intro w3 h3 b3)
   exact ⟨⟨14,rfl,by omega,by omega,⟨h3⟩,⟨HR.out.grown b3 (by omega)⟩,⟨pw_below_grown HB.out _ HB.out.size b3 (by rintro k ⟨⟩;exact Nat.le_refl _)⟩⟩,by simp [intOf]⟩
  ·have c0:=hci HR.out 14 rfl
   go_wp2_with ((with_reducible refine wpList_mapUpdate_own _ rfl (.tmp 11) (.tmp 12) (.const (.bool true)) 62 rfl 9 4 law9 Tryd.underlying62 E4 w.heap.size _ _ rfl HM.out (by decide) (.string ⟨#[116,114,117,101]⟩) (.bool true) _ rfl rfl (keyOf_string_mk Tryd.underlying9 (by decide)) (.lit (.bool true)) [] (plainElem_bool Tryd.underlying4 true) ?_);intro w3 h3 b3)
   exact ⟨⟨15,rfl,by omega,by omega,⟨h3⟩,⟨HR.out.grown b3 (by omega)⟩,⟨pw_below_grown HB.out _ HB.out.size b3 (by rintro k ⟨⟩;exact Nat.le_refl _)⟩⟩,by simp [intOf]⟩
  ·have c0:=hci HR.out 15 rfl
   go_wp2_with ((with_reducible refine wpList_mapUpdate_own _ rfl (.tmp 11) (.tmp 12) (.const (.bool true)) 62 rfl 9 4 law9 Tryd.underlying62 E4 w.heap.size _ _ rfl HM.out (by decide) (.string ⟨#[102,97,108,115,101]⟩) (.bool true) _ rfl rfl (keyOf_string_mk Tryd.underlying9 (by decide)) (.lit (.bool true)) [] (plainElem_bool Tryd.underlying4 true) ?_);intro w3 h3 b3)
   exact ⟨⟨16,rfl,by omega,by omega,⟨h3⟩,⟨HR.out.grown b3 (by omega)⟩,⟨pw_below_grown HB.out _ HB.out.size b3 (by rintro k ⟨⟩;exact Nat.le_refl _)⟩⟩,by simp [intOf]⟩
  ·have c0:=hci HR.out 16 rfl
   go_wp2_with ((with_reducible refine wpList_mapUpdate_own _ rfl (.tmp 11) (.tmp 12) (.const (.bool true)) 62 rfl 9 4 law9 Tryd.underlying62 E4 w.heap.size _ _ rfl HM.out (by decide) (.string ⟨#[97,115]⟩) (.bool true) _ rfl rfl (keyOf_string_mk Tryd.underlying9 (by decide)) (.lit (.bool true)) [] (plainElem_bool Tryd.underlying4 true) ?_);intro w3 h3 b3)
   exact ⟨⟨17,rfl,by omega,by omega,⟨h3⟩,⟨HR.out.grown b3 (by omega)⟩,⟨pw_below_grown HB.out _ HB.out.size b3 (by rintro k ⟨⟩;exact Nat.le_refl _)⟩⟩,by simp [intOf]⟩
  ·go_wp2
   go_ret
   exact ⟨w.heap.size,rfl,HM.out,Nat.le_refl _,HB.out⟩
theorem wdD_eq:wdD wordL = .map [(.string [97,115],.lit (.bool true)),(.string [98,114,101,97,107],.lit (.bool true)),(.string [99,111,110,115,116],.lit (.bool true)),(.string [99,111,110,116,105,110,117,101],.lit (.bool true)),(.string [101,108,115,101],.lit (.bool true)),(.string [101,110,117,109],.lit (.bool true)),(.string [102,97,108,115,101],.lit (.bool true)),(.string [102,110],.lit (.bool true)),(.string [105,102],.lit (.bool true)),(.string [108,101,116],.lit (.bool true)),(.string [108,111,111,112],.lit (.bool true)),(.string [109,97,116,99,104],.lit (.bool true)),(.string [109,117,116],.lit (.bool true)),(.string [114,101,116,117,114,110],.lit (.bool true)),(.string [115,116,114,117,99,116],.lit (.bool true)),(.string [116,114,117,101],.lit (.bool true)),(.string [119,104,105,108,101],.lit (.bool true))]:=by kernel_rfl
def wordB (l:List UInt8):Bool:=wordL.any fun p=>p == l
theorem wd_at (l:List UInt8):(wdD wordL).atKey (.string l) (.lit (.bool false)) = .lit (.bool (wordB l)):=by
 rw [wdD_eq]
 by_cases h0:l = [102,110]
 ·subst h0;rfl
 by_cases h1:l = [115,116,114,117,99,116]
 ·subst h1;rfl
 by_cases h2:l = [101,110,117,109]
 ·subst h2;rfl
 by_cases h3:l = [99,111,110,115,116]
 ·subst h3;rfl
 by_cases h4:l = [108,101,116]
 ·subst h4;rfl
 by_cases h5:l = [109,117,116]
 ·subst h5;rfl
 by_cases h6:l = [105,102]
 ·subst h6;rfl
 by_cases h7:l = [101,108,115,101]
 ·subst h7;rfl
 by_cases h8:l = [109,97,116,99,104]
 ·subst h8;rfl
 by_cases h9:l = [119,104,105,108,101]
 ·subst h9;rfl
 by_cases h10:l = [108,111,111,112]
 ·subst h10;rfl
 by_cases h11:l = [98,114,101,97,107]
 ·subst h11;rfl
 by_cases h12:l = [99,111,110,116,105,110,117,101]
 ·subst h12;rfl
 by_cases h13:l = [114,101,116,117,114,110]
 ·subst h13;rfl
 by_cases h14:l = [116,114,117,101]
 ·subst h14;rfl
 by_cases h15:l = [102,97,108,115,101]
 ·subst h15;rfl
 by_cases h16:l = [97,115]
 ·subst h16;rfl
 have e:wordB l = false:=by simp [wordB,Ne.symm h0,Ne.symm h1,Ne.symm h2,Ne.symm h3,Ne.symm h4,Ne.symm h5,Ne.symm h6,Ne.symm h7,Ne.symm h8,Ne.symm h9,Ne.symm h10,Ne.symm h11,Ne.symm h12,Ne.symm h13,Ne.symm h14,Ne.symm h15,Ne.symm h16]
 rw [e]
 have g0:=Ne.symm h0
 have g1:=Ne.symm h1
 have g2:=Ne.symm h2
 have g3:=Ne.symm h3
 have g4:=Ne.symm h4
 have g5:=Ne.symm h5
 have g6:=Ne.symm h6
 have g7:=Ne.symm h7
 have g8:=Ne.symm h8
 have g9:=Ne.symm h9
 have g10:=Ne.symm h10
 have g11:=Ne.symm h11
 have g12:=Ne.symm h12
 have g13:=Ne.symm h13
 have g14:=Ne.symm h14
 have g15:=Ne.symm h15
 have g16:=Ne.symm h16
 simp [Maps.has,DataW.atKey,Lit.sameKey,g0,g1,g2,g3,g4,g5,g6,g7,g8,g9,g10,g11,g12,g13,g14,g15,g16]
end Go.Proofs.YtngpgdmafmkddaaDoor.Lex
end
