/- Steps toward the laws of the parser (B), merged from several texts (some of them began as the kit's print). No condition. -/
import Derived.Deep.QuietTactic
import Derived.Deep.DeepCutAuto
import Derived.WalkSpells
import Derived.Test.YtngpgdmafmkddaaDoorZB7
section
namespace Go.Proofs.YtngpgdmafmkddaaDoor.Par
open Go.RowKit Go.Proofs.YtngpgdmafmkddaaDoorW.PrintWords Go.Proofs.YtngpgdmafmkddaaDoorW.PrintLast Go.Proofs.YtngpgdmafmkddaaDoorW.PrintMore
open Go.Proofs.YtngpgdmafmkddaaDoor.PParseBlanks (S35 S25 S27 k35 k25 k27 rd_T35 rd_T25 rd_T27 at_T35 at_T25 at_T27)
set_option linter.unusedVariables false
set_option linter.unusedSimpArgs false
structure AllG (S S' : ByteArray) (n:Nat):Prop where
 climb:∀ (d:Int) (op:Bool) (least:Int) (l l' : List S35),Sim S S' l l' -> 1 <= least -> 16 * l.length + 6 <= n -> l.length <= 65536 -> GR S S' (Tr S S') l.length (climbP S.size n d op least l) (climbP S'.size n d op least l')
 climbL:∀ (d:Int) (op:Bool) (least:Int) (x y:S27) (last:Int) (l l' : List S35),Tr S S' x y -> Sim S S' l l' -> 1 <= least -> 16 * l.length + 1 <= n -> l.length <= 65536 -> GR S S' (Tr S S') (l.length + 1) (climbL S.size n d op least x last l) (climbL S'.size n d op least y last l')
 cast:∀ (d:Int) (op:Bool) (l l' : List S35),Sim S S' l l' -> 16 * l.length + 5 <= n -> l.length <= 65536 -> GR S S' (Tr S S') l.length (castP S.size n d op l) (castP S'.size n d op l')
 castL:∀ (d:Int) (x y:S27) (l l' : List S35),Tr S S' x y -> Sim S S' l l' -> 16 * l.length + 1 <= n -> l.length <= 65536 -> GR S S' (Tr S S') (l.length + 1) (castL S.size n d x l) (castL S'.size n d y l')
 operand:∀ (d:Int) (op:Bool) (l l' : List S35),Sim S S' l l' -> 16 * l.length + 4 <= n -> l.length <= 65536 -> GR S S' (Tr S S') l.length (operandP S.size n d op l) (operandP S'.size n d op l')
 behind:∀ (d:Int) (x y:S27) (l l' : List S35),Tr S S' x y -> Sim S S' l l' -> 16 * l.length + 1 <= n -> l.length <= 65536 -> GR S S' (Tr S S') (l.length + 1) (behindP S.size n d x l) (behindP S'.size n d y l')
 trees:∀ (d:Int) (stop:ByteArray) (l l' : List S35),Sim S S' l l' -> 16 * l.length + 7 <= n -> l.length <= 65536 -> GR S S' (TrZ S S') l.length (treesP S.size n d stop l) (treesP S'.size n d stop l')
 primary:∀ (d:Int) (op:Bool) (l l' : List S35),Sim S S' l l' -> 16 * l.length + 3 <= n -> l.length <= 65536 -> GR S S' (Tr S S') l.length (primaryP S.size n d op l) (primaryP S'.size n d op l')
 named:∀ (d:Int) (op:Bool) (l l' : List S35),Sim S S' l l' -> 16 * l.length + 2 <= n -> l.length <= 65536 -> GR S S' (Tr S S') l.length (namedP S.size n d op l) (namedP S'.size n d op l')
 inits:∀ (d:Int) (l l' : List S35),Sim S S' l l' -> 16 * l.length + 7 <= n -> l.length <= 65536 -> GR S S' (TrZ S S') l.length (initsP S.size n d l) (initsP S'.size n d l')
 array:∀ (d a b:Int) (l l' : List S35),InT S a -> InT S' b -> Sim S S' l l' -> 16 * l.length + 7 <= n -> l.length <= 65536 -> GR S S' (Tr S S') l.length (arrayP S.size n d a l) (arrayP S'.size n d b l')
 closed:∀ (d:Int) (l l' : List S35),Sim S S' l l' -> 16 * l.length + 2 <= n -> l.length <= 65536 -> GR S S' (Tr S S') l.length (closedP S.size n d l) (closedP S'.size n d l')
 arms:∀ (d:Int) (xs ys:List S27) (l l' : List S35),TrL S S' xs ys -> xs.length <= 1 -> Sim S S' l l' -> 16 * l.length + 7 <= n -> l.length <= 65536 -> GR S S' (TrZ S S') l.length (armsP S.size n d xs l) (armsP S'.size n d ys l')
 block:∀ (d:Int) (l l' : List S35),Sim S S' l l' -> 16 * l.length + 1 <= n -> l.length <= 65536 -> GR S S' (Tr S S') l.length (blockP S.size n d l) (blockP S'.size n d l')
 blockL:∀ (d a b:Int) (xs ys:List S27) (l l' : List S35),InT S a -> InT S' b -> TrL S S' xs ys -> Sim S S' l l' -> 16 * l.length + 9 <= n -> l.length <= 65536 -> xs.length + l.length < 1000000 -> GR S S' (Tr S S') l.length (blockL S.size n d a xs l) (blockL S'.size n d b ys l')
 stmt:∀ (d:Int) (l l' : List S35),Sim S S' l l' -> 16 * l.length + 8 <= n -> l.length <= 65536 -> GR S S' (fun x y=>Tr S S' x.1 y.1 /\ x.2 = y.2) l.length (stmtP S.size n d l) (stmtP S'.size n d l')
 lets:∀ (d a b:Int) (l l' : List S35),InT S a -> InT S' b -> Sim S S' l l' -> 16 * l.length + 7 <= n -> l.length <= 65536 -> GR S S' (Tr S S') l.length (letP S.size n d a l) (letP S'.size n d b l')
 plainly:∀ (d:Int) (l l' : List S35),Sim S S' l l' -> 16 * l.length + 7 <= n -> l.length <= 65536 -> GR S S' (fun x y=>Tr S S' x.1 y.1 /\ x.2 = y.2) l.length (plainlyP S.size n d l) (plainlyP S'.size n d l')
theorem climb_g {S S' : ByteArray} {n:Nat} (hS:S.size <= 65536) (hS' : S'.size <= 65536) (A:AllG S S' n) (d:Int) (op:Bool) (least:Int) (l l' : List S35) (h:Sim S S' l l') (h1:1 <= least) (hn:16 * l.length + 6 <= n + 1) (hl:l.length <= 65536):GR S S' (Tr S S') l.length (climbP S.size (n + 1) d op least l) (climbP S'.size (n + 1) d op least l'):=by
 simp only [climbP]
 refine (A.cast d op l l' h (by omega) hl).then fun x y l1 l1' hx h2 z => ?_
 exact (A.climbL d op least x y 0 l1 l1' hx h2 h1 (by omega) (by omega)).mono (by omega)
theorem climbL_g {S S' : ByteArray} {n:Nat} (hS:S.size <= 65536) (hS' : S'.size <= 65536) (A:AllG S S' n) (d:Int) (op:Bool) (least:Int) (x y:S27) (last:Int) (l l' : List S35) (hx:Tr S S' x y) (h:Sim S S' l l') (h1:1 <= least) (hn:16 * l.length + 1 <= n + 1) (hl:l.length <= 65536):GR S S' (Tr S S') (l.length + 1) (climbL S.size (n + 1) d op least x last l) (climbL S'.size (n + 1) d op least y last l'):=by
 simp only [climbL]
 refine GR.ite (by rw [h.rank]) (fun hr => ?_) (fun _=>GR.ok hx h (Nat.lt_succ_self _))
 refine GR.ite (by rw [h.rank]) (fun _=>GR.bad _ _ _) (fun _ => ?_)
 cases h with
 | nil =>
  have:rankP [] = 0:=rfl
  omega
 | cons t u r q h0 h2 hs ht h =>
  have hrk:rankP (u :: q) = rankP (t :: r):=(Sim.cons t u r q h0 h2 hs ht h).rank
  have hr0:=(rank_le (t :: r)).1
  simp only [List.length_cons] at hn hl ⊢
  rw [hrk]
  refine (A.climb d op (rankP (t :: r) + 1) r q h (by omega) (by omega) (by omega)).then fun p p' l2 l2' hp h3 z3 => ?_
  have hN:Tr S S' (mkE 9 t.f2 0 t.f1 [x,p] []) (mkE 9 u.f2 0 u.f1 [y,p'] []):=by
   rw [<- h2]
   exact Tr.node hs.inT ht.inT (fun _=>⟨hs,h2 ▸ ht⟩) (TrL.two hx hp)
  exact (A.climbL d op least _ _ _ l2 l2' hN h3 h1 (by omega) (by omega)).mono (by omega)
theorem cast_g {S S' : ByteArray} {n:Nat} (hS:S.size <= 65536) (hS' : S'.size <= 65536) (A:AllG S S' n) (d:Int) (op:Bool) (l l' : List S35) (h:Sim S S' l l') (hn:16 * l.length + 5 <= n + 1) (hl:l.length <= 65536):GR S S' (Tr S S') l.length (castP S.size (n + 1) d op l) (castP S'.size (n + 1) d op l'):=by
 simp only [castP]
 refine (A.operand d op l l' h (by omega) hl).then fun x y l1 l1' hx h2 z => ?_
 exact (A.castL d x y l1 l1' hx h2 (by omega) (by omega)).mono (by omega)
theorem castL_g {S S' : ByteArray} {n:Nat} (hS:S.size <= 65536) (hS' : S'.size <= 65536) (A:AllG S S' n) (d:Int) (x y:S27) (l l' : List S35) (hx:Tr S S' x y) (h:Sim S S' l l') (hn:16 * l.length + 1 <= n + 1) (hl:l.length <= 65536):GR S S' (Tr S S') (l.length + 1) (castL S.size (n + 1) d x l) (castL S'.size (n + 1) d y l'):=by
 simp only [castL]
 refine GR.isP h (fun _ h1 z1 => ?_) (fun _=>GR.ok hx h (Nat.lt_succ_self _))
 have ha:=h.at_ (by omega) S.size S'.size
 refine (typG hS hS' S.size S'.size n (d + 1) l.tail l'.tail h1 (by omega) (by omega)).then fun t t' l2 l2' ht h2 z2 => ?_
 obtain ⟨rfl,hty⟩:=ht
 exact (A.castL d _ _ l2 l2' (Tr.node ha.1 ha.2 (fun h=>absurd h (by decide)) (TrL.one hx) (TyL.one hty)) h2 (by omega) (by omega)).mono (by omega)
theorem operand_g {S S' : ByteArray} {n:Nat} (hS:S.size <= 65536) (hS' : S'.size <= 65536) (A:AllG S S' n) (d:Int) (op:Bool) (l l' : List S35) (h:Sim S S' l l') (hn:16 * l.length + 4 <= n + 1) (hl:l.length <= 65536):GR S S' (Tr S S') l.length (operandP S.size (n + 1) d op l) (operandP S'.size (n + 1) d op l'):=by
 have ha:=fun hp=>h.at_ hp S.size S'.size
 simp only [operandP]
 refine GR.ite (by rw [h.kind,h.one]) (fun _=>GR.bad _ _ _) (fun _ => ?_)
 refine GR.ite Iff.rfl (fun _=>GR.bad _ _ _) (fun _ => ?_)
 refine GR.isP h (fun _ h1 z1=>(A.operand (d + 1) op _ _ h1 (by omega) (by omega)).then fun x y l2 l2' hx h2 z2=>GR.ok (Tr.node (ha (by omega)).1 (ha (by omega)).2 (fun h=>absurd h (by decide)) (TrL.one hx)) h2 (by omega)) (fun _ => ?_)
 refine GR.isP h (fun _ h1 z1=>(A.operand (d + 1) op _ _ h1 (by omega) (by omega)).then fun x y l2 l2' hx h2 z2=>GR.ok (Tr.node (ha (by omega)).1 (ha (by omega)).2 (fun h=>absurd h (by decide)) (TrL.one hx)) h2 (by omega)) (fun _ => ?_)
 refine GR.isP h (fun _ h1 z1=>(A.operand (d + 1) op _ _ h1 (by omega) (by omega)).then fun x y l2 l2' hx h2 z2=>GR.ok (Tr.node (ha (by omega)).1 (ha (by omega)).2 (fun h=>absurd h (by decide)) (TrL.one hx)) h2 (by omega)) (fun _ => ?_)
 refine GR.isP h (fun _ h1 z1 => ?_) (fun _ => ?_)
 ·refine GR.isP h1 (fun _ h3 z3 => ?_) (fun _ => ?_)
  ·exact (A.operand (d + 1) op _ _ h3 (by omega) (by omega)).then fun x y l2 l2' hx h2 z2=>GR.ok (Tr.node (ha (by omega)).1 (ha (by omega)).2 (fun h=>absurd h (by decide)) (TrL.one hx)) h2 (by omega)
  ·exact (A.operand (d + 1) op _ _ h1 (by omega) (by omega)).then fun x y l2 l2' hx h2 z2=>GR.ok (Tr.node (ha (by omega)).1 (ha (by omega)).2 (fun h=>absurd h (by decide)) (TrL.one hx)) h2 (by omega)
 ·refine (A.primary d op l l' h (by omega) hl).then fun x y l2 l2' hx h2 z2 => ?_
  exact (A.behind d x y l2 l2' hx h2 (by omega) (by omega)).mono (by omega)
theorem behind_g {S S' : ByteArray} {n:Nat} (hS:S.size <= 65536) (hS' : S'.size <= 65536) (A:AllG S S' n) (d:Int) (x y:S27) (l l' : List S35) (hx:Tr S S' x y) (h:Sim S S' l l') (hn:16 * l.length + 1 <= n + 1) (hl:l.length <= 65536):GR S S' (Tr S S') (l.length + 1) (behindP S.size (n + 1) d x l) (behindP S'.size (n + 1) d y l'):=by
 have ha:=fun hp=>h.at_ hp S.size S'.size
 simp only [behindP]
 refine GR.isP h (fun _ h1 z1 => ?_) (fun _ => ?_)
 ·refine (nameG hS h1 S.size S'.size).then fun s s' l2 l2' hs h2 z2 => ?_
  obtain ⟨rfl, -⟩:=hs
  exact (A.behind d _ _ l2 l2' (Tr.node (ha (by omega)).1 (ha (by omega)).2 (fun h=>absurd h (by decide)) (TrL.one hx)) h2 (by omega) (by omega)).mono (by omega)
 refine GR.isP h (fun _ h1 z1 => ?_) (fun _=>GR.ok hx h (Nat.lt_succ_self _))
 refine (A.climb (d + 1) true 1 _ _ h1 (by omega) (by omega) (by omega)).then fun p p' l2 l2' hp h2 z2 => ?_
 refine (needG h2 S.size S'.size sRbra).then fun _ _ l3 l3' _ h3 z3 => ?_
 exact (A.behind d _ _ l3 l3' (Tr.node (ha (by omega)).1 (ha (by omega)).2 (fun h=>absurd h (by decide)) (TrL.two hx hp)) h3 (by omega) (by omega)).mono (by omega)
theorem trees_g {S S' : ByteArray} {n:Nat} (hS:S.size <= 65536) (hS' : S'.size <= 65536) (A:AllG S S' n) (d:Int) (stop:ByteArray) (l l' : List S35) (h:Sim S S' l l') (hn:16 * l.length + 7 <= n + 1) (hl:l.length <= 65536):GR S S' (TrZ S S') l.length (treesP S.size (n + 1) d stop l) (treesP S'.size (n + 1) d stop l'):=by
 simp only [treesP]
 refine listG l.length (fun xs ys m m' hx hz hm hL => ?_) n [] [] l l' TrL.nil h (by omega) (Nat.le_refl _) (by simp;omega)
 rw [if_neg (by omega),if_neg (by rw [<- hx.1];omega)]
 refine (A.climb (d + 1) true 1 m m' hm (by omega) (by omega) (by omega)).then fun x y l2 l2' hp h2 z2 => ?_
 exact GR.ok ⟨hx.snoc hp hz,by simp⟩ h2 z2
theorem primary_g {S S' : ByteArray} {n:Nat} (hS:S.size <= 65536) (hS' : S'.size <= 65536) (A:AllG S S' n) (d:Int) (op:Bool) (l l' : List S35) (h:Sim S S' l l') (hn:16 * l.length + 3 <= n + 1) (hl:l.length <= 65536):GR S S' (Tr S S') l.length (primaryP S.size (n + 1) d op l) (primaryP S'.size (n + 1) d op l'):=by
 have ha:=fun hp=>h.at_ hp S.size S'.size
 simp only [primaryP]
 refine GR.ite (by rw [h.kind]) (fun _ => ?_) (fun _ => ?_)
 ·refine (numberG hS h S.size S'.size).then fun v v' l2 l2' hv h2 z2 => ?_
  subst hv
  exact GR.ok (Tr.node (ha (by omega)).1 (ha (by omega)).2 (fun h=>absurd h (by decide)) TrL.nil) h2 (by omega)
 refine GR.isP h (fun _ h1 z1=>GR.ok (Tr.node (ha (by omega)).1 (ha (by omega)).2 (fun h=>absurd h (by decide)) TrL.nil) h1 (by omega)) (fun _ => ?_)
 refine GR.isP h (fun _ h1 z1=>GR.ok (Tr.node (ha (by omega)).1 (ha (by omega)).2 (fun h=>absurd h (by decide)) TrL.nil) h1 (by omega)) (fun _ => ?_)
 refine GR.isP h (fun _ h1 z1 => ?_) (fun _ => ?_)
 ·refine GR.isP h1 (fun _ h2 z2=>GR.ok (Tr.node (ha (by omega)).1 (ha (by omega)).2 (fun h=>absurd h (by decide)) TrL.nil) h2 (by omega)) (fun _ => ?_)
  refine (A.climb (d + 1) true 1 _ _ h1 (by omega) (by omega) (by omega)).then fun x y l2 l2' hp h2 z2 => ?_
  exact GR.isP h2 (fun _ h3 z3=>GR.ok hp h3 (by omega)) (fun _=>GR.bad _ _ _)
 refine GR.isP h (fun _ h1 z1 => ?_) (fun _ => ?_)
 ·exact (A.array d _ _ _ _ (ha (by omega)).1 (ha (by omega)).2 h1 (by omega) (by omega)).mono (by omega)
 refine GR.ite (by rw [h.one]) (fun _ => ?_) (fun _ => ?_)
 ·exact A.closed (d + 1) l l' h (by omega) hl
 ·exact A.named d op l l' h (by omega) hl
theorem named_g {S S' : ByteArray} {n:Nat} (hS:S.size <= 65536) (hS' : S'.size <= 65536) (A:AllG S S' n) (d:Int) (op:Bool) (l l' : List S35) (h:Sim S S' l l') (hn:16 * l.length + 2 <= n + 1) (hl:l.length <= 65536):GR S S' (Tr S S') l.length (namedP S.size (n + 1) d op l) (namedP S'.size (n + 1) d op l'):=by
 simp only [namedP]
 refine (nameG hS h S.size S'.size).then fun s s' l1 l1' hs h1 z1 => ?_
 obtain ⟨rfl,s1,s2,hz⟩:=hs
 refine GR.isP h1 (fun _ h2 z2 => ?_) (fun _ => ?_)
 ·refine (A.trees d sRpar _ _ h2 (by omega) (by omega)).then fun ks ks' l3 l3' hk h3 z3 => ?_
  exact GR.ok (Tr.node s1.inT s2.inT (fun _=>⟨s1,s2⟩) hk.1) h3 (by omega)
 refine GR.isP h1 (fun _ h2 z2 => ?_) (fun _ => ?_)
 ·refine (nameG hS h2 S.size S'.size).then fun t t' l3 l3' ht h3 z3 => ?_
  obtain ⟨rfl, -, -,hz2⟩:=ht
  have hzz : ¬ s.size + t.size >= 4611686018427387904:=by omega
  rw [if_neg hzz,if_neg hzz]
  refine GR.isP h3 (fun _ h4 z4 => ?_) (fun _=>GR.ok (Tr.node s1.inT s2.inT (fun h=>absurd h (by decide)) TrL.nil) h3 (by omega))
  refine (A.trees d sRpar _ _ h4 (by omega) (by omega)).then fun ks ks' l5 l5' hk h5 z5 => ?_
  exact GR.ok (Tr.node s1.inT s2.inT (fun h=>absurd h (by decide)) hk.1) h5 (by omega)
 refine GR.ite (by rw [h1.isP]) (fun hb => ?_) (fun _=>GR.ok (Tr.node s1.inT s2.inT (fun _=>⟨s1,s2⟩) TrL.nil) h1 (by omega))
 have z2:=Sim.tail_lt hb.2
 refine (A.inits d _ _ h1.tl (by omega) (by omega)).then fun ks ks' l3 l3' hk h3 z3 => ?_
 exact GR.ok (Tr.node s1.inT s2.inT (fun _=>⟨s1,s2⟩) hk.1) h3 (by omega)
theorem inits_g {S S' : ByteArray} {n:Nat} (hS:S.size <= 65536) (hS' : S'.size <= 65536) (A:AllG S S' n) (d:Int) (l l' : List S35) (h:Sim S S' l l') (hn:16 * l.length + 7 <= n + 1) (hl:l.length <= 65536):GR S S' (TrZ S S') l.length (initsP S.size (n + 1) d l) (initsP S'.size (n + 1) d l'):=by
 simp only [initsP]
 refine listG l.length (fun xs ys m m' hx hz hm hL => ?_) n [] [] l l' TrL.nil h (by omega) (Nat.le_refl _) (by simp;omega)
 rw [if_neg (by omega),if_neg (by rw [<- hx.1];omega)]
 refine (nameG hS hm S.size S'.size).then fun s s' l1 l1' hs h1 z1 => ?_
 obtain ⟨rfl,s1,s2, -⟩:=hs
 refine (needG h1 S.size S'.size sColon).then fun _ _ l2 l2' _ h2 z2 => ?_
 refine (A.climb (d + 1) true 1 l2 l2' h2 (by omega) (by omega) (by omega)).then fun x y l3 l3' hp h3 z3 => ?_
 exact GR.ok ⟨hx.snoc (Tr.node s1.inT s2.inT (fun _=>⟨s1,s2⟩) (TrL.one hp)) hz,by simp⟩ h3 (by omega)
theorem array_g {S S' : ByteArray} {n:Nat} (hS:S.size <= 65536) (hS' : S'.size <= 65536) (A:AllG S S' n) (d a b:Int) (l l' : List S35) (ha:InT S a) (hb:InT S' b) (h:Sim S S' l l') (hn:16 * l.length + 7 <= n + 1) (hl:l.length <= 65536):GR S S' (Tr S S') l.length (arrayP S.size (n + 1) d a l) (arrayP S'.size (n + 1) d b l'):=by
 simp only [arrayP]
 refine GR.isP h (fun _ h1 z1=>GR.ok (Tr.node ha hb (fun h=>absurd h (by decide)) TrL.nil) h1 (by omega)) (fun _ => ?_)
 refine (A.climb (d + 1) true 1 l l' h (by omega) (by omega) (by omega)).then fun x y l1 l1' hx h1 z1 => ?_
 refine GR.isP h1 (fun _ h2 z2 => ?_) (fun _ => ?_)
 ·refine (countG hS h2 S.size S'.size).then fun v v' l3 l3' hv h3 z3 => ?_
  subst hv
  exact GR.isP h3 (fun _ h4 z4=>GR.ok (Tr.node ha hb (fun h=>absurd h (by decide)) (TrL.one hx)) h4 (by omega)) (fun _=>GR.bad _ _ _)
 refine GR.isP h1 (fun _ h2 z2=>GR.ok (Tr.node ha hb (fun h=>absurd h (by decide)) (TrL.one hx)) h2 (by omega)) (fun _ => ?_)
 refine GR.isP h1 (fun _ h2 z2 => ?_) (fun _=>GR.bad _ _ _)
 have HT:=A.trees d sRbra _ _ h2 (by omega) (by omega)
 refine HT.then fun ks ks' l3 l3' hk h3 z3 => ?_
 have hk2:=hk.2
 rw [if_neg (by omega),if_neg (by rw [<- hk.1.1];omega)]
 exact GR.ok (Tr.node ha hb (fun h=>absurd h (by decide)) (hk.1.cons hx hk2)) h3 (by omega)
theorem closed_g {S S' : ByteArray} {n:Nat} (hS:S.size <= 65536) (hS' : S'.size <= 65536) (A:AllG S S' n) (d:Int) (l l' : List S35) (h:Sim S S' l l') (hn:16 * l.length + 2 <= n + 1) (hl:l.length <= 65536):GR S S' (Tr S S') l.length (closedP S.size (n + 1) d l) (closedP S'.size (n + 1) d l'):=by
 have ha:=fun hp=>h.at_ hp S.size S'.size
 simp only [closedP]
 refine GR.isP h (fun _ h1 z1=>A.block d l l' h (by omega) hl) (fun _ => ?_)
 refine GR.ite Iff.rfl (fun _=>GR.bad _ _ _) (fun _ => ?_)
 refine GR.isP h (fun _ h1 z1 => ?_) (fun _ => ?_)
 ·refine (A.climb (d + 1) false 1 _ _ h1 (by omega) (by omega) (by omega)).then fun c c' l2 l2' hc h2 z2 => ?_
  refine (A.block (d + 1) l2 l2' h2 (by omega) (by omega)).then fun b b' l3 l3' hb h3 z3 => ?_
  refine GR.isP h3 (fun _ h4 z4 => ?_) (fun _=>GR.ok (Tr.node (ha (by omega)).1 (ha (by omega)).2 (fun h=>absurd h (by decide)) (TrL.two hc hb)) h3 (by omega))
  refine GR.ite (by rw [h4.one]) (fun _=>GR.bad _ _ _) (fun _ => ?_)
  refine (A.closed (d + 1) _ _ h4 (by omega) (by omega)).then fun z z' l5 l5' hz h5 z5 => ?_
  exact GR.ok (Tr.node (ha (by omega)).1 (ha (by omega)).2 (fun h=>absurd h (by decide)) (TrL.three hc hb hz)) h5 (by omega)
 refine GR.isP h (fun _ h1 z1 => ?_) (fun _=>GR.bad _ _ _)
 refine (A.climb (d + 1) false 1 _ _ h1 (by omega) (by omega) (by omega)).then fun c c' l2 l2' hc h2 z2 => ?_
 refine (needG h2 S.size S'.size sLbrace).then fun _ _ l3 l3' _ h3 z3 => ?_
 refine (A.arms d [c] [c'] l3 l3' (TrL.one hc) (by simp) h3 (by omega) (by omega)).then fun ks ks' l4 l4' hk h4 z4 => ?_
 exact GR.ok (Tr.node (ha (by omega)).1 (ha (by omega)).2 (fun h=>absurd h (by decide)) hk.1) h4 (by omega)
theorem arms_g {S S' : ByteArray} {n:Nat} (hS:S.size <= 65536) (hS' : S'.size <= 65536) (A:AllG S S' n) (d:Int) (xs ys:List S27) (l l' : List S35) (hxs:TrL S S' xs ys) (hx1:xs.length <= 1) (h:Sim S S' l l') (hn:16 * l.length + 7 <= n + 1) (hl:l.length <= 65536):GR S S' (TrZ S S') l.length (armsP S.size (n + 1) d xs l) (armsP S'.size (n + 1) d ys l'):=by
 simp only [armsP]
 refine listG l.length (fun xs ys m m' hx hz hm hL => ?_) n xs ys l l' hxs h (by omega) (Nat.le_refl _) (by omega)
 rw [if_neg (by omega),if_neg (by rw [<- hx.1];omega)]
 refine (patG hS S.size S'.size n hm (by omega) (by omega)).then fun p p' l1 l1' hp h1 z1 => ?_
 have ha:=hm.at_ (by omega) S.size S'.size
 refine (needG h1 S.size S'.size sArrow).then fun _ _ l2 l2' _ h2 z2 => ?_
 refine (A.climb (d + 1) true 1 l2 l2' h2 (by omega) (by omega) (by omega)).then fun x y l3 l3' hy h3 z3 => ?_
 exact GR.ok ⟨hx.snoc (Tr.node ha.1 ha.2 (fun h=>absurd h (by decide)) (TrL.two hp hy)) hz,by simp⟩ h3 (by omega)
theorem block_g {S S' : ByteArray} {n:Nat} (hS:S.size <= 65536) (hS' : S'.size <= 65536) (A:AllG S S' n) (d:Int) (l l' : List S35) (h:Sim S S' l l') (hn:16 * l.length + 1 <= n + 1) (hl:l.length <= 65536):GR S S' (Tr S S') l.length (blockP S.size (n + 1) d l) (blockP S'.size (n + 1) d l'):=by
 have ha:=fun hp=>h.at_ hp S.size S'.size
 simp only [blockP]
 refine GR.ite (by rw [h.isP]) (fun _=>GR.bad _ _ _) (fun hi => ?_)
 have z1:=Sim.tail_lt (show isP sLbrace l = true by simpa using hi)
 refine GR.ite Iff.rfl (fun _=>GR.bad _ _ _) (fun _ => ?_)
 exact (A.blockL d _ _ [] [] _ _ (ha (by omega)).1 (ha (by omega)).2 TrL.nil h.tl (by omega) (by omega) (by simp;omega)).mono (by omega)
theorem blockL_g {S S' : ByteArray} {n:Nat} (hS:S.size <= 65536) (hS' : S'.size <= 65536) (A:AllG S S' n) (d a b:Int) (xs ys:List S27) (l l' : List S35) (ha:InT S a) (hb:InT S' b) (hx:TrL S S' xs ys) (h:Sim S S' l l') (hn:16 * l.length + 9 <= n + 1) (hl:l.length <= 65536) (hz:xs.length + l.length < 1000000):GR S S' (Tr S S') l.length (blockL S.size (n + 1) d a xs l) (blockL S'.size (n + 1) d b ys l'):=by
 simp only [blockL]
 refine GR.isP h (fun _ h1 z1=>GR.ok (Tr.node ha hb (fun h=>absurd h (by decide)) hx) h1 (by omega)) (fun _ => ?_)
 rw [if_neg (by omega),if_neg (by rw [<- hx.1];omega)]
 refine (A.stmt d l l' h (by omega) hl).then fun x y l1 l1' hxy h1 z1 => ?_
 obtain ⟨hxy,hv⟩:=hxy
 refine GR.ite (by rw [hv]) (fun _ => ?_) (fun _ => ?_)
 ·exact GR.isP h1 (fun _ h2 z2=>GR.ok (Tr.node ha hb (fun h=>absurd h (by decide)) (hx.snoc hxy (by omega))) h2 (by omega)) (fun _=>GR.bad _ _ _)
 ·exact (A.blockL d a b _ _ l1 l1' ha hb (hx.snoc hxy (by omega)) h1 (by omega) (by omega) (by simp;omega)).mono (by omega)
theorem stmt_g {S S' : ByteArray} {n:Nat} (hS:S.size <= 65536) (hS' : S'.size <= 65536) (A:AllG S S' n) (d:Int) (l l' : List S35) (h:Sim S S' l l') (hn:16 * l.length + 8 <= n + 1) (hl:l.length <= 65536):GR S S' (fun x y=>Tr S S' x.1 y.1 /\ x.2 = y.2) l.length (stmtP S.size (n + 1) d l) (stmtP S'.size (n + 1) d l'):=by
 have ha:=fun hp=>h.at_ hp S.size S'.size
 simp only [stmtP]
 refine GR.isP h (fun _ h1 z1 => ?_) (fun _ => ?_)
 ·refine (A.lets d _ _ _ _ (ha (by omega)).1 (ha (by omega)).2 h1 (by omega) (by omega)).then fun x y l2 l2' hx h2 z2 => ?_
  exact (needG h2 S.size S'.size sSemi).then fun _ _ l3 l3' _ h3 z3=>GR.ok ⟨hx,rfl⟩ h3 (by omega)
 refine GR.isP h (fun _ h1 z1 => ?_) (fun _ => ?_)
 ·refine (A.climb (d + 1) false 1 _ _ h1 (by omega) (by omega) (by omega)).then fun c c' l2 l2' hc h2 z2 => ?_
  refine (A.block (d + 1) l2 l2' h2 (by omega) (by omega)).then fun b b' l3 l3' hb h3 z3 => ?_
  exact GR.ok ⟨Tr.node (ha (by omega)).1 (ha (by omega)).2 (fun h=>absurd h (by decide)) (TrL.two hc hb),rfl⟩ h3 (by omega)
 refine GR.isP h (fun _ h1 z1 => ?_) (fun _ => ?_)
 ·refine (A.block (d + 1) _ _ h1 (by omega) (by omega)).then fun b b' l3 l3' hb h3 z3 => ?_
  exact GR.ok ⟨Tr.node (ha (by omega)).1 (ha (by omega)).2 (fun h=>absurd h (by decide)) (TrL.one hb),rfl⟩ h3 (by omega)
 refine GR.isP h (fun _ h1 z1 => ?_) (fun _ => ?_)
 ·exact (needG h1 S.size S'.size sSemi).then fun _ _ l3 l3' _ h3 z3=>GR.ok ⟨Tr.node (ha (by omega)).1 (ha (by omega)).2 (fun h=>absurd h (by decide)) TrL.nil,rfl⟩ h3 (by omega)
 refine GR.isP h (fun _ h1 z1 => ?_) (fun _ => ?_)
 ·exact (needG h1 S.size S'.size sSemi).then fun _ _ l3 l3' _ h3 z3=>GR.ok ⟨Tr.node (ha (by omega)).1 (ha (by omega)).2 (fun h=>absurd h (by decide)) TrL.nil,rfl⟩ h3 (by omega)
 refine GR.isP h (fun _ h1 z1 => ?_) (fun _ => ?_)
 ·refine GR.isP h1 (fun _ h2 z2=>GR.ok ⟨Tr.node (ha (by omega)).1 (ha (by omega)).2 (fun h=>absurd h (by decide)) TrL.nil,rfl⟩ h2 (by omega)) (fun _ => ?_)
  refine (A.climb (d + 1) true 1 _ _ h1 (by omega) (by omega) (by omega)).then fun x y l2 l2' hx h2 z2 => ?_
  exact (needG h2 S.size S'.size sSemi).then fun _ _ l3 l3' _ h3 z3=>GR.ok ⟨Tr.node (ha (by omega)).1 (ha (by omega)).2 (fun h=>absurd h (by decide)) (TrL.one hx),rfl⟩ h3 (by omega)
 refine GR.ite (by rw [h.one]) (fun _ => ?_) (fun _ => ?_)
 ·refine (A.closed (d + 1) l l' h (by omega) hl).then fun y y' l1 l1' hy h1 z1 => ?_
  refine GR.isP h1 (fun _ h2 z2=>GR.ok ⟨hy,rfl⟩ h1 z1) (fun _ => ?_)
  have hN:Tr S S' (mkE 35 (atP S.size l) 0 ⟨#[]⟩ [y] []) (mkE 35 (atP S'.size l') 0 ⟨#[]⟩ [y'] []):=Tr.node (ha (by omega)).1 (ha (by omega)).2 (fun h=>absurd h (by decide)) (TrL.one hy)
  rw [h1.isP]
  cases hs:isP sSemi l1 with
  | true =>
   rw [if_pos rfl,if_pos rfl]
   have:=Sim.tail_lt hs
   exact GR.ok ⟨hN,rfl⟩ h1.tl (by omega)
  | false =>
   rw [if_neg (by decide),if_neg (by decide)]
   exact GR.ok ⟨hN,rfl⟩ h1 z1
 ·exact A.plainly d l l' h (by omega) hl
theorem lets_g {S S' : ByteArray} {n:Nat} (hS:S.size <= 65536) (hS' : S'.size <= 65536) (A:AllG S S' n) (d a b:Int) (l l' : List S35) (ha:InT S a) (hb:InT S' b) (h:Sim S S' l l') (hn:16 * l.length + 7 <= n + 1) (hl:l.length <= 65536):GR S S' (Tr S S') l.length (letP S.size (n + 1) d a l) (letP S'.size (n + 1) d b l'):=by
 have key:∀ (m m' : List S35) (v:Int),Sim S S' m m' -> m.length <= l.length -> GR S S' (Tr S S') l.length
   ((nameP S.size m).andThen fun s l1=>if isP sColon l1 = true then (typP S.size n (d + 1) l1.tail).andThen fun t l2=>(needP S.size sEq l2).andThen fun _ l3=>(climbP S.size n (d + 1) true 1 l3).andThen fun x l4=>.ok (mkE 33 a v s [x] [t]) l4
    else (needP S.size sEq l1).andThen fun _ l3=>(climbP S.size n (d + 1) true 1 l3).andThen fun x l4=>.ok (mkE 33 a v s [x] []) l4)
   ((nameP S'.size m').andThen fun s l1=>if isP sColon l1 = true then (typP S'.size n (d + 1) l1.tail).andThen fun t l2=>(needP S'.size sEq l2).andThen fun _ l3=>(climbP S'.size n (d + 1) true 1 l3).andThen fun x l4=>.ok (mkE 33 b v s [x] [t]) l4
    else (needP S'.size sEq l1).andThen fun _ l3=>(climbP S'.size n (d + 1) true 1 l3).andThen fun x l4=>.ok (mkE 33 b v s [x] []) l4):=by
  intro m m' v hm hml
  refine (nameG hS hm S.size S'.size).then fun s s' l1 l1' hs h1 z1 => ?_
  obtain ⟨rfl, -⟩:=hs
  refine GR.isP h1 (fun _ h2 z2 => ?_) (fun _ => ?_)
  ·refine (typG hS hS' S.size S'.size n (d + 1) _ _ h2 (by omega) (by omega)).then fun t t' l3 l3' ht h3 z3 => ?_
   obtain ⟨rfl,hty⟩:=ht
   refine (needG h3 S.size S'.size sEq).then fun _ _ l4 l4' _ h4 z4 => ?_
   refine (A.climb (d + 1) true 1 l4 l4' h4 (by omega) (by omega) (by omega)).then fun x y l5 l5' hx h5 z5 => ?_
   exact GR.ok (Tr.node ha hb (fun h=>absurd h (by decide)) (TrL.one hx) (TyL.one hty)) h5 (by omega)
  ·refine (needG h1 S.size S'.size sEq).then fun _ _ l4 l4' _ h4 z4 => ?_
   refine (A.climb (d + 1) true 1 l4 l4' h4 (by omega) (by omega) (by omega)).then fun x y l5 l5' hx h5 z5 => ?_
   exact GR.ok (Tr.node ha hb (fun h=>absurd h (by decide)) (TrL.one hx)) h5 (by omega)
 simp only [letP]
 rw [h.isP]
 cases hm:isP sMut l with
 | true =>
  have:=Sim.tail_lt hm
  simp only [if_true]
  exact key l.tail l'.tail 1 h.tl (by omega)
 | false =>
  simp only [Bool.false_eq_true,if_false]
  exact key l l' 0 h (Nat.le_refl _)
theorem plainly_g {S S' : ByteArray} {n:Nat} (hS:S.size <= 65536) (hS' : S'.size <= 65536) (A:AllG S S' n) (d:Int) (l l' : List S35) (h:Sim S S' l l') (hn:16 * l.length + 7 <= n + 1) (hl:l.length <= 65536):GR S S' (fun x y=>Tr S S' x.1 y.1 /\ x.2 = y.2) l.length (plainlyP S.size (n + 1) d l) (plainlyP S'.size (n + 1) d l'):=by
 simp only [plainlyP]
 refine (A.climb (d + 1) true 1 l l' h (by omega) (by omega) (by omega)).then fun x y l1 l1' hx h1 z1 => ?_
 have ha:=h.at_ (by omega) S.size S'.size
 refine GR.isP h1 (fun _ h2 z2 => ?_) (fun _ => ?_)
 ·have hb:=h1.at_ (by omega) S.size S'.size
  refine (A.climb (d + 1) true 1 _ _ h2 (by omega) (by omega) (by omega)).then fun p p' l3 l3' hp h3 z3 => ?_
  exact (needG h3 S.size S'.size sSemi).then fun _ _ l4 l4' _ h4 z4=>GR.ok ⟨Tr.node hb.1 hb.2 (fun h=>absurd h (by decide)) (TrL.two hx hp),rfl⟩ h4 (by omega)
 refine GR.isP h1 (fun _ h2 z2=>GR.ok ⟨hx,rfl⟩ h1 z1) (fun _ => ?_)
 exact (needG h1 S.size S'.size sSemi).then fun _ _ l4 l4' _ h4 z4=>GR.ok ⟨Tr.node ha.1 ha.2 (fun h=>absurd h (by decide)) (TrL.one hx),rfl⟩ h4 (by omega)
theorem all_g (S S' : ByteArray) (hS:S.size <= 65536) (hS' : S'.size <= 65536):∀ n:Nat,AllG S S' n
 | 0=>⟨by intros;omega,by intros;omega,by intros;omega,by intros;omega,by intros;omega,by intros;omega,by intros;omega,by intros;omega,by intros;omega,by intros;omega,by intros;omega,by intros;omega,by intros;omega,by intros;omega,by intros;omega,by intros;omega,by intros;omega,by intros;omega⟩
 | n + 1=>have A:=all_g S S' hS hS' n; ⟨climb_g hS hS' A,climbL_g hS hS' A,cast_g hS hS' A,castL_g hS hS' A,operand_g hS hS' A,behind_g hS hS' A,trees_g hS hS' A,primary_g hS hS' A,named_g hS hS' A,inits_g hS hS' A,array_g hS hS' A,closed_g hS hS' A,arms_g hS hS' A,block_g hS hS' A,blockL_g hS hS' A,stmt_g hS hS' A,lets_g hS hS' A,plainly_g hS hS' A⟩
theorem tree_g {S S' : ByteArray} (hS:S.size <= 65536) (hS' : S'.size <= 65536) {l l' : List S35} (h:Sim S S' l l') (hl:l.length <= 65536) {n:Nat} (hn:16 * l.length + 6 <= n):GR S S' (Tr S S') l.length (treeP S.size n l) (treeP S'.size n l'):=by
 unfold treeP
 refine ((all_g S S' hS hS' n).climb 0 true 1 l l' h (by omega) hn hl).then fun x y l1 l1' hx h1 z1 => ?_
 exact GR.ite (by rw [h1.kind]) (fun _=>GR.ok hx h1 z1) (fun _=>GR.bad _ _ _)
end Go.Proofs.YtngpgdmafmkddaaDoor.Par
end
section
namespace Go.Proofs.YtngpgdmafmkddaaDoor.Lex
open Go.Proofs.YtngpgdmafmkddaaDoor.Calm Go.Proofs.YtngpgdmafmkddaaDoor.Par Go.RowKit Go.Proofs.YtngpgdmafmkddaaDoorW.PrintWords Go.Proofs.YtngpgdmafmkddaaDoorW.PrintLast Go.Proofs.YtngpgdmafmkddaaDoorW.PrintMore
open Go.Proofs.YtngpgdmafmkddaaDoor.PParseBlanks (S35 S25 S27 k35 k25 k27 rd_T35 rd_T25 rd_T27 at_T35 at_T25 at_T27)
set_option linter.unusedVariables false
set_option linter.unusedSimpArgs false
open Go.Proofs.YtngpgdmafmkddaaDoor.Par
theorem skipN_le:∀ (k:Nat) (l:List UInt8),skipN k l <= l.length
 | 0,l=>by simp [skipN]
 | k + 1,l=>by
  unfold skipN
  have h1:=spanL_le (p:=isBlank) l
  have h2:=spanL_le (p:=notNl) (l.drop (spanL isBlank l))
  have h3:=skipN_le k (l.drop (spanL isBlank l + spanL notNl (l.drop (spanL isBlank l))))
  have h4:=skipN_le k (l.drop (spanL isBlank l))
  simp only [List.length_drop] at h2 h3 h4
  split
  ·omega
  ·split <;> omega
theorem nextN_le (l:List UInt8):(nextN l).2.1 <= l.length:=by
 unfold nextN
 have h1:=spanL_le (p:=isPartB) l
 have h2:=sign_le l
 split
 ·split <;> simp <;> omega
 ·split
  ·split <;> simp <;> omega
  ·split
   ·simp
   ·split <;> simp <;> omega
theorem lexN_stands {S:ByteArray} : ∀ (k a:Nat) (l:List UInt8) (p:List UInt8) (ts:List S35),S.data.toList = p ++ l -> p.length = a -> lexN k a l = .ok ts -> (∀ t ∈ ts,Stands S t.f2 t.f1) /\ (ts.map fun t=>t.f1.size).sum <= l.length /\ ts.length <= l.length
 | 0,_,_,_,_,_,_,h=>by cases h
 | k + 1,a,[],_,ts,_,_,h=>by
  simp only [lexN] at h
  injection h with h
  subst h
  simp
 | k + 1,a,b :: r,p,ts,hp,ha,h=>by
  simp only [lexN] at h
  split at h
  ·cases h
  ·rename_i hm
   obtain ⟨m,hm2⟩:∃ m,(nextN (b :: r)).2.1 = m:=⟨_,rfl⟩
   have hle:=nextN_le (b :: r)
   rw [hm2] at h hm hle
   obtain ⟨sk,hsk⟩:∃ sk,skipN (((b :: r).drop m).length + 1) ((b :: r).drop m) = sk:=⟨_,rfl⟩
   have hsl:=skipN_le (((b :: r).drop m).length + 1) ((b :: r).drop m)
   rw [hsk] at h hsl
   simp only [List.length_drop] at hsl
   cases e:lexN k (a + m + sk) (((b :: r).drop m).drop sk) with
   | error x=>rw [e] at h;cases h
   | ok us =>
    rw [e] at h
    injection h with h
    subst h
    have hsplit:S.data.toList = (p ++ (b :: r).take m ++ ((b :: r).drop m).take sk) ++ ((b :: r).drop m).drop sk:=by
     rw [hp,List.append_assoc,List.append_assoc,List.take_append_drop,List.take_append_drop]
    have hpl:(p ++ (b :: r).take m ++ ((b :: r).drop m).take sk).length = a + m + sk:=by
     simp only [List.length_append,List.length_take,List.length_drop,ha]
     omega
    obtain ⟨h1,h2,h3⟩:=lexN_stands k (a + m + sk) _ _ us hsplit hpl e
    simp only [List.length_drop] at h2 h3
    have hsz:(⟨((b :: r).take m).toArray⟩:ByteArray).size = m:=by
     show ((b :: r).take m).toArray.size = m
     simp only [List.size_toArray,List.length_take]
     omega
    refine ⟨fun t ht => ?_, ?_, ?_⟩
    ·rcases List.mem_cons.1 ht with rfl | ht
     ·refine ⟨p,(b :: r).drop m, ?_,by simp [ha], ?_⟩
      ·rw [hp];simp
      ·intro hn
       have:=congrArg List.length hn
       simp only [List.length_take,List.length_nil] at this
       simp only [List.length_cons] at hle this
       omega
     ·exact h1 t ht
    ·simp only [List.map_cons,List.sum_cons,hsz]
     omega
    ·simp only [List.length_cons] at hle ⊢
     simp only [List.length_cons] at h3
     omega
theorem lexP_stands {s:ByteArray} {ts:List S35} (h:lexP s = .ok ts):s.size <= 65536 /\ (∀ t ∈ ts,Stands s t.f2 t.f1) /\ (ts.map fun t=>t.f1.size).sum <= s.size /\ ts.length <= s.size:=by
 unfold lexP at h
 split at h
 ·cases h
 ·rename_i hz
  have hle:=skipN_le (s.size + 1) s.data.toList
  obtain ⟨h1,h2,h3⟩:=lexN_stands (S:=s) _ _ _ (s.data.toList.take (skipN (s.size + 1) s.data.toList)) ts (by rw [List.take_append_drop]) (by simp only [List.length_take];omega) h
  have e:s.data.toList.length = s.size:=Array.length_toList
  simp only [List.length_drop] at h2 h3
  exact ⟨by omega,h1,by omega,by omega⟩
theorem lexN_err:∀ (k a:Nat) (l:List UInt8) (e:Nat × Int),l.length < k -> lexN k a l = .error e -> e.2 ≠ 0
 | 0,_,_,_,hl,_=>by omega
 | k + 1,a,[],_,_,h=>by simp only [lexN] at h;cases h
 | k + 1,a,b :: r,e,hl,h=>by
  simp only [lexN] at h
  split at h
  ·rename_i hm
   injection h with h
   subst h
   show (nextN (b :: r)).2.2 ≠ 0
   unfold nextN at hm ⊢
   split at hm
   ·rename_i c1
    rw [if_pos c1]
    split at hm
    ·rename_i c2;rw [if_pos c2];decide
    ·rename_i c2;exact absurd hm c2
   ·rename_i c1
    rw [if_neg c1]
    split at hm
    ·rename_i c2
     rw [if_pos c2]
     split at hm
     ·exact absurd hm c1
     ·rename_i c3;rw [if_neg c3];exact c3
    ·rename_i c2
     rw [if_neg c2]
     split at hm
     ·rename_i c3;rw [if_pos c3];decide
     ·split at hm <;> exact absurd hm c1
  ·rename_i hm
   have hl2:(((b :: r).drop (nextN (b :: r)).2.1).drop (skipN (((b :: r).drop (nextN (b :: r)).2.1).length + 1) ((b :: r).drop (nextN (b :: r)).2.1))).length < k:=by
    simp only [List.length_drop,List.length_cons] at hl ⊢
    omega
   split at h
   ·rename_i e' he
    injection h with h
    subst h
    exact lexN_err k _ _ _ hl2 he
   ·cases h
theorem lexP_err {s:ByteArray} {e:Nat × Int} (h:lexP s = .error e):e.2 ≠ 0:=by
 unfold lexP at h
 split at h
 ·injection h with h
  subst h
  decide
 ·have el:s.data.toList.length = s.size:=Array.length_toList
  exact lexN_err _ _ _ _ (by simp only [List.length_drop];omega) h
end Go.Proofs.YtngpgdmafmkddaaDoor.Lex
end
section
namespace Go.Proofs.YtngpgdmafmkddaaDoor.Lex
open Go.Proofs.YtngpgdmafmkddaaDoor.Calm Go.Proofs.YtngpgdmafmkddaaDoor.Par Go.RowKit Go.Proofs.YtngpgdmafmkddaaDoorW.PrintWords Go.Proofs.YtngpgdmafmkddaaDoorW.PrintLast Go.Proofs.YtngpgdmafmkddaaDoorW.PrintMore
open Go.Proofs.YtngpgdmafmkddaaDoor.PParseBlanks (S35 S25 S27 k35 k25 k27 rd_T35 rd_T25 rd_T27 at_T35 at_T25 at_T27)
set_option linter.unusedVariables false
set_option linter.unusedSimpArgs false
open Go.Proofs.YtngpgdmafmkddaaDoor.PParseBlanks (rd_T27 z27 at_T27)
theorem rd27 {xs:List S27} {i:Nat} (h:i < xs.length):xs[i]? = some (rd_T27 xs (i:Int)):=by
 unfold rd_T27
 rw [List.getD_eq_getElem?_getD]
 simp only [Int.toNat_natCast]
 rw [List.getElem?_eq_getElem h]
 rfl
end Go.Proofs.YtngpgdmafmkddaaDoor.Lex
end
section
namespace Go.Proofs.YtngpgdmafmkddaaDoor.Tre
open Go.Proofs.YtngpgdmafmkddaaDoor.Lex Go.Proofs.YtngpgdmafmkddaaDoor.Calm Go.Proofs.YtngpgdmafmkddaaDoor.Par Go.RowKit Go.Proofs.YtngpgdmafmkddaaDoorW.PrintWords Go.Proofs.YtngpgdmafmkddaaDoorW.PrintLast Go.Proofs.YtngpgdmafmkddaaDoorW.PrintMore
open Go.Proofs.YtngpgdmafmkddaaDoor.PParseBlanks (S35 S25 S27 k35 k25 k27 rd_T35 rd_T25 rd_T27 at_T35 at_T25 at_T27)
set_option linter.unusedVariables false
set_option linter.unusedSimpArgs false
open Go.Proofs.YtngpgdmafmkddaaDoor.PParseBlanks (rd_T27 at_T27)
theorem tree_knownL {s:ByteArray} {n:Nat} {x:S27} {a e:Int} (hx:treeX s n = some (x,a,e)) (w:World) (HT:Tab w):Calls Tryd.prog 8 #[.string s] w fun en w' => ∃ a4 ac4 a5 ac5 a9 ac9,en = .returned (.tuple #[.agg #[.int .i64 x.f0,.int .i64 x.f1,.int .i64 x.f2,.string x.f3,.slice a4 x.f4.length ac4,.slice a5 x.f5.length ac5,.int .i64 x.f6.f0,.string x.f6.f1,.int .i64 x.f6.f2,.slice a9 x.f6.f3.length ac9],.int .i64 a,.int .i64 e]) /\ Below w.heap.size w w' /\ VE w.heap.size w' (.agg #[.int .i64 x.f0,.int .i64 x.f1,.int .i64 x.f2,.string x.f3,.slice a4 x.f4.length ac4,.slice a5 x.f5.length ac5,.int .i64 x.f6.f0,.string x.f6.f1,.int .i64 x.f6.f2,.slice a9 x.f6.f3.length ac9]) x:=by
 refine (tree_said s n w HT (by rw [hx];intro h;cases h)).mono ?_
 rintro en w' ⟨hb,v,x',a',e',hx',rfl,hv⟩
 rw [hx] at hx'
 injection hx' with hx'
 simp only [Prod.mk.injEq] at hx'
 obtain ⟨rfl,rfl,rfl⟩:=hx'
 obtain ⟨a4,ac4,a5,ac5,a9,ac9,rfl⟩:=hv.form
 exact ⟨a4,ac4,a5,ac5,a9,ac9,rfl,hb,hv⟩
theorem VE.C4 {w:World} {B:Nat} {x:S27} {k a n k9 n9:Int} {s s9:ByteArray} {A4 A5 A9:Option Addr} {m4 m5 m9 c4 c5 c9:Nat} (h:VE B w (.agg #[.int .i64 k,.int .i64 a,.int .i64 n,.string s,.slice A4 m4 c4,.slice A5 m5 c5,.int .i64 k9,.string s9,.int .i64 n9,.slice A9 m9 c9]) x) :
  (x.f4.length <= c4 /\ Kd.C k27 w A4 x.f4.length x.f4) /\ (x.f5.length <= c5 /\ Kd.C k25 w A5 x.f5.length x.f5) /\ (x.f6.f3.length <= c9 /\ Kd.C k25 w A9 x.f6.f3.length x.f6.f3):=by
 obtain ⟨v4,v5,v9,e,r4,r5,r9⟩:=h
 injection e with e
 simp only [Array.mk.injEq,List.cons.injEq,Value.int.injEq,Value.string.injEq,true_and,and_true] at e
 obtain ⟨-, -, -, -,e4,e5, -, -, -,e9⟩:=e
 subst e4 e5 e9
 obtain ⟨B4,d4,q4⟩:=Kd.R_slice r4
 obtain ⟨B5,d5,q5⟩:=Kd.R_slice r5
 obtain ⟨B9,d9,q9⟩:=Kd.R_slice r9
 injection q4 with p1 p2 p3
 subst p1 p2 p3
 injection q5 with p1 p2 p3
 subst p1 p2 p3
 injection q9 with p1 p2 p3
 subst p1 p2 p3
 have u4:=Kd.V_reads' (Kd.R_V (base':=0) r4)
 have u5:=Kd.V_reads' (Kd.R_V (base':=0) r5)
 have u9:=Kd.V_reads' (Kd.R_V (base':=0) r9)
 exact ⟨⟨u4.2.1,u4.2.2⟩,⟨u5.2.1,u5.2.2⟩,⟨u9.2.1,u9.2.2⟩⟩
end Go.Proofs.YtngpgdmafmkddaaDoor.Tre
end
section
namespace Go.Proofs.YtngpgdmafmkddaaDoor.Lex
open Go.Proofs.YtngpgdmafmkddaaDoor.Calm Go.Proofs.YtngpgdmafmkddaaDoor.Par Go.RowKit Go.Proofs.YtngpgdmafmkddaaDoorW.PrintWords Go.Proofs.YtngpgdmafmkddaaDoorW.PrintLast Go.Proofs.YtngpgdmafmkddaaDoorW.PrintMore
open Go.Proofs.YtngpgdmafmkddaaDoor.PParseBlanks (S35 S25 S27 k35 k25 k27 rd_T35 rd_T25 rd_T27 at_T35 at_T25 at_T27)
set_option linter.unusedVariables false
set_option linter.unusedSimpArgs false
open Go.Proofs.YtngpgdmafmkddaaDoor.PParseBlanks (rd_T27 z27 at_T27 rd_T25 z25 at_T25)
theorem cell_lt {w:World} {p:Addr} {v:Value} (h:w.cell? p = some v):p.block < w.heap.size:=by
 rcases Nat.lt_or_ge p.block w.heap.size with h1 | h1
 ·exact h1
 ·exfalso
  simp [World.cell?,Array.getElem?_eq_none h1] at h
theorem keepc {w w' : World} {p:Addr} {v:Value} (hb:Below w.heap.size w w') (h:w.cell? p = some v):w'.cell? p = some v:=(hb.cell (cell_lt h)).trans h
theorem rd25 {xs:List S25} {i:Nat} (h:i < xs.length):xs[i]? = some (rd_T25 xs (i:Int)):=by
 unfold rd_T25
 rw [List.getD_eq_getElem?_getD]
 simp only [Int.toNat_natCast]
 rw [List.getElem?_eq_getElem h]
 rfl
set_option maxRecDepth 100000 in
set_option maxHeartbeats 4000000 in
theorem sameT_said {t:S25} (h:TyS t):∀ (w:World) (a3 b3:Option Addr) (ac3 bc3:Nat),Kd.C k25 w a3 t.f3.length t.f3 -> t.f3.length <= ac3 -> Kd.C k25 w b3 t.f3.length t.f3 -> t.f3.length <= bc3 ->
  Calls Tryd.prog 25 #[.agg #[.int .i64 t.f0,.string t.f1,.int .i64 t.f2,.slice a3 t.f3.length ac3],.agg #[.int .i64 t.f0,.string t.f1,.int .i64 t.f2,.slice b3 t.f3.length bc3]] w fun e w' => e = .returned (.bool true) /\ Below w.heap.size w w':=by
 induction h with
 | mk t hl hk ih =>
  intro w a3 b3 ac3 bc3 hA ha hB hb
  have IH:=am ih
  have HA:=am hA
  have HBB:=am hB
  have hz1:(w.alloc (Obj.cells #[.int .i64 t.f0,.string t.f1,.int .i64 t.f2,.slice a3 t.f3.length ac3] 25)).heap.size = w.heap.size + 1:=by simp
  have B0:=am (below_alloc (below_alloc (Below.refl w.heap.size w) (Obj.cells #[.int .i64 t.f0,.string t.f1,.int .i64 t.f2,.slice a3 t.f3.length ac3] 25)) (Obj.cells #[.int .i64 t.f0,.string t.f1,.int .i64 t.f2,.slice b3 t.f3.length bc3] 25))
  have HX:=am ((Has.new w #[.int .i64 t.f0,.string t.f1,.int .i64 t.f2,.slice a3 t.f3.length ac3] 25).alloc (Obj.cells #[.int .i64 t.f0,.string t.f1,.int .i64 t.f2,.slice b3 t.f3.length bc3] 25))
  have HY:Aside0 (Has ((w.alloc (Obj.cells #[.int .i64 t.f0,.string t.f1,.int .i64 t.f2,.slice a3 t.f3.length ac3] 25)).alloc (Obj.cells #[.int .i64 t.f0,.string t.f1,.int .i64 t.f2,.slice b3 t.f3.length bc3] 25)) (w.heap.size + 1) #[.int .i64 t.f0,.string t.f1,.int .i64 t.f2,.slice b3 t.f3.length bc3] 25):=⟨by have h:=Has.new (w.alloc (Obj.cells #[.int .i64 t.f0,.string t.f1,.int .i64 t.f2,.slice a3 t.f3.length ac3] 25)) #[.int .i64 t.f0,.string t.f1,.int .i64 t.f2,.slice b3 t.f3.length bc3] 25;rwa [hz1] at h⟩
  clear ih hA hB hz1 hk
  have x0:=HX.out.cell 0
  have x1:=HX.out.cell 1
  have x2:=HX.out.cell 2
  have x3:=HX.out.cell 3
  have y0:=HY.out.cell 0
  have y1:=HY.out.cell 1
  have y2:=HY.out.cell 2
  have y3:=HY.out.cell 3
  simp only [List.getElem?_toArray,List.getElem?_cons_zero,List.getElem?_cons_succ] at x0 x1 x2 x3 y0 y1 y2 y3
  go_enter Tryd.func25,Tryd.ntmps25
  go_wp2_with fail
  go_loopw [5] (fun v5 wr => ∃ i:Nat,v5 = .int .i64 (i:Int) /\ i <= t.f3.length /\ Aside0 (Below w.heap.size w wr) /\ Aside0 (Has wr (w.heap.size) #[.int .i64 t.f0,.string t.f1,.int .i64 t.f2,.slice a3 t.f3.length ac3] 25) /\ Aside0 (Has wr (w.heap.size + 1) #[.int .i64 t.f0,.string t.f1,.int .i64 t.f2,.slice b3 t.f3.length bc3] 25)) (fun v5 _=>t.f3.length - (intOf v5).toNat)
  case atStart=>exact ⟨0,rfl,Nat.zero_le _,B0,HX,HY⟩
  case round =>
   clear B0 HX HY x0 x1 x2 x3 y0 y1 y2 y3
   obtain ⟨i,rfl,hi,HB,HX,HY⟩:=hrel
   by_cases hlt:i < t.f3.length
   ·have hlt2:(i:Int) < (t.f3.length:Int):=by omega
    have k1:decide ((i:Int) < (t.f3.length:Int)) = true:=decide_eq_true hlt2
    have hi0:(0:Int) <= (i:Int):=by omega
    have hwr:IntKind.i64.wrap ((i:Int) + 1) = ((i + 1:Nat):Int):=by rw [IntWalk.i64_in _ (by omega)];omega
    have x3:=HX.out.cell 3
    have y3:=HY.out.cell 3
    simp only [List.getElem?_toArray,List.getElem?_cons_zero,List.getElem?_cons_succ] at x3 y3
    go_upto_region 6 with fail
    have hD:=below_drew (Below.refl wr.heap.size wr)
    replace HB:=am (below_then HB.out HB.out.size hD)
    replace HX:=am (HX.out.belowS hD)
    replace HY:=am (HY.out.belowS hD)
    obtain ⟨W,hW⟩:∃ W,wr.drew = W:=⟨_,rfl⟩
    rw [hW] at HB HX HY
    clear hD
    have hCA:=Kd.C_below HA.out HB.out
    have hCB:=Kd.C_below HBB.out HB.out
    obtain ⟨ad,qB3,qd3,eA,q0,q1,q2,q3,ql3,qg3⟩:=at_T25 hCA (i:Int) hi0 hlt2
    obtain ⟨bd,rB3,rd3,eB,r0,r1,r2,r3,rl3,rg3⟩:=at_T25 hCB (i:Int) hi0 hlt2
    simp only [Int.toNat_natCast] at q0 q1 q2 q3 r0 r1 r2 r3
    subst eA
    subst eB
    have IHi:=fun w' (hw' : Below W.heap.size W w')=>IH.out i _ (rd25 hlt) w' _ _ _ _ (Kd.C_below qg3 hw') ql3 (Kd.C_below rg3 hw') rl3
    have hS0:(fun w' => Below W.heap.size W w') W:=Below.refl _ _
    refine region_treeQ (by kernel_rfl) (fun w' => Below W.heap.size W w') (hW ▸ hS0) fun hS => ?_
    rw [hW] at hS ⊢
    clear hW
    generalize hQQ:Exit.then _ _ = QQ
    have hsure:Sure QQ:=by
     rw [<- hQQ]
     intro c a a' w1 hd h
     simp +zetaDelta only [Exit.then,Exit.inBlock,bodyPost] at h ⊢
     first | (simp at h;done) | simpa [hd] using h
    refine tqh hsure hS 0 ?_
    apply Exists.intro
    apply And.intro
    ·rintro w' hw'
     apply VR.mk
     go_simp
     with_reducible rfl
    simp only [sA,sB,sC]
    refine tqh hsure hS 1 ?_
    apply Exists.intro
    apply And.intro
    ·rintro w' hw'
     have x3:=(HX.out.belowS hw').cell 3
     have y3:=(HY.out.belowS hw').cell 3
     simp only [List.getElem?_toArray,List.getElem?_cons_zero,List.getElem?_cons_succ] at x3 y3
     apply VR.mk
     go_simp
     with_reducible rfl
    simp only [sA,sB,sC]
    refine tqh hsure hS 2 ?_
    apply Exists.intro
    apply And.intro
    ·rintro w' hw'
     apply VR.mk
     go_simp
     with_reducible rfl
    simp only [sA,sB,sC]
    refine tqh hsure hS 3 ?_
    apply Exists.intro
    apply And.intro
    ·rintro w' hw'
     apply VR.mk
     go_simp
     with_reducible rfl
    simp only [sA,sB,sC]
    refine tqh hsure hS 4 ?_
    apply Exists.intro
    apply And.intro
    ·rintro w' hw'
     have q0':=keepc hw' q0
     have q1':=keepc hw' q1
     have q2':=keepc hw' q2
     have q3':=keepc hw' q3
     apply VR.mk
     go_simp
     with_reducible rfl
    simp only [sA,sB,sC]
    refine tqh hsure hS 5 ?_
    apply Exists.intro
    apply And.intro
    ·rintro w' hw'
     apply VR.mk
     go_simp
     with_reducible rfl
    simp only [sA,sB,sC]
    refine tqh hsure hS 6 ?_
    apply Exists.intro
    apply And.intro
    ·rintro w' hw'
     have x3:=(HX.out.belowS hw').cell 3
     have y3:=(HY.out.belowS hw').cell 3
     simp only [List.getElem?_toArray,List.getElem?_cons_zero,List.getElem?_cons_succ] at x3 y3
     apply VR.mk
     go_simp
     with_reducible rfl
    simp only [sA,sB,sC]
    refine tqh hsure hS 7 ?_
    apply Exists.intro
    apply And.intro
    ·rintro w' hw'
     apply VR.mk
     go_simp
     with_reducible rfl
    simp only [sA,sB,sC]
    refine tqh hsure hS 8 ?_
    apply Exists.intro
    apply And.intro
    ·rintro w' hw'
     apply VR.mk
     go_simp
     with_reducible rfl
    simp only [sA,sB,sC]
    refine tqh hsure hS 9 ?_
    apply Exists.intro
    apply And.intro
    ·rintro w' hw'
     have r0':=keepc hw' r0
     have r1':=keepc hw' r1
     have r2':=keepc hw' r2
     have r3':=keepc hw' r3
     apply VR.mk
     go_simp
     with_reducible rfl
    simp only [sA,sB,sC]
    refine tree_1Q (i:=10) (by kernel_rfl) ?_
    refine step_callQ (by rfl) (by rfl) (by rfl) ⟨by go_simp;first | with_reducible exact ⟨rfl,rfl⟩ | with_reducible rfl⟩ ?_
    refine (IHi W (Below.refl _ _)).mono ?_
    rintro en w2 ⟨rfl,hb2⟩
    replace HB:=am (below_then HB.out HB.out.size hb2)
    replace HX:=am (HX.out.belowS hb2)
    replace HY:=am (HY.out.belowS hb2)
    refine .inl ⟨_,rfl,hb2, ?_⟩
    simp only [sA,sB,sC]
    refine tqh hsure hb2 11 ?_
    apply Exists.intro
    apply And.intro
    ·rintro w' hw'
     apply VR.mk
     go_simp
     with_reducible rfl
    simp only [sA,sB,sC]
    refine tree_endQ (by kernel_rfl) ?_
    rw [<- hQQ]
    go_wp2
    go_roundw
    case rel=>exact ⟨i + 1,by simp,by omega,HB,HX,HY⟩
    case measure=>first | omega | (simp;omega) | (simp only [intOf];omega) | (simp [intOf];omega)
   ·have k1:decide ((i:Int) < (t.f3.length:Int)) = false:=decide_eq_false (by omega)
    have k2 : ¬ (i:Int) < (t.f3.length:Int):=by omega
    have x3:=HX.out.cell 3
    have y3:=HY.out.cell 3
    simp only [List.getElem?_toArray,List.getElem?_cons_zero,List.getElem?_cons_succ] at x3 y3
    go_wp2
    go_ret
    exact ⟨rfl,HB.out⟩
set_option maxRecDepth 100000 in
set_option maxHeartbeats 4000000 in
theorem sameTs_said {xs:List S25} (h:TyL xs) (w:World) (a3 b3:Option Addr) (ac3 bc3:Nat) (hA:Kd.C k25 w a3 xs.length xs) (ha:xs.length <= ac3) (hB:Kd.C k25 w b3 xs.length xs) (hb:xs.length <= bc3) :
  Calls Tryd.prog 24 #[.slice a3 xs.length ac3,.slice b3 xs.length bc3] w fun e w' => e = .returned (.bool true) /\ Below w.heap.size w w':=by
 have HA:=am hA
 have HBB:=am hB
 have HH:=am h
 have hl:=h.1
 have B0:=am (Below.refl w.heap.size w)
 clear hA hB h
 go_enter Tryd.func24,Tryd.ntmps24
 go_wp2_with fail
 go_loopw [5] (fun v5 wr => ∃ i:Nat,v5 = .int .i64 (i:Int) /\ i <= xs.length /\ Aside0 (Below w.heap.size w wr)) (fun v5 _=>xs.length - (intOf v5).toNat)
 case atStart=>exact ⟨0,rfl,Nat.zero_le _,B0⟩
 case round =>
  clear B0
  obtain ⟨i,rfl,hi,HB⟩:=hrel
  by_cases hlt:i < xs.length
  ·have hlt2:(i:Int) < (xs.length:Int):=by omega
   have k1:decide ((i:Int) < (xs.length:Int)) = true:=decide_eq_true hlt2
   have hi0:(0:Int) <= (i:Int):=by omega
   have hwr:IntKind.i64.wrap ((i:Int) + 1) = ((i + 1:Nat):Int):=by rw [IntWalk.i64_in _ (by omega)];omega
   skip
   go_upto_region 6 with fail
   have hD:=below_drew (Below.refl wr.heap.size wr)
   replace HB:=am (below_then HB.out HB.out.size hD)
   obtain ⟨W,hW⟩:∃ W,wr.drew = W:=⟨_,rfl⟩
   rw [hW] at HB
   clear hD
   have hCA:=Kd.C_below HA.out HB.out
   have hCB:=Kd.C_below HBB.out HB.out
   obtain ⟨ad,qB3,qd3,eA,q0,q1,q2,q3,ql3,qg3⟩:=at_T25 hCA (i:Int) hi0 hlt2
   obtain ⟨bd,rB3,rd3,eB,r0,r1,r2,r3,rl3,rg3⟩:=at_T25 hCB (i:Int) hi0 hlt2
   simp only [Int.toNat_natCast] at q0 q1 q2 q3 r0 r1 r2 r3
   subst eA
   subst eB
   have IHi:=fun w' (hw' : Below W.heap.size W w')=>sameT_said (HH.out.2 i _ (rd25 hlt)) w' _ _ _ _ (Kd.C_below qg3 hw') ql3 (Kd.C_below rg3 hw') rl3
   have hS0:(fun w' => Below W.heap.size W w') W:=Below.refl _ _
   refine region_treeQ (by kernel_rfl) (fun w' => Below W.heap.size W w') (hW ▸ hS0) fun hS => ?_
   rw [hW] at hS ⊢
   clear hW
   generalize hQQ:Exit.then _ _ = QQ
   have hsure:Sure QQ:=by
    rw [<- hQQ]
    intro c a a' w1 hd h
    simp +zetaDelta only [Exit.then,Exit.inBlock,bodyPost] at h ⊢
    first | (simp at h;done) | simpa [hd] using h
   refine tqh hsure hS 0 ?_
   apply Exists.intro
   apply And.intro
   ·rintro w' hw'
    apply VR.mk
    go_simp
    with_reducible rfl
   simp only [sA,sB,sC]
   refine tqh hsure hS 1 ?_
   apply Exists.intro
   apply And.intro
   ·rintro w' hw'
    apply VR.mk
    go_simp
    with_reducible rfl
   simp only [sA,sB,sC]
   refine tqh hsure hS 2 ?_
   apply Exists.intro
   apply And.intro
   ·rintro w' hw'
    apply VR.mk
    go_simp
    with_reducible rfl
   simp only [sA,sB,sC]
   refine tqh hsure hS 3 ?_
   apply Exists.intro
   apply And.intro
   ·rintro w' hw'
    have q0':=keepc hw' q0
    have q1':=keepc hw' q1
    have q2':=keepc hw' q2
    have q3':=keepc hw' q3
    apply VR.mk
    go_simp
    with_reducible rfl
   simp only [sA,sB,sC]
   refine tqh hsure hS 4 ?_
   apply Exists.intro
   apply And.intro
   ·rintro w' hw'
    apply VR.mk
    go_simp
    with_reducible rfl
   simp only [sA,sB,sC]
   refine tqh hsure hS 5 ?_
   apply Exists.intro
   apply And.intro
   ·rintro w' hw'
    apply VR.mk
    go_simp
    with_reducible rfl
   simp only [sA,sB,sC]
   refine tqh hsure hS 6 ?_
   apply Exists.intro
   apply And.intro
   ·rintro w' hw'
    apply VR.mk
    go_simp
    with_reducible rfl
   simp only [sA,sB,sC]
   refine tqh hsure hS 7 ?_
   apply Exists.intro
   apply And.intro
   ·rintro w' hw'
    have r0':=keepc hw' r0
    have r1':=keepc hw' r1
    have r2':=keepc hw' r2
    have r3':=keepc hw' r3
    apply VR.mk
    go_simp
    with_reducible rfl
   simp only [sA,sB,sC]
   refine tree_1Q (i:=8) (by kernel_rfl) ?_
   refine step_callQ (by rfl) (by rfl) (by rfl) ⟨by go_simp;first | with_reducible exact ⟨rfl,rfl⟩ | with_reducible rfl⟩ ?_
   refine (IHi W (Below.refl _ _)).mono ?_
   rintro en w2 ⟨rfl,hb2⟩
   replace HB:=am (below_then HB.out HB.out.size hb2)
   refine .inl ⟨_,rfl,hb2, ?_⟩
   simp only [sA,sB,sC]
   refine tqh hsure hb2 9 ?_
   apply Exists.intro
   apply And.intro
   ·rintro w' hw'
    apply VR.mk
    go_simp
    with_reducible rfl
   simp only [sA,sB,sC]
   refine tree_endQ (by kernel_rfl) ?_
   rw [<- hQQ]
   go_wp2
   go_roundw
   case rel=>exact ⟨i + 1,by simp,by omega,HB⟩
   case measure=>first | omega | (simp;omega) | (simp only [intOf];omega) | (simp [intOf];omega)
  ·have k1:decide ((i:Int) < (xs.length:Int)) = false:=decide_eq_false (by omega)
   have k2 : ¬ (i:Int) < (xs.length:Int):=by omega
   skip
   go_wp2
   go_ret
   exact ⟨rfl,HB.out⟩
inductive Fin27:S27 -> Prop
 | mk (b:S27) (hz:b.f4.length <= 1000000) (hy:TyL b.f5) (h7:b.f6.f3 = []) (hk:∀ (i:Nat) (u:S27),b.f4[i]? = some u -> Fin27 u):Fin27 b
set_option maxRecDepth 100000 in
set_option maxHeartbeats 4000000 in
theorem same_said {t:S27} (h:Fin27 t):∀ (w:World) (a4 a5 a9 b4 b5 b9:Option Addr) (ac4 ac5 ac9 bc4 bc5 bc9:Nat),Kd.C k27 w a4 t.f4.length t.f4 -> t.f4.length <= ac4 -> Kd.C k25 w a5 t.f5.length t.f5 -> t.f5.length <= ac5 -> Kd.C k25 w a9 t.f6.f3.length t.f6.f3 -> t.f6.f3.length <= ac9 ->
  Kd.C k27 w b4 t.f4.length t.f4 -> t.f4.length <= bc4 -> Kd.C k25 w b5 t.f5.length t.f5 -> t.f5.length <= bc5 -> Kd.C k25 w b9 t.f6.f3.length t.f6.f3 -> t.f6.f3.length <= bc9 ->
  Calls Tryd.prog 10 #[.agg #[.int .i64 t.f0,.int .i64 t.f1,.int .i64 t.f2,.string t.f3,.slice a4 t.f4.length ac4,.slice a5 t.f5.length ac5,.int .i64 t.f6.f0,.string t.f6.f1,.int .i64 t.f6.f2,.slice a9 t.f6.f3.length ac9],.agg #[.int .i64 t.f0,.int .i64 t.f1,.int .i64 t.f2,.string t.f3,.slice b4 t.f4.length bc4,.slice b5 t.f5.length bc5,.int .i64 t.f6.f0,.string t.f6.f1,.int .i64 t.f6.f2,.slice b9 t.f6.f3.length bc9]] w fun e w' => e = .returned (.bool true) /\ Below w.heap.size w w':=by
 induction h with
 | mk t hl hy h7 hk ih =>
  intro w a4 a5 a9 b4 b5 b9 ac4 ac5 ac9 bc4 bc5 bc9 hA ha hA5 ha5 hA9 ha9 hB hb hB5 hb5 hB9 hb9
  have IH:=am ih
  have HA:=am hA
  have HBB:=am hB
  have HA5:=am hA5
  have HB5:=am hB5
  have HA9:=am hA9
  have HB9:=am hB9
  have HTY:=am hy
  have HT6:Aside0 (TyS t.f6):=⟨TyS.mk _ (by rw [h7];simp) (by rw [h7];exact TyL.nil.2)⟩
  have hz1:(w.alloc (Obj.cells #[.int .i64 t.f0,.int .i64 t.f1,.int .i64 t.f2,.string t.f3,.slice a4 t.f4.length ac4,.slice a5 t.f5.length ac5,.int .i64 t.f6.f0,.string t.f6.f1,.int .i64 t.f6.f2,.slice a9 t.f6.f3.length ac9] 27)).heap.size = w.heap.size + 1:=by simp
  have B0:=am (below_alloc (below_alloc (Below.refl w.heap.size w) (Obj.cells #[.int .i64 t.f0,.int .i64 t.f1,.int .i64 t.f2,.string t.f3,.slice a4 t.f4.length ac4,.slice a5 t.f5.length ac5,.int .i64 t.f6.f0,.string t.f6.f1,.int .i64 t.f6.f2,.slice a9 t.f6.f3.length ac9] 27)) (Obj.cells #[.int .i64 t.f0,.int .i64 t.f1,.int .i64 t.f2,.string t.f3,.slice b4 t.f4.length bc4,.slice b5 t.f5.length bc5,.int .i64 t.f6.f0,.string t.f6.f1,.int .i64 t.f6.f2,.slice b9 t.f6.f3.length bc9] 27))
  have HX:=am ((Has.new w #[.int .i64 t.f0,.int .i64 t.f1,.int .i64 t.f2,.string t.f3,.slice a4 t.f4.length ac4,.slice a5 t.f5.length ac5,.int .i64 t.f6.f0,.string t.f6.f1,.int .i64 t.f6.f2,.slice a9 t.f6.f3.length ac9] 27).alloc (Obj.cells #[.int .i64 t.f0,.int .i64 t.f1,.int .i64 t.f2,.string t.f3,.slice b4 t.f4.length bc4,.slice b5 t.f5.length bc5,.int .i64 t.f6.f0,.string t.f6.f1,.int .i64 t.f6.f2,.slice b9 t.f6.f3.length bc9] 27))
  have HY:Aside0 (Has ((w.alloc (Obj.cells #[.int .i64 t.f0,.int .i64 t.f1,.int .i64 t.f2,.string t.f3,.slice a4 t.f4.length ac4,.slice a5 t.f5.length ac5,.int .i64 t.f6.f0,.string t.f6.f1,.int .i64 t.f6.f2,.slice a9 t.f6.f3.length ac9] 27)).alloc (Obj.cells #[.int .i64 t.f0,.int .i64 t.f1,.int .i64 t.f2,.string t.f3,.slice b4 t.f4.length bc4,.slice b5 t.f5.length bc5,.int .i64 t.f6.f0,.string t.f6.f1,.int .i64 t.f6.f2,.slice b9 t.f6.f3.length bc9] 27)) (w.heap.size + 1) #[.int .i64 t.f0,.int .i64 t.f1,.int .i64 t.f2,.string t.f3,.slice b4 t.f4.length bc4,.slice b5 t.f5.length bc5,.int .i64 t.f6.f0,.string t.f6.f1,.int .i64 t.f6.f2,.slice b9 t.f6.f3.length bc9] 27):=⟨by have h:=Has.new (w.alloc (Obj.cells #[.int .i64 t.f0,.int .i64 t.f1,.int .i64 t.f2,.string t.f3,.slice a4 t.f4.length ac4,.slice a5 t.f5.length ac5,.int .i64 t.f6.f0,.string t.f6.f1,.int .i64 t.f6.f2,.slice a9 t.f6.f3.length ac9] 27)) #[.int .i64 t.f0,.int .i64 t.f1,.int .i64 t.f2,.string t.f3,.slice b4 t.f4.length bc4,.slice b5 t.f5.length bc5,.int .i64 t.f6.f0,.string t.f6.f1,.int .i64 t.f6.f2,.slice b9 t.f6.f3.length bc9] 27;rwa [hz1] at h⟩
  clear ih hA hB hA5 hB5 hA9 hB9 hz1 hk hy h7
  have x0:=HX.out.cell 0
  have x1:=HX.out.cell 1
  have x2:=HX.out.cell 2
  have x3:=HX.out.cell 3
  have x4:=HX.out.cell 4
  have x5:=HX.out.cell 5
  have x6:=HX.out.cell 6
  have x7:=HX.out.cell 7
  have x8:=HX.out.cell 8
  have x9:=HX.out.cell 9
  have y0:=HY.out.cell 0
  have y1:=HY.out.cell 1
  have y2:=HY.out.cell 2
  have y3:=HY.out.cell 3
  have y4:=HY.out.cell 4
  have y5:=HY.out.cell 5
  have y6:=HY.out.cell 6
  have y7:=HY.out.cell 7
  have y8:=HY.out.cell 8
  have y9:=HY.out.cell 9
  simp only [List.getElem?_toArray,List.getElem?_cons_zero,List.getElem?_cons_succ] at x0 x1 x2 x3 x4 x5 x6 x7 x8 x9 y0 y1 y2 y3 y4 y5 y6 y7 y8 y9
  go_enter Tryd.func10,Tryd.ntmps10
  go_wp2_with (first
   | (
    go_at_call 24
    (with_reducible refine Calls.mono (sameTs_said HTY.out _ a5 b5 ac5 bc5 (Kd.C_below HA5.out B0.out) ha5 (Kd.C_below HB5.out B0.out) hb5) ?_)
    go_must (
     rintro en w2 ⟨rfl,hb2⟩
     replace B0:=am (below_then B0.out B0.out.size hb2)
     replace HX:=am (HX.out.belowS hb2)
     replace HY:=am (HY.out.belowS hb2)
     clear x0 x1 x2 x3 x4 x5 x6 x7 x8 x9 y0 y1 y2 y3 y4 y5 y6 y7 y8 y9
     have x0:=HX.out.cell 0
     have x1:=HX.out.cell 1
     have x2:=HX.out.cell 2
     have x3:=HX.out.cell 3
     have x4:=HX.out.cell 4
     have x5:=HX.out.cell 5
     have x6:=HX.out.cell 6
     have x7:=HX.out.cell 7
     have x8:=HX.out.cell 8
     have x9:=HX.out.cell 9
     have y0:=HY.out.cell 0
     have y1:=HY.out.cell 1
     have y2:=HY.out.cell 2
     have y3:=HY.out.cell 3
     have y4:=HY.out.cell 4
     have y5:=HY.out.cell 5
     have y6:=HY.out.cell 6
     have y7:=HY.out.cell 7
     have y8:=HY.out.cell 8
     have y9:=HY.out.cell 9
     simp only [List.getElem?_toArray,List.getElem?_cons_zero,List.getElem?_cons_succ] at x0 x1 x2 x3 x4 x5 x6 x7 x8 x9 y0 y1 y2 y3 y4 y5 y6 y7 y8 y9))
   | (
    go_at_call 25
    (with_reducible refine Calls.mono (sameT_said HT6.out _ a9 b9 ac9 bc9 (Kd.C_below HA9.out B0.out) ha9 (Kd.C_below HB9.out B0.out) hb9) ?_)
    go_must (
     rintro en w3 ⟨rfl,hb3⟩
     replace B0:=am (below_then B0.out B0.out.size hb3)
     replace HX:=am (HX.out.belowS hb3)
     replace HY:=am (HY.out.belowS hb3)
     clear x0 x1 x2 x3 x4 x5 x6 x7 x8 x9 y0 y1 y2 y3 y4 y5 y6 y7 y8 y9)))
  go_loopw [5] (fun v5 wr => ∃ i:Nat,v5 = .int .i64 (i:Int) /\ i <= t.f4.length /\ Aside0 (Below w.heap.size w wr) /\ Aside0 (Has wr (w.heap.size) #[.int .i64 t.f0,.int .i64 t.f1,.int .i64 t.f2,.string t.f3,.slice a4 t.f4.length ac4,.slice a5 t.f5.length ac5,.int .i64 t.f6.f0,.string t.f6.f1,.int .i64 t.f6.f2,.slice a9 t.f6.f3.length ac9] 27) /\ Aside0 (Has wr (w.heap.size + 1) #[.int .i64 t.f0,.int .i64 t.f1,.int .i64 t.f2,.string t.f3,.slice b4 t.f4.length bc4,.slice b5 t.f5.length bc5,.int .i64 t.f6.f0,.string t.f6.f1,.int .i64 t.f6.f2,.slice b9 t.f6.f3.length bc9] 27)) (fun v5 _=>t.f4.length - (intOf v5).toNat)
  case atStart=>exact ⟨0,rfl,Nat.zero_le _,B0,HX,HY⟩
  case round =>
   clear B0 HX HY
   obtain ⟨i,rfl,hi,HB,HX,HY⟩:=hrel
   by_cases hlt:i < t.f4.length
   ·have hlt2:(i:Int) < (t.f4.length:Int):=by omega
    have k1:decide ((i:Int) < (t.f4.length:Int)) = true:=decide_eq_true hlt2
    have hi0:(0:Int) <= (i:Int):=by omega
    have hwr:IntKind.i64.wrap ((i:Int) + 1) = ((i + 1:Nat):Int):=by rw [IntWalk.i64_in _ (by omega)];omega
    have x4:=HX.out.cell 4
    have y4:=HY.out.cell 4
    simp only [List.getElem?_toArray,List.getElem?_cons_zero,List.getElem?_cons_succ] at x4 y4
    go_upto_region 6 with fail
    have hD:=below_drew (Below.refl wr.heap.size wr)
    replace HB:=am (below_then HB.out HB.out.size hD)
    replace HX:=am (HX.out.belowS hD)
    replace HY:=am (HY.out.belowS hD)
    obtain ⟨W,hW⟩:∃ W,wr.drew = W:=⟨_,rfl⟩
    rw [hW] at HB HX HY
    clear hD
    have hCA:=Kd.C_below HA.out HB.out
    have hCB:=Kd.C_below HBB.out HB.out
    obtain ⟨ad,qA4,qc4,qA5,qc5,qA9,qc9,eA,q0,q1,q2,q3,q4,q5,q6,q7,q8,q9,ql4,qg4,ql5,qg5,ql9,qg9⟩:=at_T27 hCA (i:Int) hi0 hlt2
    obtain ⟨bd,rA4,rc4,rA5,rc5,rA9,rc9,eB,r0,r1,r2,r3,r4,r5,r6,r7,r8,r9,rl4,rg4,rl5,rg5,rl9,rg9⟩:=at_T27 hCB (i:Int) hi0 hlt2
    simp only [Int.toNat_natCast] at q0 q1 q2 q3 q4 q5 q6 q7 q8 q9 r0 r1 r2 r3 r4 r5 r6 r7 r8 r9
    subst eA
    subst eB
    have IHi:=fun w' (hw' : Below W.heap.size W w')=>IH.out i _ (rd27 hlt) w' _ _ _ _ _ _ _ _ _ _ _ _ (Kd.C_below qg4 hw') ql4 (Kd.C_below qg5 hw') ql5 (Kd.C_below qg9 hw') ql9 (Kd.C_below rg4 hw') rl4 (Kd.C_below rg5 hw') rl5 (Kd.C_below rg9 hw') rl9
    have hS0:(fun w' => Below W.heap.size W w') W:=Below.refl _ _
    refine region_treeQ (by kernel_rfl) (fun w' => Below W.heap.size W w') (hW ▸ hS0) fun hS => ?_
    rw [hW] at hS ⊢
    clear hW
    generalize hQQ:Exit.then _ _ = QQ
    have hsure:Sure QQ:=by
     rw [<- hQQ]
     intro c a a' w1 hd h
     simp +zetaDelta only [Exit.then,Exit.inBlock,bodyPost] at h ⊢
     first | (simp at h;done) | simpa [hd] using h
    refine tqh hsure hS 0 ?_
    apply Exists.intro
    apply And.intro
    ·rintro w' hw'
     apply VR.mk
     go_simp
     with_reducible rfl
    simp only [sA,sB,sC]
    refine tqh hsure hS 1 ?_
    apply Exists.intro
    apply And.intro
    ·rintro w' hw'
     have x4:=(HX.out.belowS hw').cell 4
     have y4:=(HY.out.belowS hw').cell 4
     simp only [List.getElem?_toArray,List.getElem?_cons_zero,List.getElem?_cons_succ] at x4 y4
     apply VR.mk
     go_simp
     with_reducible rfl
    simp only [sA,sB,sC]
    refine tqh hsure hS 2 ?_
    apply Exists.intro
    apply And.intro
    ·rintro w' hw'
     apply VR.mk
     go_simp
     with_reducible rfl
    simp only [sA,sB,sC]
    refine tqh hsure hS 3 ?_
    apply Exists.intro
    apply And.intro
    ·rintro w' hw'
     apply VR.mk
     go_simp
     with_reducible rfl
    simp only [sA,sB,sC]
    refine tqh hsure hS 4 ?_
    apply Exists.intro
    apply And.intro
    ·rintro w' hw'
     have q0':=keepc hw' q0
     have q1':=keepc hw' q1
     have q2':=keepc hw' q2
     have q3':=keepc hw' q3
     have q4':=keepc hw' q4
     have q5':=keepc hw' q5
     have q6':=keepc hw' q6
     have q7':=keepc hw' q7
     have q8':=keepc hw' q8
     have q9':=keepc hw' q9
     apply VR.mk
     go_simp
     with_reducible rfl
    simp only [sA,sB,sC]
    refine tqh hsure hS 5 ?_
    apply Exists.intro
    apply And.intro
    ·rintro w' hw'
     apply VR.mk
     go_simp
     with_reducible rfl
    simp only [sA,sB,sC]
    refine tqh hsure hS 6 ?_
    apply Exists.intro
    apply And.intro
    ·rintro w' hw'
     have x4:=(HX.out.belowS hw').cell 4
     have y4:=(HY.out.belowS hw').cell 4
     simp only [List.getElem?_toArray,List.getElem?_cons_zero,List.getElem?_cons_succ] at x4 y4
     apply VR.mk
     go_simp
     with_reducible rfl
    simp only [sA,sB,sC]
    refine tqh hsure hS 7 ?_
    apply Exists.intro
    apply And.intro
    ·rintro w' hw'
     apply VR.mk
     go_simp
     with_reducible rfl
    simp only [sA,sB,sC]
    refine tqh hsure hS 8 ?_
    apply Exists.intro
    apply And.intro
    ·rintro w' hw'
     apply VR.mk
     go_simp
     with_reducible rfl
    simp only [sA,sB,sC]
    refine tqh hsure hS 9 ?_
    apply Exists.intro
    apply And.intro
    ·rintro w' hw'
     have r0':=keepc hw' r0
     have r1':=keepc hw' r1
     have r2':=keepc hw' r2
     have r3':=keepc hw' r3
     have r4':=keepc hw' r4
     have r5':=keepc hw' r5
     have r6':=keepc hw' r6
     have r7':=keepc hw' r7
     have r8':=keepc hw' r8
     have r9':=keepc hw' r9
     apply VR.mk
     go_simp
     with_reducible rfl
    simp only [sA,sB,sC]
    refine tree_1Q (i:=10) (by kernel_rfl) ?_
    refine step_callQ (by rfl) (by rfl) (by rfl) ⟨by go_simp;first | with_reducible exact ⟨rfl,rfl⟩ | with_reducible rfl⟩ ?_
    refine (IHi W (Below.refl _ _)).mono ?_
    rintro en w2 ⟨rfl,hb2⟩
    replace HB:=am (below_then HB.out HB.out.size hb2)
    replace HX:=am (HX.out.belowS hb2)
    replace HY:=am (HY.out.belowS hb2)
    refine .inl ⟨_,rfl,hb2, ?_⟩
    simp only [sA,sB,sC]
    refine tqh hsure hb2 11 ?_
    apply Exists.intro
    apply And.intro
    ·rintro w' hw'
     apply VR.mk
     go_simp
     with_reducible rfl
    simp only [sA,sB,sC]
    refine tree_endQ (by kernel_rfl) ?_
    rw [<- hQQ]
    go_wp2
    go_roundw
    case rel=>exact ⟨i + 1,by simp,by omega,HB,HX,HY⟩
    case measure=>first | omega | (simp;omega) | (simp only [intOf];omega) | (simp [intOf];omega)
   ·have k1:decide ((i:Int) < (t.f4.length:Int)) = false:=decide_eq_false (by omega)
    have k2 : ¬ (i:Int) < (t.f4.length:Int):=by omega
    have x4:=HX.out.cell 4
    have y4:=HY.out.cell 4
    simp only [List.getElem?_toArray,List.getElem?_cons_zero,List.getElem?_cons_succ] at x4 y4
    go_wp2
    go_ret
    exact ⟨rfl,HB.out⟩
end Go.Proofs.YtngpgdmafmkddaaDoor.Lex
end
section
namespace Go.Proofs.YtngpgdmafmkddaaDoor.Lex
open Go.Proofs.YtngpgdmafmkddaaDoor.Calm Go.Proofs.YtngpgdmafmkddaaDoor.Par Go.RowKit Go.Proofs.YtngpgdmafmkddaaDoorW.PrintWords Go.Proofs.YtngpgdmafmkddaaDoorW.PrintLast Go.Proofs.YtngpgdmafmkddaaDoorW.PrintMore
open Go.Proofs.YtngpgdmafmkddaaDoor.PParseBlanks (S35 S25 S27 k35 k25 k27 rd_T35 rd_T25 rd_T27 at_T35 at_T25 at_T27)
set_option linter.unusedVariables false
set_option linter.unusedSimpArgs false
open Go.Proofs.YtngpgdmafmkddaaDoor.PParseBlanks (rd_T27 z27 at_T27 k27_openM)
inductive Bar:S27 -> S27 -> Prop
 | mk (x:S27) (ks:List S27) (hl:ks.length = x.f4.length) (hz:x.f4.length <= 1000000) (hk:∀ (i:Nat) (u v:S27),x.f4[i]? = some u -> ks[i]? = some v -> Bar u v):Bar x ⟨x.f0,0,x.f2,x.f3,ks,x.f5,x.f6⟩
theorem row_elem {w:World} {B n c:Nat} {ok:Nat -> Prop} {A:Option Addr} {xs:List S27} (h:k27.R 27 w B ok (.slice A n c) xs) (i:Nat) (hi:i < xs.length):∃ ad A4 c4 A5 c5 A9 c9,A = some ad /\ n = xs.length /\ w.cell? (ad.add (i * 10)) = some (.int .i64 (rd_T27 xs i).f0) /\
  w.cell? ⟨(ad.add (i * 10)).block,(ad.add (i * 10)).off + 1,none⟩ = some (.int .i64 (rd_T27 xs i).f1) /\ w.cell? ⟨(ad.add (i * 10)).block,(ad.add (i * 10)).off + 2,none⟩ = some (.int .i64 (rd_T27 xs i).f2) /\ w.cell? ⟨(ad.add (i * 10)).block,(ad.add (i * 10)).off + 3,none⟩ = some (.string (rd_T27 xs i).f3) /\
  w.cell? ⟨(ad.add (i * 10)).block,(ad.add (i * 10)).off + 4,none⟩ = some (.slice A4 (rd_T27 xs i).f4.length c4) /\ w.cell? ⟨(ad.add (i * 10)).block,(ad.add (i * 10)).off + 5,none⟩ = some (.slice A5 (rd_T27 xs i).f5.length c5) /\
  w.cell? ⟨(ad.add (i * 10)).block,(ad.add (i * 10)).off + 6,none⟩ = some (.int .i64 (rd_T27 xs i).f6.f0) /\ w.cell? ⟨(ad.add (i * 10)).block,(ad.add (i * 10)).off + 7,none⟩ = some (.string (rd_T27 xs i).f6.f1) /\ w.cell? ⟨(ad.add (i * 10)).block,(ad.add (i * 10)).off + 8,none⟩ = some (.int .i64 (rd_T27 xs i).f6.f2) /\
  w.cell? ⟨(ad.add (i * 10)).block,(ad.add (i * 10)).off + 9,none⟩ = some (.slice A9 (rd_T27 xs i).f6.f3.length c9) /\
  VO ok B w (.agg #[.int .i64 (rd_T27 xs i).f0,.int .i64 (rd_T27 xs i).f1,.int .i64 (rd_T27 xs i).f2,.string (rd_T27 xs i).f3,.slice A4 (rd_T27 xs i).f4.length c4,.slice A5 (rd_T27 xs i).f5.length c5,.int .i64 (rd_T27 xs i).f6.f0,.string (rd_T27 xs i).f6.f1,.int .i64 (rd_T27 xs i).f6.f2,.slice A9 (rd_T27 xs i).f6.f3.length c9]) (rd_T27 xs i):=by
 obtain ⟨A',c',e,_,hn,hc,hf⟩:=OwnRow.reads h.2
 injection e with e1 e2 e3
 subst e1 e2 e3
 obtain ⟨ad,ea,hcc⟩:=hf (by omega)
 obtain ⟨cs,hl,hM,hcell⟩:=hcc i _ (rd27 hi)
 obtain ⟨v4,v5,v9,rfl,r4,r5,r9⟩:=k27_openM hM
 obtain ⟨A4,c4,rfl⟩:=Kd.R_slice r4
 obtain ⟨A5,c5,rfl⟩:=Kd.R_slice r5
 obtain ⟨A9,c9,rfl⟩:=Kd.R_slice r9
 have hV:VO ok B w (.agg #[.int .i64 (rd_T27 xs i).f0,.int .i64 (rd_T27 xs i).f1,.int .i64 (rd_T27 xs i).f2,.string (rd_T27 xs i).f3,.slice A4 (rd_T27 xs i).f4.length c4,.slice A5 (rd_T27 xs i).f5.length c5,.int .i64 (rd_T27 xs i).f6.f0,.string (rd_T27 xs i).f6.f1,.int .i64 (rd_T27 xs i).f6.f2,.slice A9 (rd_T27 xs i).f6.f3.length c9]) (rd_T27 xs i):=⟨_,_,_,rfl,Kd.R_mono r4 (fun k hk=>hk.1),Kd.R_mono r5 (fun k hk=>hk.1),Kd.R_mono r9 (fun k hk=>hk.1)⟩
 exact ⟨ad,A4,c4,A5,c5,A9,c9,ea,hn,hcell 0 _ rfl,by rw [<- add_field _ _ 1 (by omega)];exact hcell 1 _ rfl,by rw [<- add_field _ _ 2 (by omega)];exact hcell 2 _ rfl,by rw [<- add_field _ _ 3 (by omega)];exact hcell 3 _ rfl,by rw [<- add_field _ _ 4 (by omega)];exact hcell 4 _ rfl,by rw [<- add_field _ _ 5 (by omega)];exact hcell 5 _ rfl,by rw [<- add_field _ _ 6 (by omega)];exact hcell 6 _ rfl,by rw [<- add_field _ _ 7 (by omega)];exact hcell 7 _ rfl,by rw [<- add_field _ _ 8 (by omega)];exact hcell 8 _ rfl,by rw [<- add_field _ _ 9 (by omega)];exact hcell 9 _ rfl,hV⟩
theorem append27o {P:Program} {ops:Array Oper} {rest:List Oper} {o:Oper} {a:Act} {Q:Exit -> Act -> World -> Prop} {W:World} (hP:P.underlying 22 = some (.slice 27)) (hI:(P.info? 27).map (fun i=>(i.zero,i.size,i.bytes)) = some (some (.agg #[.int .i64 0,.int .i64 0,.int .i64 0,.string ⟨#[]⟩,.slice none 0 0,.slice none 0 0,.int .i64 0,.string ⟨#[]⟩,.int .i64 0,.slice none 0 0]),10,144)) (B:Nat) (okL okp:Nat -> Prop) (hgd:o.guard = none) (s x:Operand)
  (ho:o.op = .call { callee:=.builtin .append,args:=#[s,x],argTypes:=#[22,22] }) (v:Value) (xs ys:List S27) (A:Option Addr) (m c:Nat) (hs:a.eval s = v) (hx:a.eval x = .slice A m c)
  (HO:k27.R 27 W B okL v xs) (HY:k27.R 27 W B okp (.slice A m c) ys) (hp:∀ k,okp k -> okL k /\ some k ≠ v.ownBlock) (hnew:∀ k,W.heap.size <= k -> okL k) (hl:xs.length + ys.length <= 2000000) (hbase:B <= W.heap.size)
  (h:∀ v1 w1,k27.R 27 w1 B okL v1 (xs ++ ys) -> W.grownBy w1 v.ownBlock -> (v1.ownBlock = v.ownBlock \/ ∃ b,v1.ownBlock = some b /\ W.heap.size <= b) -> wpList P ops Q rest (a.put o.dst v1) w1):wpList P ops Q (o :: rest) a W:=by
 obtain ⟨A',c',e,_,hr⟩:=OwnRow.reads HY.2
 injection e with e1 e2 e3
 subst e1 e2 e3
 refine Kd.R_append_rows k27 (w0:=W) B hgd s x 22 27 (.agg #[.int .i64 0,.int .i64 0,.int .i64 0,.string ⟨#[]⟩,.slice none 0 0,.slice none 0 0,.int .i64 0,.string ⟨#[]⟩,.int .i64 0,.slice none 0 0]) 144 ho hP hI rfl (by decide) (by decide) v xs ys A ys.length c okL okp hs hx HO hr (fun x cs h=>k27.M_mono (fun k hk=>hk.1) h) hp hnew (Below.refl _ _) hbase (by omega) ?_
 intro v1 w1 h1 _ h3 h4
 exact h v1 w1 h1 h3 h4
set_option maxRecDepth 100000 in
set_option maxHeartbeats 4000000 in
theorem bare_said {x b:S27} (h:Bar x b):∀ (w:World) (B N:Nat) (v:Value),VO (fun k=>k < N) B w v x -> N <= w.heap.size -> B <= w.heap.size ->
  Calls Tryd.prog 11 #[v] w fun en w' => ∃ u,en = .returned u /\ Below w.heap.size w w' /\ VO (fun k=>k < N \/ w.heap.size <= k) B w' u b:=by
 induction h with
 | mk x ks hl hz hk ih =>
  intro w B N v hv hN hB
  have IH:=am ih
  obtain ⟨v4,v5,v9,rfl,r4,r5,r9⟩:=hv
  obtain ⟨A4,c4,rfl⟩:=Kd.R_slice r4
  obtain ⟨A5,c5,rfl⟩:=Kd.R_slice r5
  obtain ⟨A9,c9,rfl⟩:=Kd.R_slice r9
  have HR4:=am r4
  have HR5:=am r5
  have HR9:=am r9
  have hu27:=Tryd.underlying27
  have hz1:(w.alloc (Obj.cells #[.int .i64 x.f0,.int .i64 0,.int .i64 x.f2,.string x.f3,.slice A4 x.f4.length c4,.slice A5 x.f5.length c5,.int .i64 x.f6.f0,.string x.f6.f1,.int .i64 x.f6.f2,.slice A9 x.f6.f3.length c9] 27)).heap.size = w.heap.size + 1:=by simp
  have B1:=am (below_alloc (below_alloc (Below.refl w.heap.size w) (Obj.cells #[.int .i64 x.f0,.int .i64 0,.int .i64 x.f2,.string x.f3,.slice A4 x.f4.length c4,.slice A5 x.f5.length c5,.int .i64 x.f6.f0,.string x.f6.f1,.int .i64 x.f6.f2,.slice A9 x.f6.f3.length c9] 27)) (Obj.cells #[.int .i64 0,.int .i64 0,.int .i64 0,.string ⟨#[]⟩,.slice none 0 0,.slice none 0 0,.int .i64 0,.string ⟨#[]⟩,.int .i64 0,.slice none 0 0] 27))
  have HX1:=am ((Has.new w #[.int .i64 x.f0,.int .i64 0,.int .i64 x.f2,.string x.f3,.slice A4 x.f4.length c4,.slice A5 x.f5.length c5,.int .i64 x.f6.f0,.string x.f6.f1,.int .i64 x.f6.f2,.slice A9 x.f6.f3.length c9] 27).alloc (Obj.cells #[.int .i64 0,.int .i64 0,.int .i64 0,.string ⟨#[]⟩,.slice none 0 0,.slice none 0 0,.int .i64 0,.string ⟨#[]⟩,.int .i64 0,.slice none 0 0] 27))
  have HZ1:Aside0 (Has ((w.alloc (Obj.cells #[.int .i64 x.f0,.int .i64 0,.int .i64 x.f2,.string x.f3,.slice A4 x.f4.length c4,.slice A5 x.f5.length c5,.int .i64 x.f6.f0,.string x.f6.f1,.int .i64 x.f6.f2,.slice A9 x.f6.f3.length c9] 27)).alloc (Obj.cells #[.int .i64 0,.int .i64 0,.int .i64 0,.string ⟨#[]⟩,.slice none 0 0,.slice none 0 0,.int .i64 0,.string ⟨#[]⟩,.int .i64 0,.slice none 0 0] 27)) (w.heap.size + 1) #[.int .i64 0,.int .i64 0,.int .i64 0,.string ⟨#[]⟩,.slice none 0 0,.slice none 0 0,.int .i64 0,.string ⟨#[]⟩,.int .i64 0,.slice none 0 0] 27):=⟨by have h:=Has.new (w.alloc (Obj.cells #[.int .i64 x.f0,.int .i64 0,.int .i64 x.f2,.string x.f3,.slice A4 x.f4.length c4,.slice A5 x.f5.length c5,.int .i64 x.f6.f0,.string x.f6.f1,.int .i64 x.f6.f2,.slice A9 x.f6.f3.length c9] 27)) #[.int .i64 0,.int .i64 0,.int .i64 0,.string ⟨#[]⟩,.slice none 0 0,.slice none 0 0,.int .i64 0,.string ⟨#[]⟩,.int .i64 0,.slice none 0 0] 27;rwa [hz1] at h⟩
  have c1:=((Has.new w #[.int .i64 x.f0,.int .i64 x.f1,.int .i64 x.f2,.string x.f3,.slice A4 x.f4.length c4,.slice A5 x.f5.length c5,.int .i64 x.f6.f0,.string x.f6.f1,.int .i64 x.f6.f2,.slice A9 x.f6.f3.length c9] 27).alloc (Obj.cells #[.int .i64 0,.int .i64 0,.int .i64 0,.string ⟨#[]⟩,.slice none 0 0,.slice none 0 0,.int .i64 0,.string ⟨#[]⟩,.int .i64 0,.slice none 0 0] 27)).cell 1
  simp only [List.getElem?_toArray,List.getElem?_cons_zero,List.getElem?_cons_succ] at c1
  have f1:=((Has.new w #[.int .i64 x.f0,.int .i64 x.f1,.int .i64 x.f2,.string x.f3,.slice A4 x.f4.length c4,.slice A5 x.f5.length c5,.int .i64 x.f6.f0,.string x.f6.f1,.int .i64 x.f6.f2,.slice A9 x.f6.f3.length c9] 27).alloc (Obj.cells #[.int .i64 0,.int .i64 0,.int .i64 0,.string ⟨#[]⟩,.slice none 0 0,.slice none 0 0,.int .i64 0,.string ⟨#[]⟩,.int .i64 0,.slice none 0 0] 27)).frozen 1
  clear ih r4 r5 r9 hz1 hk
  go_enter Tryd.func11,Tryd.ntmps11
  go_wp2_with fail
  clear c1 f1
  go_loopw [3,4] (fun v3 v4 wr => ∃ i:Nat,v4 = .int .i64 (i:Int) /\ i <= x.f4.length /\ Aside0 (k27.R 27 wr B (fun k=>k < N \/ w.heap.size + 2 <= k) v3 (ks.take i) /\ ∀ k,v3.ownBlock = some k -> w.heap.size + 2 <= k) /\ Aside0 (Below w.heap.size w wr) /\ Aside0 (Has wr w.heap.size #[.int .i64 x.f0,.int .i64 0,.int .i64 x.f2,.string x.f3,.slice A4 x.f4.length c4,.slice A5 x.f5.length c5,.int .i64 x.f6.f0,.string x.f6.f1,.int .i64 x.f6.f2,.slice A9 x.f6.f3.length c9] 27) /\ Aside0 (Has wr (w.heap.size + 1) #[.int .i64 0,.int .i64 0,.int .i64 0,.string ⟨#[]⟩,.slice none 0 0,.slice none 0 0,.int .i64 0,.string ⟨#[]⟩,.int .i64 0,.slice none 0 0] 27)) (fun _ v4 _=>x.f4.length - (intOf v4).toNat)
  case atStart=>exact ⟨0,rfl,Nat.zero_le _,⟨by simpa using Kd.R_nil _ _ _ _ _,fun k hk=>by cases hk⟩,B1,HX1,HZ1⟩
  case round =>
   clear B1 HX1 HZ1
   obtain ⟨i,rfl,hi,HL,HB,HX,HZ⟩:=hrel
   have x4:=hci HX.out 4 rfl
   have hti:(ks.take i).length = i:=by simp only [List.length_take];omega
   obtain ⟨A3,c3,rfl⟩:∃ A c,u3 = .slice A i c:=by
    obtain ⟨A,c,h⟩:=Kd.R_slice HL.out.1
    exact ⟨A,c,by rw [h,hti]⟩
   by_cases hlt:i < x.f4.length
   ·have hlt2:(i:Int) < (x.f4.length:Int):=by omega
    have k1:decide ((i:Int) < (x.f4.length:Int)) = true:=decide_eq_true hlt2
    have hi0:(0:Int) <= (i:Int):=by omega
    have hwr:IntKind.i64.wrap ((i:Int) + 1) = ((i + 1:Nat):Int):=by rw [IntWalk.i64_in _ (by omega)];omega
    obtain ⟨ad,qA4,qc4,qA5,qc5,qA9,qc9,eA, -,q0,q1,q2,q3,q4,q5,q6,q7,q8,q9,hVK⟩:=row_elem (Kd.R_below HR4.out HB.out) i hlt
    subst eA
    have hb:=rd27 (xs:=ks) (i:=i) (by omega)
    have hwz:=HZ.out.lt
    have IHi:=am (IH.out i _ _ (rd27 hlt) hb wr B N _ hVK (by omega) (by omega))
    clear hVK
    go_wp2_with (first
     | (
      go_at_call 11
      (with_reducible refine Calls.mono IHi.out ?_)
      go_must (
       rintro en w2 ⟨u,rfl,hb2,hu⟩
       obtain ⟨uA4,uc4,uA5,uc5,uA9,uc9,rfl⟩:=hu.form
       have hz2:=hb2.size
       have HV:=am hu
       have HL2:=am (Kd.R_below HL.out.1 hb2)
       have hown:∀ k,(Value.slice A3 i c3).ownBlock = some k -> w.heap.size + 2 <= k /\ k < wr.heap.size:=fun k hk=>⟨HL.out.2 k hk,((Kd.R_bound HL.out.1).1 k hk).2.2.1⟩
       replace HX:=am (HX.out.belowS hb2)
       replace HZ:=am (HZ.out.belowS hb2)
       replace HB:=am (below_then HB.out HB.out.size hb2)
       obtain ⟨MX,LX⟩:=VO.lit (cs:=[.int .i64 (rd_T27 ks (i:Int)).f0,.int .i64 (rd_T27 ks (i:Int)).f1,.int .i64 (rd_T27 ks (i:Int)).f2,.string (rd_T27 ks (i:Int)).f3,.slice uA4 (rd_T27 ks (i:Int)).f4.length uc4,.slice uA5 (rd_T27 ks (i:Int)).f5.length uc5,.int .i64 (rd_T27 ks (i:Int)).f6.f0,.string (rd_T27 ks (i:Int)).f6.f1,.int .i64 (rd_T27 ks (i:Int)).f6.f2,.slice uA9 (rd_T27 ks (i:Int)).f6.f3.length uc9]) HV.out
       have HKR:=am (kids_lit (ok:=fun k=>k < N \/ wr.heap.size <= k) w2 B (by omega) (.inr hz2) (xs:=[(rd_T27 ks (i:Int))]) (reps_one MX LX) (by simp))
       have ba:=below_alloc (Below.refl w2.heap.size w2) (Obj.cells #[.int .i64 (rd_T27 ks (i:Int)).f0,.int .i64 (rd_T27 ks (i:Int)).f1,.int .i64 (rd_T27 ks (i:Int)).f2,.string (rd_T27 ks (i:Int)).f3,.slice uA4 (rd_T27 ks (i:Int)).f4.length uc4,.slice uA5 (rd_T27 ks (i:Int)).f5.length uc5,.int .i64 (rd_T27 ks (i:Int)).f6.f0,.string (rd_T27 ks (i:Int)).f6.f1,.int .i64 (rd_T27 ks (i:Int)).f6.f2,.slice uA9 (rd_T27 ks (i:Int)).f6.f3.length uc9] 27)
       replace HL2:=am (Kd.R_below HL2.out ba)
       replace HX:=am (HX.out.belowS ba)
       replace HZ:=am (HZ.out.belowS ba)
       replace HB:=am (below_then HB.out HB.out.size ba)
       clear MX LX))
     | (
      refine append27o Tryd.underlying22 info27 B (fun k=>k < N \/ w.heap.size + 2 <= k) (fun k=>k < N \/ wr.heap.size <= k) rfl (.tmp 13) (.tmp 20) rfl (.slice A3 i c3) (ks.take i) [(rd_T27 ks (i:Int))] (some ⟨w2.heap.size,0,none⟩) 1 1 (by rfl) (by rfl) HL2.out HKR.out ?hp ?hnew ?hl ?hbase ?_
      case hp=>exact fun k hk=>⟨hk.elim .inl (fun h=>.inr (by omega)),fun e=>by have:=hown k e.symm;rcases hk with h | h <;> omega⟩
      case hnew=>exact fun k hk=>.inr (by simp at hk;omega)
      case hl=>rw [hti];simp;omega
      case hbase=>simp;omega
      intro v1 w5 hR hG hat
      rw [show ks.take i ++ [(rd_T27 ks (i:Int))] = ks.take (i + 1) by rw [List.take_add_one,hb];rfl] at hR
      replace HX:=am (HX.out.of_block (hG.block _ HX.out.lt (fun h=>by have:=hown _ h.symm;omega)))
      replace HZ:=am (HZ.out.of_block (hG.block _ HZ.out.lt (fun h=>by have:=hown _ h.symm;omega)))
      replace HB:=am (HB.out.grown hG (by simp;omega) (fun k hk=>by have:=hown k hk;omega))
      have hown2:∀ k,v1.ownBlock = some k -> w.heap.size + 2 <= k:=fun k hk=>by
       rcases hat with h | ⟨q,h,hq⟩
       ·exact (hown k (h ▸ hk)).1
       ·rw [h] at hk
        obtain rfl:=Option.some.inj hk
        simp at hq
        omega
      have HRN:=am (And.intro hR hown2)
      clear hR hG hat hown2))
    go_roundw
    case rel=>exact ⟨i + 1,by simp,by omega,HRN,HB,HX,HZ⟩
    case measure=>first | omega | (simp;omega) | (simp only [intOf];omega) | (simp [intOf];omega)
   ·obtain rfl:i = x.f4.length:=by omega
    have hks:ks.take x.f4.length = ks:=List.take_of_length_le (by omega)
    rw [hks] at HL
    have k1:decide ((x.f4.length:Int) < (x.f4.length:Int)) = false:=decide_eq_false (by omega)
    have f4:=HX.out.frozen 4
    have HX2:Aside0 (Has (wr.setCell ⟨w.heap.size,4,none⟩ (.slice A3 x.f4.length c3)) w.heap.size #[.int .i64 x.f0,.int .i64 0,.int .i64 x.f2,.string x.f3,.slice A3 x.f4.length c3,.slice A5 x.f5.length c5,.int .i64 x.f6.f0,.string x.f6.f1,.int .i64 x.f6.f2,.slice A9 x.f6.f3.length c9] 27):=⟨HX.out.set_ 4 (.slice A3 x.f4.length c3)⟩
    have HZ2:=am (HZ.out.other (a:=⟨w.heap.size,4,none⟩) (by show w.heap.size + 1 ≠ w.heap.size;omega) (.slice A3 x.f4.length c3))
    go_wp2_with (first
     | (
      (with_reducible refine gate_dst (N:=24) rfl ?_)
      go_must (refine Kd.event_run rfl (load27 (wr.setCell ⟨w.heap.size,4,none⟩ (.slice A3 x.f4.length c3)) w.heap.size #[.int .i64 x.f0,.int .i64 0,.int .i64 x.f2,.string x.f3,.slice A3 x.f4.length c3,.slice A5 x.f5.length c5,.int .i64 x.f6.f0,.string x.f6.f1,.int .i64 x.f6.f2,.slice A9 x.f6.f3.length c9] HX2.out rfl _ _ _ rfl rfl) ?_))
     | (
      (with_reducible refine gate_store (t:=27) (p:=2) rfl ?_)
      go_must (
       refine store_event (t:=27) (p:=2) (v:=.tmp 24) (w1:=World.setRow (wr.setCell ⟨w.heap.size,4,none⟩ (.slice A3 x.f4.length c3)) (w.heap.size + 1) #[.int .i64 x.f0,.int .i64 0,.int .i64 x.f2,.string x.f3,.slice A3 x.f4.length c3,.slice A5 x.f5.length c5,.int .i64 x.f6.f0,.string x.f6.f1,.int .i64 x.f6.f2,.slice A9 x.f6.f3.length c9]) ?hg ?ho ?hn ?hr ?_
       (case ho=>rfl)
       (case hg=>rfl)
       (case hn=>rfl)
       (case hr=>exact store27 (wr.setCell ⟨w.heap.size,4,none⟩ (.slice A3 x.f4.length c3)) (w.heap.size + 1) _ _ HZ2.out rfl rfl (by first | kernel_rfl | (simp [Value.oneCell'])) _ _ _ _ rfl rfl rfl)
       intro w7 hw7
       subst hw7)))
    refine bodyPost_ret (results_cell_row rfl _ _ (w.heap.size + 1) 27 #[.int .i64 x.f0,.int .i64 0,.int .i64 x.f2,.string x.f3,.slice A3 x.f4.length c3,.slice A5 x.f5.length c5,.int .i64 x.f6.f0,.string x.f6.f1,.int .i64 x.f6.f2,.slice A9 x.f6.f3.length c9] (0,0) _ rfl (has_row HZ2.out #[.int .i64 x.f0,.int .i64 0,.int .i64 x.f2,.string x.f3,.slice A3 x.f4.length c3,.slice A5 x.f5.length c5,.int .i64 x.f6.f0,.string x.f6.f1,.int .i64 x.f6.f2,.slice A9 x.f6.f3.length c9]) Tryd.underlying27 rfl (by rfl)) rfl ?_
    have hfar:∀ k,(k < N \/ w.heap.size + 2 <= k) -> (World.setRow (wr.setCell ⟨w.heap.size,4,none⟩ (.slice A3 x.f4.length c3)) (w.heap.size + 1) #[.int .i64 x.f0,.int .i64 0,.int .i64 x.f2,.string x.f3,.slice A3 x.f4.length c3,.slice A5 x.f5.length c5,.int .i64 x.f6.f0,.string x.f6.f1,.int .i64 x.f6.f2,.slice A9 x.f6.f3.length c9]).heap[k]? = wr.heap[k]?:=fun k hk=>(row_block _ (w.heap.size + 1) k #[.int .i64 x.f0,.int .i64 0,.int .i64 x.f2,.string x.f3,.slice A3 x.f4.length c3,.slice A5 x.f5.length c5,.int .i64 x.f6.f0,.string x.f6.f1,.int .i64 x.f6.f2,.slice A9 x.f6.f3.length c9] (by omega)).trans (Below.heap_setCell _ ⟨w.heap.size,4,none⟩ _ k (by show k ≠ w.heap.size;omega))
    have hB2:Below w.heap.size w (World.setRow (wr.setCell ⟨w.heap.size,4,none⟩ (.slice A3 x.f4.length c3)) (w.heap.size + 1) #[.int .i64 x.f0,.int .i64 0,.int .i64 x.f2,.string x.f3,.slice A3 x.f4.length c3,.slice A5 x.f5.length c5,.int .i64 x.f6.f0,.string x.f6.f1,.int .i64 x.f6.f2,.slice A9 x.f6.f3.length c9]):=by
     have h1:=below_set (j:=4) (v:=.slice A3 x.f4.length c3) HB.out (Nat.le_refl w.heap.size)
     exact ⟨h1.os,h1.tape,h1.output,by rw [row_size];exact h1.size,fun k hk=>(row_block _ (w.heap.size + 1) k #[.int .i64 x.f0,.int .i64 0,.int .i64 x.f2,.string x.f3,.slice A3 x.f4.length c3,.slice A5 x.f5.length c5,.int .i64 x.f6.f0,.string x.f6.f1,.int .i64 x.f6.f2,.slice A9 x.f6.f3.length c9] (by omega)).trans (h1.block k hk)⟩
    have R4:=Kd.R_mono (Kd.R_step (Kd.R_bound HL.out.1) fun k hk1 hk2=>hfar k hk1.1) fun k hk=>hk.1
    have R5:=Kd.R_mono (Kd.R_step (Kd.R_bound (Kd.R_below HR5.out HB.out)) fun k hk1 hk2=>hfar k (.inl hk1.1)) fun k hk=>hk.1
    have R9:=Kd.R_mono (Kd.R_step (Kd.R_bound (Kd.R_below HR9.out HB.out)) fun k hk1 hk2=>hfar k (.inl hk1.1)) fun k hk=>hk.1
    exact ⟨_,rfl,hB2,⟨_,_,_,rfl,Kd.R_mono R4 (fun k hk=>hk.elim .inl fun h=>.inr (by omega)),Kd.R_mono R5 (fun k hk=>.inl hk),Kd.R_mono R9 (fun k hk=>.inl hk)⟩⟩
theorem collect:∀ (xs ys:List S27),xs.length = ys.length -> (∀ (i:Nat) (u v:S27),xs[i]? = some u -> ys[i]? = some v -> ∃ b,Bar u b /\ Bar v b /\ Fin27 b) ->
  ∃ bs:List S27,bs.length = xs.length /\ (∀ (i:Nat) (u b:S27),xs[i]? = some u -> bs[i]? = some b -> Bar u b) /\ (∀ (i:Nat) (v b:S27),ys[i]? = some v -> bs[i]? = some b -> Bar v b) /\ ∀ (i:Nat) (b:S27),bs[i]? = some b -> Fin27 b
 | [],[],_,_=>⟨[],rfl,fun i u b h=>by simp at h,fun i u b h=>by simp at h,fun i b h=>by simp at h⟩
 | [],y :: q,h,_=>by simp at h
 | x :: r,[],h,_=>by simp at h
 | x :: r,y :: q,hl,h=>by
  obtain ⟨bs,h1,h2,h3,h4⟩:=collect r q (by simpa using hl) fun i u v hu hv=>h (i + 1) u v (by simpa using hu) (by simpa using hv)
  obtain ⟨b,hb1,hb2,hb3⟩:=h 0 x y (by simp) (by simp)
  refine ⟨b :: bs,by simp [h1],fun i u c hu hc => ?_,fun i u c hu hc => ?_,fun i c hc => ?_⟩
  ·cases i with
   | zero =>
    simp at hu hc
    subst hu hc
    exact hb1
   | succ i=>exact h2 i u c (by simpa using hu) (by simpa using hc)
  ·cases i with
   | zero =>
    simp at hu hc
    subst hu hc
    exact hb2
   | succ i=>exact h3 i u c (by simpa using hu) (by simpa using hc)
  ·cases i with
   | zero =>
    simp at hc
    subst hc
    exact hb3
   | succ i=>exact h4 i c (by simpa using hc)
theorem alike_bar {S S' : ByteArray} {x y:S27} (h:Tr S S' x y):∃ b,Bar x b /\ Bar y b /\ Fin27 b:=by
 induction h with
 | mk x y h0 h2 h3 h5 h6 ha hb hn hl hz hy h7 hk ih =>
  obtain ⟨bs,g1,g2,g3,g4⟩:=collect x.f4 y.f4 hl ih
  refine ⟨⟨x.f0,0,x.f2,x.f3,bs,x.f5,x.f6⟩,Bar.mk x bs g1 hz g2, ?_,Fin27.mk _ (by show bs.length <= _;omega) hy h7 g4⟩
  have e:(⟨x.f0,0,x.f2,x.f3,bs,x.f5,x.f6⟩:S27) = ⟨y.f0,0,y.f2,y.f3,bs,y.f5,y.f6⟩:=by rw [h0,h2,h3,h5,h6]
  rw [e]
  exact Bar.mk y bs (by omega) (by omega) g3
theorem zero_bar:∃ b,Bar Z0 b /\ Bar Z0 b /\ Fin27 b:=
 ⟨_,Bar.mk Z0 [] rfl (by simp) (fun i u v h=>by simp at h),Bar.mk Z0 [] rfl (by simp) (fun i u v h=>by simp at h),Fin27.mk _ (by simp) TyL.nil rfl (fun i u h=>by simp at h)⟩
end Go.Proofs.YtngpgdmafmkddaaDoor.Lex
end
section
namespace Go.Proofs.YtngpgdmafmkddaaDoor.Lex
open Go.Proofs.YtngpgdmafmkddaaDoor.Calm Go.Proofs.YtngpgdmafmkddaaDoor.Par Go.RowKit Go.Proofs.YtngpgdmafmkddaaDoorW.PrintWords Go.Proofs.YtngpgdmafmkddaaDoorW.PrintLast Go.Proofs.YtngpgdmafmkddaaDoorW.PrintMore
open Go.Proofs.YtngpgdmafmkddaaDoor.PParseBlanks (S35 S25 S27 k35 k25 k27 rd_T35 rd_T25 rd_T27 at_T35 at_T25 at_T27)
set_option linter.unusedVariables false
set_option linter.unusedSimpArgs false
open Go.Proofs.YtngpgdmafmkddaaDoor.Par
def IsTok (k:Int) (x:List UInt8):Prop:=x ≠ [] /\ ∃ q,(nextN (x ++ q)).1 = k /\ (nextN (x ++ q)).2.1 = x.length
theorem span_app {p:Int -> Bool} {c:UInt8} (hc:p (c.toNat:Int) = false) (r:List UInt8):∀ (x q:List UInt8),spanL p (x ++ q) = x.length -> spanL p (x ++ c :: r) = x.length
 | [],q,_=>by simp [spanL,hc]
 | b :: x,q,h=>by
  simp only [List.cons_append,spanL,List.length_cons] at h ⊢
  split at h
  ·rename_i hb
   rw [if_pos hb]
   have:=span_app hc r x q (by omega)
   omega
  ·omega
theorem span_zero {p:Int -> Bool} {b:UInt8} {r:List UInt8} (h:spanL p (b :: r) = 0):p (b.toNat:Int) = false:=by
 simp only [spanL] at h
 split at h
 ·omega
 ·rename_i hb;simpa using hb
theorem span_pos {p:Int -> Bool} {b:UInt8} {r:List UInt8} (h : ¬ spanL p (b :: r) = 0):p (b.toNat:Int) = true:=by
 simp only [spanL] at h
 split at h
 ·rename_i hb;exact hb
 ·exact absurd rfl h
theorem span_none {p:Int -> Bool} {b:UInt8} {r:List UInt8} (h:p (b.toNat:Int) = false):spanL p (b :: r) = 0:=by
 simp only [spanL]
 rw [if_neg (by rw [h];decide)]
theorem blank_cases {b:UInt8} (h:isBlank (b.toNat:Int) = true):b = 32 \/ b = 9 \/ b = 10 \/ b = 13:=by
 simp only [isBlank,Bool.or_eq_true,beq_iff_eq] at h
 have key:∀ n:Nat,n < 256 -> (b.toNat:Int) = (n:Int) -> b = UInt8.ofNat n:=fun n _ e=>by
  have e2:b.toNat = n:=by omega
  rw [<- e2]
  simp
 rcases h with ((h | h) | h) | h
 ·exact .inl (key 32 (by omega) h)
 ·exact .inr (.inl (key 9 (by omega) h))
 ·exact .inr (.inr (.inl (key 10 (by omega) h)))
 ·exact .inr (.inr (.inr (key 13 (by omega) h)))
theorem part_10:isPartB ((10:UInt8).toNat:Int) = false:=by kernel_rfl
theorem part_not_blank {b:UInt8} (h:isPartB (b.toNat:Int) = true):isBlank (b.toNat:Int) = false /\ b ≠ 47:=by
 refine ⟨?_,fun e => ?_⟩
 ·cases hb:isBlank (b.toNat:Int) with
  | false=>rfl
  | true =>
   exfalso
   rcases blank_cases hb with rfl | rfl | rfl | rfl
   ·exact absurd (h.symm.trans (show isPartB ((32:UInt8).toNat:Int) = false by kernel_rfl)) (by decide)
   ·exact absurd (h.symm.trans (show isPartB ((9:UInt8).toNat:Int) = false by kernel_rfl)) (by decide)
   ·exact absurd (h.symm.trans part_10) (by decide)
   ·exact absurd (h.symm.trans (show isPartB ((13:UInt8).toNat:Int) = false by kernel_rfl)) (by decide)
 ·subst e
  exact absurd (h.symm.trans (show isPartB ((47:UInt8).toNat:Int) = false by kernel_rfl)) (by decide)
theorem two_10 {b:UInt8} {r:List UInt8} : (twoSigns.any fun p=>p.isPrefixOf (b :: 10 :: r)) = false:=by
 simp [twoSigns,List.isPrefixOf]
theorem one_not_blank {b:UInt8} (h:0 <= Lib.indexByte oneSigns.data.toList b):isBlank (b.toNat:Int) = false:=by
 cases hb:isBlank (b.toNat:Int) with
 | false=>rfl
 | true =>
  exfalso
  rcases blank_cases hb with rfl | rfl | rfl | rfl <;> exact absurd h (by decide)
theorem two_cases {l:List UInt8} (h:(twoSigns.any fun p=>p.isPrefixOf l) = true):∃ p ∈ twoSigns, ∃ q,l = p ++ q:=by
 rw [List.any_eq_true] at h
 obtain ⟨p,hp,hl⟩:=h
 obtain ⟨q,hq⟩:=List.isPrefixOf_iff_prefix.1 hl
 exact ⟨p,hp,q,hq.symm⟩
theorem two_len:∀ p ∈ twoSigns,p.length = 2 /\ isBlank ((p.headD 0).toNat:Int) = false /\ p ≠ [47,47]:=by
 intro p hp
 simp only [twoSigns,List.mem_cons,List.not_mem_nil,or_false] at hp
 rcases hp with rfl | rfl | rfl | rfl | rfl | rfl | rfl | rfl | rfl | rfl | rfl <;> exact ⟨rfl,by decide,by decide⟩
theorem tok_ways {k:Int} {x:List UInt8} (h:IsTok k x):(k = 4 /\ x ∈ twoSigns /\ isPartB ((x.headD 0).toNat:Int) = false) \/ (∃ b,x = [b] /\ k = 4 /\ isPartB (b.toNat:Int) = false /\ 0 <= Lib.indexByte oneSigns.data.toList b) \/
  (isPartB ((x.headD 0).toNat:Int) = true /\ ∀ r,(nextN (x ++ 10 :: r)).1 = k /\ (nextN (x ++ 10 :: r)).2.1 = x.length):=by
 obtain ⟨hx,q,h1,h2⟩:=h
 cases x with
 | nil=>exact absurd rfl hx
 | cons b x =>
  by_cases hs:spanL isPartB (b :: x ++ q) = 0
  ·have hb:=span_zero (r:=x ++ q) hs
   unfold nextN at h1 h2
   rw [if_pos hs] at h1 h2
   by_cases h0:signN (b :: x ++ q) = 0
   ·rw [if_pos h0] at h2;simp at h2
   rw [if_neg h0] at h1 h2
   unfold signN at h2
   by_cases ht:(twoSigns.any fun p=>p.isPrefixOf (b :: x ++ q)) = true
   ·rw [if_pos ht] at h2
    obtain ⟨p,hp,q2,hl⟩:=two_cases ht
    have hl2:=(two_len p hp).1
    have e:b :: x = p:=by
     have e1:=congrArg (List.take 2) hl
     have hx2:(b :: x).length = 2:=by simpa using h2.symm
     rw [List.take_append_of_le_length (by omega),List.take_append_of_le_length (by omega),List.take_of_length_le (by omega),List.take_of_length_le (by omega)] at e1
     exact e1
    exact .inl ⟨h1.symm,e ▸ hp,hb⟩
   ·rw [if_neg ht] at h2
    simp only [List.cons_append] at h2
    split at h2
    ·rename_i hi
     have hx1:x = []:=by
      have:x.length = 0:=by
       have h3:1 = (b :: x).length:=h2
       simp only [List.length_cons] at h3
       omega
      exact List.length_eq_zero_iff.1 this
     subst hx1
     exact .inr (.inl ⟨b,rfl,h1.symm,hb,hi⟩)
    ·simp at h2
  ·have hb:=span_pos (r:=x ++ q) hs
   refine .inr (.inr ⟨hb,fun r => ?_⟩)
   have hlen:spanL isPartB (b :: x ++ q) = (b :: x).length:=by
    unfold nextN at h2
    rw [if_neg hs] at h2
    split at h2
    ·split at h2
     ·exact h2
     ·simp at h2
    ·split at h2
     ·simp at h2
     ·split at h2 <;> exact h2
   have hlen2:=span_app part_10 r (b :: x) q hlen
   have hs2 : ¬ spanL isPartB (b :: x ++ 10 :: r) = 0:=by rw [hlen2];simp
   have t1:(b :: x ++ q).take (b :: x).length = b :: x:=List.take_left
   have t2:(b :: x ++ 10 :: r).take (b :: x).length = b :: x:=List.take_left
   unfold nextN at h1 h2 ⊢
   rw [if_neg hs,hlen,t1] at h1 h2
   rw [if_neg hs2,hlen2,t2]
   exact ⟨h1,h2⟩
theorem sign_two {x:List UInt8} (hx:x ∈ twoSigns) (r:List UInt8):signN (x ++ r) = 2:=by
 unfold signN
 rw [if_pos]
 rw [List.any_eq_true]
 exact ⟨x,hx,List.isPrefixOf_iff_prefix.2 (List.prefix_append x r)⟩
theorem tok_next {k:Int} {x:List UInt8} (h:IsTok k x) (r:List UInt8):(nextN (x ++ 10 :: r)).1 = k /\ (nextN (x ++ 10 :: r)).2.1 = x.length:=by
 rcases tok_ways h with ⟨rfl,hx,hp⟩ | ⟨b,rfl,rfl,hp,hi⟩ | ⟨-,h3⟩
 ·have hl:=(two_len x hx).1
  cases x with
  | nil=>cases hl
  | cons b x =>
   have hs:spanL isPartB (b :: x ++ 10 :: r) = 0:=span_none hp
   have hn:=sign_two hx (10 :: r)
   unfold nextN
   rw [if_pos hs,if_neg (by rw [hn];decide),hn]
   exact ⟨rfl,hl.symm⟩
 ·have hs:spanL isPartB ([b] ++ 10 :: r) = 0:=span_none hp
  have hn:signN ([b] ++ 10 :: r) = 1:=by
   unfold signN
   rw [if_neg (by rw [show [b] ++ 10 :: r = b :: 10 :: r from rfl,two_10];decide)]
   show (if 0 <= Lib.indexByte oneSigns.data.toList b then 1 else 0) = 1
   rw [if_pos hi]
  unfold nextN
  rw [if_pos hs,if_neg (by rw [hn];decide),hn]
  exact ⟨rfl,rfl⟩
 ·exact h3 r
theorem tok_head {k:Int} {x:List UInt8} (h:IsTok k x) (r:List UInt8):spanL isBlank (x ++ 10 :: r) = 0 /\ ([47,47]:List UInt8).isPrefixOf (x ++ 10 :: r) = false:=by
 rcases tok_ways h with ⟨-,hx, -⟩ | ⟨b,rfl, -, -,hi⟩ | ⟨hp, -⟩
 ·obtain ⟨hl,hb,hn⟩:=two_len x hx
  match x,hl with
  | [b,c],_ =>
   refine ⟨span_none hb, ?_⟩
   cases e:([47,47]:List UInt8).isPrefixOf ([b,c] ++ 10 :: r) with
   | false=>rfl
   | true =>
    simp [List.isPrefixOf] at e
    exact absurd (by rw [<- e.1, <- e.2]) hn
 ·refine ⟨span_none (one_not_blank hi), ?_⟩
  simp [List.isPrefixOf]
 ·cases x with
  | nil=>exact absurd rfl h.1
  | cons b x =>
   obtain ⟨h1,h2⟩:=part_not_blank hp
   refine ⟨span_none h1, ?_⟩
   have h3:(b == 47) = false:=by simpa using h2
   simp [List.isPrefixOf]
   intro h4
   exact absurd h4.symm h2
def joinL (ts:List S35):List UInt8:=ts.flatMap fun t=>t.f1.data.toList ++ [10]
theorem joinL_cons (t:S35) (r:List S35):joinL (t :: r) = t.f1.data.toList ++ 10 :: joinL r:=by simp [joinL]
theorem skip_join (ts:List S35) (h:∀ t ∈ ts,IsTok t.f0 t.f1.data.toList):∀ k:Nat,skipN k (joinL ts) = 0
 | 0=>rfl
 | k + 1=>by
  cases ts with
  | nil=>rfl
  | cons t r =>
   obtain ⟨h1,h2⟩:=tok_head (h t (List.mem_cons_self ..)) (joinL r)
   rw [joinL_cons]
   unfold skipN
   rw [h1,List.drop_zero,h2]
   rfl
theorem skip_line (ts:List S35) (h:∀ t ∈ ts,IsTok t.f0 t.f1.data.toList) (k:Nat):skipN (k + 1) (10 :: joinL ts) = 1:=by
 have hb:spanL isBlank (10 :: joinL ts) = 1 + spanL isBlank (joinL ts):=by
  simp only [spanL]
  rw [if_pos (by kernel_rfl)]
  omega
 have h0:spanL isBlank (joinL ts) = 0 /\ ([47,47]:List UInt8).isPrefixOf (joinL ts) = false:=by
  cases ts with
  | nil=>exact ⟨rfl,rfl⟩
  | cons t r =>
   rw [joinL_cons]
   exact tok_head (h t (List.mem_cons_self ..)) (joinL r)
 unfold skipN
 rw [hb,h0.1]
 simp only [Nat.add_zero,List.drop_succ_cons,List.drop_zero]
 rw [h0.2,skip_join ts h]
 rfl
theorem lexN_join:∀ (ts:List S35),(∀ t ∈ ts,IsTok t.f0 t.f1.data.toList) -> ∀ (k a:Nat),ts.length < k -> ∃ us,lexN k a (joinL ts) = .ok us /\ us.map (fun t=>(t.f0,t.f1)) = ts.map (fun t=>(t.f0,t.f1))
 | [],_,0,_,hk=>by simp at hk
 | [],_,k + 1,_,_=>⟨[],rfl,rfl⟩
 | t :: r,h,0,_,hk=>by simp at hk
 | t :: r,h,k + 1,a,hk=>by
  have ht:=h t (List.mem_cons_self ..)
  have hr:∀ u ∈ r,IsTok u.f0 u.f1.data.toList:=fun u hu=>h u (List.mem_cons_of_mem _ hu)
  obtain ⟨n1,n2⟩:=tok_next ht (joinL r)
  obtain ⟨us,hu1,hu2⟩:=lexN_join r hr k (a + t.f1.data.toList.length + 1) (by simp at hk;omega)
  refine ⟨⟨t.f0,t.f1,a⟩ :: us, ?_,by simp [hu2]⟩
  rw [joinL_cons]
  obtain ⟨b,x,hbx⟩:∃ b x,t.f1.data.toList = b :: x:=List.exists_cons_of_ne_nil ht.1
  have hd:(t.f1.data.toList ++ 10 :: joinL r).drop t.f1.data.toList.length = 10 :: joinL r:=List.drop_left
  have htk:(t.f1.data.toList ++ 10 :: joinL r).take t.f1.data.toList.length = t.f1.data.toList:=List.take_left
  have hs:=skip_line r hr (10 :: joinL r).length
  have hne : ¬ t.f1.data.toList.length = 0:=by rw [hbx];simp
  have hcons:t.f1.data.toList ++ 10 :: joinL r = b :: (x ++ 10 :: joinL r):=by rw [hbx];rfl
  have key:lexN (k + 1) a (b :: (x ++ 10 :: joinL r)) = .ok (⟨t.f0,t.f1,a⟩ :: us):=by
   simp only [lexN]
   rw [<- hcons,n2,if_neg hne,hd,hs]
   simp only [List.drop_succ_cons,List.drop_zero]
   rw [hu1,n1,htk]
  rw [hcons]
  exact key
theorem lexN_toks:∀ (k a:Nat) (l:List UInt8) (ts:List S35),lexN k a l = .ok ts -> ∀ t ∈ ts,IsTok t.f0 t.f1.data.toList
 | 0,_,_,_,h,_,_=>by cases h
 | k + 1,a,[],ts,h,t,ht=>by
  simp only [lexN] at h
  injection h with h
  subst h
  simp at ht
 | k + 1,a,b :: r,ts,h,t,ht=>by
  simp only [lexN] at h
  split at h
  ·cases h
  ·rename_i hm
   split at h
   ·cases h
   ·rename_i us e
    injection h with h
    subst h
    rcases List.mem_cons.1 ht with rfl | ht
    ·have hle:=nextN_le (b :: r)
     have hl:((b :: r).take (nextN (b :: r)).2.1).length = (nextN (b :: r)).2.1:=by
      simp only [List.length_take];omega
     show IsTok (nextN (b :: r)).1 ((b :: r).take (nextN (b :: r)).2.1)
     refine ⟨fun hn => ?_,(b :: r).drop (nextN (b :: r)).2.1, ?_, ?_⟩
     ·rw [hn] at hl
      exact hm hl.symm
     ·rw [List.take_append_drop]
     ·rw [List.take_append_drop,hl]
    ·exact lexN_toks k _ _ us e t ht
theorem sim_of {S S' : ByteArray} : ∀ (ts us:List S35),us.map (fun t=>(t.f0,t.f1)) = ts.map (fun t=>(t.f0,t.f1)) -> (∀ t ∈ ts,Stands S t.f2 t.f1) -> (∀ t ∈ us,Stands S' t.f2 t.f1) -> Sim S S' ts us
 | [],[],_,_,_=>.nil
 | [],u :: q,h,_,_=>by simp at h
 | t :: r,[],h,_,_=>by simp at h
 | t :: r,u :: q,h,h1,h2=>by
  simp only [List.map_cons,List.cons.injEq,Prod.mk.injEq] at h
  exact .cons t u r q h.1.1.symm h.1.2.symm (h1 t (List.mem_cons_self ..)) (h2 u (List.mem_cons_self ..)) (sim_of r q h.2 (fun x hx=>h1 x (List.mem_cons_of_mem _ hx)) fun x hx=>h2 x (List.mem_cons_of_mem _ hx))
theorem joinL_len (ts:List S35):(joinL ts).length = (ts.map fun t=>t.f1.size).sum + ts.length:=by
 induction ts with
 | nil=>rfl
 | cons t r ih =>
  rw [joinL_cons]
  simp only [List.length_append,List.length_cons,ih,List.map_cons,List.sum_cons]
  have:t.f1.data.toList.length = t.f1.size:=Array.length_toList
  omega
theorem lexP_join {s:ByteArray} {ts:List S35} (h:lexP s = .ok ts) (hs:s.size <= 30000):∃ us,lexP ⟨(joinL ts).toArray⟩ = .ok us /\ Sim s ⟨(joinL ts).toArray⟩ ts us /\ (joinL ts).length <= 65536:=by
 obtain ⟨hS,hst,hsum,hlen⟩:=lexP_stands h
 have htok:∀ t ∈ ts,IsTok t.f0 t.f1.data.toList:=by
  unfold lexP at h
  rw [if_neg (by omega)] at h
  exact lexN_toks _ _ _ ts h
 have hz:(joinL ts).length <= 65536:=by rw [joinL_len];omega
 have hsz:(⟨(joinL ts).toArray⟩:ByteArray).size = (joinL ts).length:=by
  show (joinL ts).toArray.size = _
  simp
 obtain ⟨us,h1,h2⟩:=lexN_join ts htok ((joinL ts).length + 1) 0 (by rw [joinL_len];omega)
 have hl:lexP ⟨(joinL ts).toArray⟩ = .ok us:=by
  unfold lexP
  rw [hsz,if_neg (by omega)]
  show lexN _ (skipN _ (joinL ts)) ((joinL ts).drop (skipN _ (joinL ts))) = _
  rw [skip_join ts htok]
  exact h1
 obtain ⟨-,hst2, -, -⟩:=lexP_stands hl
 exact ⟨us,hl,sim_of ts us h2 hst hst2,hz⟩
end Go.Proofs.YtngpgdmafmkddaaDoor.Lex
end
section
namespace Go.Proofs.YtngpgdmafmkddaaDoor.Tre
open Go.Proofs.YtngpgdmafmkddaaDoor.Lex Go.Proofs.YtngpgdmafmkddaaDoor.Calm Go.Proofs.YtngpgdmafmkddaaDoor.Par Go.RowKit Go.Proofs.YtngpgdmafmkddaaDoorW.PrintWords Go.Proofs.YtngpgdmafmkddaaDoorW.PrintLast Go.Proofs.YtngpgdmafmkddaaDoorW.PrintMore
open Go.Proofs.YtngpgdmafmkddaaDoor.PParseBlanks (S35 S25 S27 k35 k25 k27 rd_T35 rd_T25 rd_T27 at_T35 at_T25 at_T27)
set_option linter.unusedVariables false
set_option linter.unusedSimpArgs false
open Go.Proofs.YtngpgdmafmkddaaDoor.PParseBlanks (rd_T35 at_T35 z35)
theorem blanks_any {s:ByteArray} {ts:List S35} (h:lexP s = .ok ts) (hs:s.size <= 3000):∃ n m x y a b e z,treeX s n = some (x,a,e) /\ treeX ⟨(joinL ts).toArray⟩ m = some (y,b,e) /\ Bar x z /\ Bar y z /\ Fin27 z:=by
 obtain ⟨hS,hst,hsum,hlen⟩:=lexP_stands h
 obtain ⟨us,hu,hsim,hz⟩:=lexP_join h (by omega)
 obtain ⟨hS', -, -, -⟩:=lexP_stands hu
 have hg:=tree_g hS hS' hsim (by omega) (n:=16 * ts.length + 6) (Nat.le_refl _)
 cases ht:treeP s.size (16 * ts.length + 6) ts with
 | out=>rw [ht] at hg;cases hq:treeP (ByteArray.size ⟨(joinL ts).toArray⟩) (16 * ts.length + 6) us <;> rw [hq] at hg <;> exact hg.elim
 | bad a er =>
  rw [ht] at hg
  cases hq:treeP (ByteArray.size ⟨(joinL ts).toArray⟩) (16 * ts.length + 6) us with
  | out=>rw [hq] at hg;exact hg.elim
  | ok y l=>rw [hq] at hg;exact hg.elim
  | bad b er' =>
   rw [hq] at hg
   obtain ⟨rfl, -⟩:=hg
   obtain ⟨z,k1,k2,k3⟩:=zero_bar
   exact ⟨16 * ts.length + 6,16 * ts.length + 6,Z0,Z0,a,b,er,z,by unfold treeX;rw [h];dsimp only;rw [ht],by unfold treeX;rw [hu];dsimp only;rw [hq],k1,k2,k3⟩
 | ok x l =>
  rw [ht] at hg
  cases hq:treeP (ByteArray.size ⟨(joinL ts).toArray⟩) (16 * ts.length + 6) us with
  | out=>rw [hq] at hg;exact hg.elim
  | bad b er' => rw [hq] at hg;exact hg.elim
  | ok y l' =>
   rw [hq] at hg
   obtain ⟨z,k1,k2,k3⟩:=alike_bar hg.1
   exact ⟨16 * ts.length + 6,16 * ts.length + 6,x,y,0,0,0,z,by unfold treeX;rw [h];dsimp only;rw [ht],by unfold treeX;rw [hu];dsimp only;rw [hq],k1,k2,k3⟩
theorem one_tree:∃ x,treeX ⟨#[49,32,43,32,120]⟩ 100 = some (x,0,0) /\ x.f4.length = 2:=⟨mkE 9 2 0 ⟨#[43]⟩ [mkE 1 0 1 ⟨#[]⟩ [] [],mkE 4 4 0 ⟨#[120]⟩ [] []] [],by kernel_rfl,rfl⟩
theorem join_step (ts:List S35) (i:Nat) (hi:i < ts.length):(⟨(joinL (ts.take i)).toArray⟩:ByteArray) ++ (rd_T35 ts (i:Int)).f1 ++ ⟨#[10]⟩ = ⟨(joinL (ts.take (i + 1))).toArray⟩:=by
 have e:ts[i]? = some (rd_T35 ts (i:Int)):=by
  unfold rd_T35
  rw [List.getD_eq_getElem?_getD]
  simp only [Int.toNat_natCast]
  rw [List.getElem?_eq_getElem hi]
  rfl
 have ht:ts.take (i + 1) = ts.take i ++ [rd_T35 ts (i:Int)]:=by
  rw [List.take_add_one,e]
  rfl
 rw [ht]
 apply ByteArray.ext
 simp [joinL]
theorem join_le (ts:List S35) (i:Nat):(joinL (ts.take i)).length <= (joinL ts).length:=by
 rw [show joinL ts = joinL (ts.take i) ++ joinL (ts.drop i) by unfold joinL;rw [<- List.flatMap_append,List.take_append_drop]]
 simp
set_option maxRecDepth 100000 in
set_option maxHeartbeats 4000000 in
theorem blanks_walk (s0:ByteArray) (w:World) (HT:Tab w):Calls Tryd.prog 3 #[.string s0] w fun e w' => e = .returned (.bool true) /\ Below w.heap.size w w':=by
 obtain ⟨o,ho,hol⟩:=one_tree
 have HO:=am ho
 have HTT:=am HT
 have HB:=am (Below.refl w.heap.size w)
 have hn1:((o.f4.length:Int) != 2) = false:=by rw [hol];rfl
 have hu27:=Tryd.underlying27
 clear ho HT hol
 obtain ⟨s,hs⟩:∃ s,(if s0.size > 3000 then s0.extract 0 3000 else s0) = s:=⟨_,rfl⟩
 have hsz:s.size <= 3000:=by
  rw [<- hs]
  split
  ·simp [ByteArray.size_extract];exact Nat.min_le_left _ _
  ·omega
 go_enter Tryd.func3,Tryd.ntmps3
 go_upto_if 18 with fail
 go_cut [0] (fun v0 wc=>v0 = .string s /\ wc = w)
 case first =>
  by_cases hl:s0.size > 3000
  ·rw [if_pos hl] at hs
   have hl2:(s0.size:Int) > 3000:=by omega
   have hl3:decide ((s0.size:Int) > 3000) = true:=decide_eq_true hl2
   go_wp2
   go_meet
   case rel=>exact ⟨by first | rfl | (rw [<- hs];rfl),rfl⟩
  ·rw [if_neg hl] at hs
   have hl2 : ¬ (s0.size:Int) > 3000:=by omega
   have hl3:decide ((s0.size:Int) > 3000) = false:=decide_eq_false hl2
   go_wp2
   go_meet
   case rel=>exact ⟨by first | rfl | rw [hs],rfl⟩
 case rest =>
  obtain ⟨rfl,rfl⟩:=hcut
  clear hs
  cases hlx:lexP s with
  | error ee =>
   have HLX:=am hlx
   have he1:(ee.2 != 0) = true:=by simpa using lexP_err hlx
   clear hlx
   go_wp2_with (first
    | (
     go_at_call 8
     (with_reducible refine Calls.mono (tree_knownL HO.out _ (HTT.out.below HB.out)) ?_)
     go_must (
      rintro en w2 ⟨a4,ac4,a5,ac5,a9,ac9,rfl,hb2,hv⟩
      replace HB:=am (below_then HB.out HB.out.size hb2)
      have ba:=below_alloc (Below.refl w2.heap.size w2) (Obj.cells #[.int .i64 o.f0,.int .i64 o.f1,.int .i64 o.f2,.string o.f3,.slice a4 o.f4.length ac4,.slice a5 o.f5.length ac5,.int .i64 o.f6.f0,.string o.f6.f1,.int .i64 o.f6.f2,.slice a9 o.f6.f3.length ac9] 27)
      replace HB:=am (below_then HB.out HB.out.size ba)
      have HZ:=Has.new w2 #[.int .i64 o.f0,.int .i64 o.f1,.int .i64 o.f2,.string o.f3,.slice a4 o.f4.length ac4,.slice a5 o.f5.length ac5,.int .i64 o.f6.f0,.string o.f6.f1,.int .i64 o.f6.f2,.slice a9 o.f6.f3.length ac9] 27
      have c4:=hci HZ 4 rfl))
    | (
     go_at_call 9
     (with_reducible refine Calls.mono (lex_said s _ (HTT.out.below HB.out)) ?_)
     go_must (
      rintro en w3 ⟨hb3,hq⟩
      rw [HLX.out] at hq
      dsimp only at hq
      subst hq
      replace HB:=am (below_then HB.out HB.out.size hb3))))
   go_ret
   exact ⟨rfl,HB.out⟩
  | ok ts =>
   have HLX:=am hlx
   obtain ⟨n,m,x,y,a,b,e,z,hx,hy,k1,k2,k3⟩:=blanks_any hlx hsz
   have HX:=am hx
   have HY:=am hy
   have HK1:=am k1
   have HK2:=am k2
   have HK3:=am k3
   have hjl:(joinL ts).length <= 65536:=by
    obtain ⟨us, -, -,hz⟩:=lexP_join hlx (by omega)
    exact hz
   have htl:ts.length <= 65536:=by
    have:=joinL_len ts
    omega
   clear hlx hx hy k1 k2 k3
   go_upto_block 0 with (first
    | (
     go_at_call 8
     (with_reducible refine Calls.mono (tree_knownL HO.out _ (HTT.out.below HB.out)) ?_)
     go_must (
      rintro en w2 ⟨a4,ac4,a5,ac5,a9,ac9,rfl,hb2,hv⟩
      replace HB:=am (below_then HB.out HB.out.size hb2)
      have ba:=below_alloc (Below.refl w2.heap.size w2) (Obj.cells #[.int .i64 o.f0,.int .i64 o.f1,.int .i64 o.f2,.string o.f3,.slice a4 o.f4.length ac4,.slice a5 o.f5.length ac5,.int .i64 o.f6.f0,.string o.f6.f1,.int .i64 o.f6.f2,.slice a9 o.f6.f3.length ac9] 27)
      replace HB:=am (below_then HB.out HB.out.size ba)
      have HZ:=Has.new w2 #[.int .i64 o.f0,.int .i64 o.f1,.int .i64 o.f2,.string o.f3,.slice a4 o.f4.length ac4,.slice a5 o.f5.length ac5,.int .i64 o.f6.f0,.string o.f6.f1,.int .i64 o.f6.f2,.slice a9 o.f6.f3.length ac9] 27
      have c4:=hci HZ 4 rfl))
    | (
     go_at_call 9
     (with_reducible refine Calls.mono (lex_said s _ (HTT.out.below HB.out)) ?_)
     go_must (
      rintro en w3 ⟨hb3,hq⟩
      rw [HLX.out] at hq
      dsimp only at hq
      obtain ⟨A,c,rfl,hc,hC, -⟩:=hq
      replace HB:=am (below_then HB.out HB.out.size hb3))))
   go_wp2_with fail
   clear c4 HZ
   obtain ⟨W,hW⟩:∃ W,W = w3:=⟨_,rfl⟩
   go_loopw [9,10] (fun v9 v10 wr => ∃ i:Nat,v9 = .string ⟨(joinL (ts.take i)).toArray⟩ /\ v10 = .int .i64 (i:Int) /\ i <= ts.length /\ wr = w3) (fun _ v10 _=>ts.length - (intOf v10).toNat)
   case atStart=>exact ⟨0,rfl,rfl,Nat.zero_le _,rfl⟩
   case round =>
    obtain ⟨i,rfl,rfl,hi,rfl⟩:=hrel
    by_cases hlt:i < ts.length
    ·have hlt2:(i:Int) < (ts.length:Int):=by omega
     have k1:decide ((i:Int) < (ts.length:Int)) = true:=decide_eq_true hlt2
     have hi0:(0:Int) <= (i:Int):=by omega
     have hwr:IntKind.i64.wrap ((i:Int) + 1) = ((i + 1:Nat):Int):=by rw [IntWalk.i64_in _ (by omega)];omega
     have hst:=join_step ts i hlt
     have hjz:(joinL (ts.take i)).length + (rd_T35 ts (i:Int)).f1.size + 1 <= 65536:=by
      have h1:=congrArg ByteArray.size hst
      have h2:=join_le ts (i + 1)
      have h5:∀ l:List UInt8,ByteArray.size ⟨l.toArray⟩ = l.length:=fun l=>by simp [ByteArray.size]
      rw [ByteArray.size_append,ByteArray.size_append,h5 (joinL (ts.take i)),h5 (joinL (ts.take (i + 1)))] at h1
      have h4:ByteArray.size ⟨#[10]⟩ = 1:=rfl
      omega
     obtain ⟨ad,eA,q0,q1,q2⟩:=at_T35 hC (i:Int) hi0 hlt2
     subst eA
     simp only [Int.toNat_natCast] at q1
     go_wp2_with fail
     try any_goals (exfalso;omega)
     go_roundw
     case rel=>exact ⟨i + 1,rfl,by simp,by omega,trivial⟩
     case measure=>first | omega | (simp;omega) | (simp only [intOf];omega) | (simp [intOf];omega)
    ·obtain rfl:i = ts.length:=by omega
     rw [List.take_length]
     have k1:decide ((ts.length:Int) < (ts.length:Int)) = false:=decide_eq_false (by omega)
     go_upto_region 16 with (first
      | (
       go_at_call 8
       (with_reducible refine Calls.mono (tree_knownL HX.out _ (HTT.out.below HB.out)) ?_)
       go_must (
        rintro en w8 ⟨a4x,ac4x,a5x,ac5x,a9x,ac9x,rfl,hb2x,hvx⟩
        have hv:=am hvx
        have ba:=below_alloc (Below.refl w8.heap.size w8) (Obj.cells #[.int .i64 x.f0,.int .i64 x.f1,.int .i64 x.f2,.string x.f3,.slice a4x x.f4.length ac4x,.slice a5x x.f5.length ac5x,.int .i64 x.f6.f0,.string x.f6.f1,.int .i64 x.f6.f2,.slice a9x x.f6.f3.length ac9x] 27)
        replace HB:=am (below_then (below_then HB.out HB.out.size hb2x) (below_then HB.out HB.out.size hb2x).size ba)
        have HZ:=am (Has.new w8 #[.int .i64 x.f0,.int .i64 x.f1,.int .i64 x.f2,.string x.f3,.slice a4x x.f4.length ac4x,.slice a5x x.f5.length ac5x,.int .i64 x.f6.f0,.string x.f6.f1,.int .i64 x.f6.f2,.slice a9x x.f6.f3.length ac9x] 27)
        have HV:=am (hvx.below ba)
        clear hb2x hvx hv ba))
      | (
       go_at_call 8
       (with_reducible refine Calls.mono (tree_knownL HY.out _ (HTT.out.below HB.out)) ?_)
       go_must (
        rintro en w9 ⟨a4y,ac4y,a5y,ac5y,a9y,ac9y,rfl,hb2y,hvy⟩
        have ba:=below_alloc (Below.refl w9.heap.size w9) (Obj.cells #[.int .i64 y.f0,.int .i64 y.f1,.int .i64 y.f2,.string y.f3,.slice a4y y.f4.length ac4y,.slice a5y y.f5.length ac5y,.int .i64 y.f6.f0,.string y.f6.f1,.int .i64 y.f6.f2,.slice a9y y.f6.f3.length ac9y] 27)
        have h1:=below_then HB.out HB.out.size hb2y
        replace HB:=am (below_then h1 h1.size ba)
        replace HZ:=am ((HZ.out.belowS hb2y).belowS ba)
        replace HV:=am ((HV.out.below hb2y).below ba)
        have HZY:=am (Has.new w9 #[.int .i64 y.f0,.int .i64 y.f1,.int .i64 y.f2,.string y.f3,.slice a4y y.f4.length ac4y,.slice a5y y.f5.length ac5y,.int .i64 y.f6.f0,.string y.f6.f1,.int .i64 y.f6.f2,.slice a9y y.f6.f3.length ac9y] 27)
        have HVY:=am (hvy.below ba)
        clear hb2y hvy ba h1)))
     have hD:=below_drew (Below.refl (w9.alloc (Obj.cells #[.int .i64 y.f0,.int .i64 y.f1,.int .i64 y.f2,.string y.f3,.slice a4y y.f4.length ac4y,.slice a5y y.f5.length ac5y,.int .i64 y.f6.f0,.string y.f6.f1,.int .i64 y.f6.f2,.slice a9y y.f6.f3.length ac9y] 27)).heap.size (w9.alloc (Obj.cells #[.int .i64 y.f0,.int .i64 y.f1,.int .i64 y.f2,.string y.f3,.slice a4y y.f4.length ac4y,.slice a5y y.f5.length ac5y,.int .i64 y.f6.f0,.string y.f6.f1,.int .i64 y.f6.f2,.slice a9y y.f6.f3.length ac9y] 27)))
     replace HB:=am (below_then HB.out HB.out.size hD)
     replace HZ:=am (HZ.out.belowS hD)
     replace HZY:=am (HZY.out.belowS hD)
     replace HV:=am (HV.out.below hD)
     replace HVY:=am (HVY.out.below hD)
     clear hD
     obtain ⟨W,hW⟩:∃ W,(w9.alloc (Obj.cells #[.int .i64 y.f0,.int .i64 y.f1,.int .i64 y.f2,.string y.f3,.slice a4y y.f4.length ac4y,.slice a5y y.f5.length ac5y,.int .i64 y.f6.f0,.string y.f6.f1,.int .i64 y.f6.f2,.slice a9y y.f6.f3.length ac9y] 27)).drew = W:=⟨_,rfl⟩
     rw [hW] at HB HZ HZY HV HVY
     refine region_treeQ (by kernel_rfl) (fun w' => Has w' w8.heap.size #[.int .i64 x.f0,.int .i64 x.f1,.int .i64 x.f2,.string x.f3,.slice a4x x.f4.length ac4x,.slice a5x x.f5.length ac5x,.int .i64 x.f6.f0,.string x.f6.f1,.int .i64 x.f6.f2,.slice a9x x.f6.f3.length ac9x] 27 /\ Has w' w9.heap.size #[.int .i64 y.f0,.int .i64 y.f1,.int .i64 y.f2,.string y.f3,.slice a4y y.f4.length ac4y,.slice a5y y.f5.length ac5y,.int .i64 y.f6.f0,.string y.f6.f1,.int .i64 y.f6.f2,.slice a9y y.f6.f3.length ac9y] 27) (hW ▸ ⟨HZ.out,HZY.out⟩) fun hS => ?_
     rw [hW] at hS ⊢
     clear hW
     generalize hQQ:Exit.then _ _ = QQ
     have hsure:Sure QQ:=by
      rw [<- hQQ]
      intro c a a' w1 hd h
      simp +zetaDelta only [Exit.then,Exit.inBlock,bodyPost] at h ⊢
      first | (simp at h;done) | simpa [hd] using h
     have hee:(e == e) = true:=by simp
     refine tqh hsure hS 0 ?_
     apply Exists.intro
     apply And.intro
     ·rintro w' ⟨k1,k2⟩
      apply VR.mk
      go_simp
      with_reducible rfl
     simp only [sA,sB,sC]
     refine tqh hsure hS 1 ?_
     apply Exists.intro
     apply And.intro
     ·rintro w' ⟨k1,k2⟩
      apply VR.mk
      go_simp
      with_reducible rfl
     simp only [sA,sB,sC]
     refine tqh hsure hS 2 ?_
     apply Exists.intro
     apply And.intro
     ·rintro w' ⟨k1,k2⟩
      apply VR.mk
      go_simp
      with_reducible rfl
     simp only [sA,sB,sC]
     refine tqh hsure hS 3 ?_
     apply Exists.intro
     apply And.intro
     ·rintro w' ⟨k1,k2⟩
      apply VR.mk
      go_simp
      with_reducible rfl
     simp only [sA,sB,sC]
     refine tqh hsure hS 4 ?_
     refine ⟨.agg #[.int .i64 x.f0,.int .i64 x.f1,.int .i64 x.f2,.string x.f3,.slice a4x x.f4.length ac4x,.slice a5x x.f5.length ac5x,.int .i64 x.f6.f0,.string x.f6.f1,.int .i64 x.f6.f2,.slice a9x x.f6.f3.length ac9x],fun w' kk=>VR.mk (load27 w' _ _ kk.1 rfl _ _ _ rfl rfl), ?_⟩
     simp only [sA,sB,sC]
     refine tqh hsure hS 6 ?_
     refine ⟨.agg #[.int .i64 y.f0,.int .i64 y.f1,.int .i64 y.f2,.string y.f3,.slice a4y y.f4.length ac4y,.slice a5y y.f5.length ac5y,.int .i64 y.f6.f0,.string y.f6.f1,.int .i64 y.f6.f2,.slice a9y y.f6.f3.length ac9y],fun w' kk=>VR.mk (load27 w' _ _ kk.2 rfl _ _ _ rfl rfl), ?_⟩
     simp only [sA,sB,sC]
     have hsz1:=HB.out.size
     refine tree_1Q (i:=5) (by kernel_rfl) ?_
     refine step_callQ (by rfl) (by rfl) (by rfl) (ER_go (by go_simp;first | with_reducible exact ⟨rfl,rfl⟩ | with_reducible rfl)) ?_
     refine (bare_said HK1.out W 0 W.heap.size _ ((HV.out.bound.mono fun k hk=>hk.2.2).lower (Nat.zero_le _)) (Nat.le_refl _) (Nat.zero_le _)).mono ?_
     rintro en w2 ⟨u,rfl,hb2,hu⟩
     replace HB:=am (below_then HB.out HB.out.size hb2)
     replace HZ:=am (HZ.out.belowS hb2)
     replace HZY:=am (HZY.out.belowS hb2)
     replace HVY:=am (HVY.out.below hb2)
     obtain ⟨p4,pc4,p5,pc5,p9,pc9,rfl⟩:=hu.form
     refine .inl ⟨_,rfl,⟨HZ.out,HZY.out⟩, ?_⟩
     simp only [sA,sB,sC]
     refine tree_1Q (i:=7) (by kernel_rfl) ?_
     refine step_callQ (by rfl) (by rfl) (by rfl) (ER_go (by go_simp;first | with_reducible exact ⟨rfl,rfl⟩ | with_reducible rfl)) ?_
     refine (bare_said HK2.out w2 0 w2.heap.size _ ((HVY.out.bound.mono fun k hk=>hk.2.2).lower (Nat.zero_le _)) (Nat.le_refl _) (Nat.zero_le _)).mono ?_
     rintro en w3 ⟨v,rfl,hb3,hv⟩
     replace HB:=am (below_then HB.out HB.out.size hb3)
     replace HZ:=am (HZ.out.belowS hb3)
     replace HZY:=am (HZY.out.belowS hb3)
     obtain ⟨r4,rc4,r5,rc5,r9,rc9,rfl⟩:=hv.form
     refine .inl ⟨_,rfl,⟨HZ.out,HZY.out⟩, ?_⟩
     simp only [sA,sB,sC]
     have U:=VE.C4 ((hu.below hb3).mono (ok':=Any) fun _ _=>trivial)
     have V:=VE.C4 (hv.mono (ok':=Any) fun _ _=>trivial)
     refine tree_1Q (i:=8) (by kernel_rfl) ?_
     refine step_callQ (by rfl) (by rfl) (by rfl) (ER_go (by go_simp;first | with_reducible exact ⟨rfl,rfl⟩ | with_reducible rfl)) ?_
     refine (same_said HK3.out w3 _ _ _ _ _ _ _ _ _ _ _ _ U.1.2 U.1.1 U.2.1.2 U.2.1.1 U.2.2.2 U.2.2.1 V.1.2 V.1.1 V.2.1.2 V.2.1.1 V.2.2.2 V.2.2.1).mono ?_
     rintro en w4 ⟨rfl,hb4⟩
     replace HB:=am (below_then HB.out HB.out.size hb4)
     replace HZ:=am (HZ.out.belowS hb4)
     replace HZY:=am (HZY.out.belowS hb4)
     refine .inl ⟨_,rfl,⟨HZ.out,HZY.out⟩, ?_⟩
     simp only [sA,sB,sC]
     refine treeQ_h hsure (And.intro HZ.out HZY.out) (i:=9) (by kernel_rfl) (by rfl) (by rfl) (by kernel_rfl) (by rfl) ?_
     apply Exists.intro
     apply And.intro
     ·rintro w' ⟨k1,k2⟩
      apply VR.mk
      go_simp
      with_reducible rfl
     simp only [sA,sB,sC]
     refine treeQ_h hsure (And.intro HZ.out HZY.out) (i:=10) (by kernel_rfl) (by rfl) (by rfl) (by kernel_rfl) (by rfl) ?_
     apply Exists.intro
     apply And.intro
     ·rintro w' ⟨k1,k2⟩
      apply VR.mk
      go_simp
      with_reducible rfl
     simp only [sA,sB,sC]
     refine tree_endQ (by kernel_rfl) ?_
     rw [<- hQQ]
     go_wp2
     go_ret
     exact ⟨rfl,HB.out⟩
end Go.Proofs.YtngpgdmafmkddaaDoor.Tre
end
