/- TopTampers: for every input the call returns true; part A7 of the proof. -/
import Derived.Test.YtadggjnohohedaaGreatDoorA6
import Derived.Lib.Bytealg
import Derived.RangeFuncRecord
import Derived.RangeFuncIn
import Derived.RangeFuncSeq
import Derived.OwnWalkIn
import Derived.LoopN
import Derived.RangeFuncLeaves
import Derived.Maps.RangeRun
import Derived.Shelf.Lay
import Derived.Shelf.Sort.Plain
import Derived.Ground.NamesProg
import Derived.Sort.OwnSortedInts
set_option linter.unusedVariables false
set_option linter.unusedSimpArgs false
set_option linter.unusedSectionVars false
namespace Go.Proofs.YtadggjnohohedaaGreatDoor
namespace EV
noncomputable section
open Go.RowKit
theorem find248:Extern.find Tryz.f248=some Extern.BytealgIndexByte.indexByte:=by kernel_rfl
theorem findN248:Extern.findNext Tryz.f248=none:=by kernel_rfl
theorem name248 : (Tryz.f248.name == "runtime.NumGoroutine") = false := by kernel_rfl
theorem call248 (args:Array Value) (w:World):(callFunc 248 args).run Tryz.prog w=((Extern.BytealgIndexByte.indexByte args).run Tryz.prog w).andThen fun a w=>.ok (.value a) w:=by
 have hb:Tryz.f248.body.isNone=true:=rfl
 simp only [callFunc,Sem.run_bind,run_program,Result.andThen_ok,Tryz.func248,name248,hb,Bool.false_eq_true,if_false,if_true,findN248,find248]
 simp [mark]
 rfl
theorem idx_fn (s:ByteArray) (c:Int) (W:World):Calls Tryz.prog 213 #[.string s,.int .u8 c] W fun e w'=>e=.returned (.int .i64 (Go.Lib.indexByte s.data.toList c.toNat.toUInt8))∧w'=W:=by
 have h:=Go.Lib.run_indexByteString (P:=Tryz.prog) s c W
 refine calls_of_wp Tryz.func213 rfl ?_
 apply wp_seq
 apply wp_region
 simp [wpOps,go_sem,Tryz.ntmps213,Exit.then]
 refine .inl ?_
 apply wp_seq
 apply wp_region
 simp [wpOps,go_sem,Exit.then,call248,h]
 refine .inl (.inl (.inl (.inl ?_)))
 refine wp_ret ?_
 simp [bodyPost,results,Tryz.results213]
theorem byts_cons:∀ (m v:Nat),byts (m + 1) v=UInt8.ofNat (v / 256 ^ m % 256)::byts m v
 | 0,v=>by simp [byts]
 | m + 1,v=>by
  have ih:=byts_cons m (v / 256)
  show byts (m + 1) (v / 256)++[UInt8.ofNat (v % 256)]=_
  rw [ih,List.cons_append]
  congr 2
  rw [Nat.div_div_eq_div_mul,Nat.pow_succ,Nat.mul_comm]
def idxF (v c:Nat) (n:Nat):Nat→Int:=Nat.rec (motive:=fun _=>Nat→Int) (fun _=>.negSucc 0) (fun m ih i=>bif Nat.beq (Nat.mod (Nat.div v (Nat.pow 256 m)) 256) c then .ofNat i else ih (Nat.succ i)) n
theorem idxF_eq {c:Nat} (hc:c < 256) (v:Nat):∀ (n i:Nat),idxF v c n i=if Go.Lib.indexByte (byts n v) (UInt8.ofNat c)=-1 then -1 else Go.Lib.indexByte (byts n v) (UInt8.ofNat c) + i
 | 0,i=>rfl
 | m + 1,i=>by
  have h1:idxF v c (m + 1) i=bif Nat.beq (Nat.mod (Nat.div v (Nat.pow 256 m)) 256) c then .ofNat i else idxF v c m (Nat.succ i):=rfl
  have e:(UInt8.ofNat (v / 256 ^ m % 256) == UInt8.ofNat c)=Nat.beq (Nat.mod (Nat.div v (Nat.pow 256 m)) 256) c:=by
   have hk:v / 256 ^ m % 256 < 256:=Nat.mod_lt _ (by decide)
   show _=Nat.beq (v / 256 ^ m % 256) c
   rw [beq_dec]
   by_cases h:v / 256 ^ m % 256=c
   ·simp [h]
   ·have:UInt8.ofNat (v / 256 ^ m % 256)≠UInt8.ofNat c:=fun hh=>h (by
     have:=congrArg UInt8.toNat hh
     simp at this; omega)
    simp [h,this]
  rw [h1,byts_cons,Go.Lib.indexByte,e]
  cases hb:Nat.beq (Nat.mod (Nat.div v (Nat.pow 256 m)) 256) c with
  | true=>simp
  | false =>
   simp only [cond_false,Bool.false_eq_true,if_false]
   rw [idxF_eq hc v m (Nat.succ i)]
   have hge:=Go.Lib.indexByte_ge (byts m v) (UInt8.ofNat c)
   by_cases h2:Go.Lib.indexByte (byts m v) (UInt8.ofNat c)=-1
   ·simp [h2]
   ·simp only [h2,if_false,beq_iff_eq]
    rw [if_neg (by omega)]
    push_cast; omega
theorem idx213_ok {W0:World}:BSnd Tryz.prog W0 213 idx213:=by
 refine ⟨en213,fun vs me nx v me' nx' h W R g xs hf hx hm=>?_,fun vs me nx v me' nx' h=>?_⟩
 ·unfold idx213 at h
  split at h
  ·rename_i n s c
   cases hc:Nat.blt c 256 with
   | false=>rw [hc] at h; cases h
   | true =>
   rw [hc] at h
   have hc':c < 256:=Nat.le_of_ble_eq_true hc
   injection h with h1 h2 h3; subst h1; subst h2; subst h3
   obtain ⟨x,us,d1,d2,rfl⟩:=dens_cons hx
   obtain ⟨y,us,d3,d4,rfl⟩:=dens_cons d2
   have:us=[]:=by simpa [dens] using d4.symm
   subst this
   obtain ⟨hs,rfl⟩:=den_s d1
   have:=den_i d3; subst this
   refine Calls.mono (idx_fn (byt n s) (Int.ofNat c) W) (fun e w' ⟨h1,h2⟩=>⟨g,_,h1,G.ext.refl _ _,hf,Nat.le_refl _,?_,h2 ▸ hm⟩)
   have e1:(byt n s).data.toList=byts n s:=by simp [byt]
   have e2:(Int.ofNat c).toNat.toUInt8=UInt8.ofNat c:=rfl
   have e3:=idxF_eq hc' s n 0
   have e4:idxB n s c=idxF s c n 0:=rfl
   rw [e1,e2]
   have e5:idxB n s c=Go.Lib.indexByte (byts n s) (UInt8.ofNat c):=by
    rw [e4,e3]
    by_cases h2:Go.Lib.indexByte (byts n s) (UInt8.ofNat c)=-1
    ·simp [h2]
    ·simp [h2]
   rw [← e5]; rfl
  ·cases h
 ·unfold idx213 at h
  split at h
  ·rename_i n s c
   cases hc:Nat.blt c 256 with
   | false=>rw [hc] at h; cases h
   | true=>rw [hc] at h; cases h
  ·cases h
end
noncomputable section
open Go.RowKit
theorem AllT_put {α:Type}:∀ (p:Pos) (Q:Pos→α→Prop) (t:T α) (x:α),AllT Q t→Q p x→AllT Q (T.put p (some x) t)
 | .h,Q,.e,x,_,h=>⟨fun y hy=>by injection hy with hy; subst hy; exact h,trivial,trivial⟩
 | .h,Q,.n l v r,x,ht,h=>⟨fun y hy=>by injection hy with hy; subst hy; exact h,ht.2.1,ht.2.2⟩
 | .o p,Q,.e,x,_,h=>⟨(fun y hy=>(by cases hy)),AllT_put p (fun p=>Q (.o p)) .e x trivial h,trivial⟩
 | .o p,Q,.n l v r,x,ht,h=>⟨ht.1,AllT_put p (fun p=>Q (.o p)) l x ht.2.1 h,ht.2.2⟩
 | .i p,Q,.e,x,_,h=>⟨(fun y hy=>(by cases hy)),trivial,AllT_put p (fun p=>Q (.i p)) .e x trivial h⟩
 | .i p,Q,.n l v r,x,ht,h=>⟨ht.1,ht.2.1,AllT_put p (fun p=>Q (.i p)) r x ht.2.2 h⟩
def biS:T BI:=T.put p26 (some put25) (T.put p148 (some get147) (T.put p10 (some len9) (T.put p132 (some is131) (T.put p50 (some new49) (T.put p105 (some must104) (T.put p214 (some idx213) .e))))))
theorem biS_ok {W0:World} (hF:ftab0.Ok Tryz.prog W0) (hmix:Tryz.prog.follows .mixedOrders=true):AllT (fun p b=>BSnd Tryz.prog W0 (p.nat - 1) b) biS :=
 AllT_put p26 _ _ _ (AllT_put p148 _ _ _ (AllT_put p10 _ _ _ (AllT_put p132 _ _ _ (AllT_put p50 _ _ _ (AllT_put p105 _ _ _ (AllT_put p214 _ .e _ trivial idx213_ok) must104_ok) (new49_ok hF hmix)) is131_ok) len9_ok) get147_ok) put25_ok
theorem runS_sound {W0:World} (hF:ftab0.Ok Tryz.prog W0) (hmix:Tryz.prog.follows .mixedOrders=true) (n:Nat):SndF Tryz.prog W0 (runF biS n):=runF_sound (biS_ok hF hmix) fs_ok hF hmix endd n
end
noncomputable section
open Go.RowKit
set_option maxRecDepth 100000
structure Wt where
 m:Nat
 b:Nat→Nat
def pt (bm k:Nat):Value:=.pointer (some ⟨bm,k,none⟩)
def fnv (f:Nat):Value:=.func (.func f) #[] #[]
def vNum (bm k:Nat):Value:=.agg #[.int .u64 1,.int .u64 4294967296,pt bm k,.pointer none,.pointer none]
def vNam (bm k:Nat):Value:=.agg #[.int .u64 1,.int .u64 1048576,.pointer none,pt bm k,.pointer none]
def slc (b n:Nat):Value:=.slice (some ⟨b,0,none⟩) n n
def cN (lo hi:Int) (bm k:Nat):List Value:=[.int .u64 lo,.int .u64 hi,pt bm k,.pointer none,.pointer none]
def cI (lo hi:Int) (bm k:Nat):List Value:=[.int .u64 lo,.int .u64 hi,.pointer none,pt bm k,.pointer none]
def cT (bm k:Nat):List Value:=[.int .u64 0,.int .u64 0,.pointer none,.pointer none,pt bm k]
def c1 (bm k:Nat):List Value:=cN 1 4294967296 bm k
def c2 (bm k:Nat):List Value:=cI 1 1048576 bm k
def tab73 (bm om:Nat) (W:Wt):Kn:=[(0,pt bm om),(3,fnv 118),(4,fnv 119),(6,.map (some W.m)),(7,fnv 118),(8,pt bm om),(9,pt bm om),(10,pt bm (om + 1)),(11,vNum bm (om + 1)),(12,pt bm om),(13,pt bm om),(14,pt bm (om + 3)),(15,.agg #[.int .u64 0,.int .u64 0,.pointer none,.pointer none,pt bm (om + 3)]),(16,pt bm om),(17,pt bm om),(18,pt bm (om + 4)),(19,.agg #[.int .u64 0,.int .u64 1,.pointer none,pt bm (om + 4),.pointer none]),(20,fnv 119),(21,pt bm om),(22,pt bm om),(23,pt bm (om + 6)),(24,vNam bm (om + 6)),(25,fnv 119),(26,pt bm om),(27,pt bm om),(28,pt bm (om + 7)),(29,vNam bm (om + 7)),(30,fnv 119),(31,pt bm om),(32,pt bm om),(33,pt bm (om + 8)),(34,vNam bm (om + 8)),(35,fnv 119),(36,pt bm om),(37,pt bm om),(38,pt bm (om + 9)),(39,vNam bm (om + 9)),(40,fnv 119),(41,pt bm om),(42,pt bm om),(43,pt bm (om + 10)),(44,vNam bm (om + 10)),(45,slc (W.b 1) 8),(46,fnv 118),(47,pt bm om),(48,pt bm om),(49,pt bm (om + 1)),(50,vNum bm (om + 1)),(51,fnv 118),(52,pt bm om),(53,pt bm om),(54,pt bm (om + 2)),(55,vNum bm (om + 2)),(56,fnv 119),(57,pt bm om),(58,pt bm om),(59,pt bm (om + 6)),(60,vNam bm (om + 6)),(61,fnv 119),(62,pt bm om),(63,pt bm om),(64,pt bm (om + 8)),(65,vNam bm (om + 8)),(66,fnv 119),(67,pt bm om),(68,pt bm om),(69,pt bm (om + 9)),(70,vNam bm (om + 9)),(71,slc (W.b 2) 5),(72,fnv 118),(73,pt bm om),(74,pt bm om),(75,pt bm (om + 2)),(76,vNum bm (om + 2)),(77,pt bm om),(78,pt bm om),(79,pt bm (om + 5)),(80,.agg #[.int .u64 1,.int .u64 15,.pointer none,pt bm (om + 5),.pointer none]),(81,slc (W.b 3) 2),(82,fnv 118),(83,pt bm om),(84,pt bm om),(85,pt bm (om + 2)),(86,vNum bm (om + 2)),(87,pt bm om),(88,pt bm om),(89,pt bm (om + 11)),(90,.agg #[.int .u64 0,.int .u64 1000,pt bm (om + 11),.pointer none,.pointer none]),(91,pt bm om),(92,pt bm om),(93,pt bm (om + 12)),(94,.agg #[.int .u64 0,.int .u64 255,pt bm (om + 12),.pointer none,.pointer none]),(95,fnv 119),(96,pt bm om),(97,pt bm om),(98,pt bm (om + 9)),(99,vNam bm (om + 9)),(100,slc (W.b 4) 4),(101,.map (some W.m)),(5,.map (some W.m))]
def ev73 (bm om:Nat) (W:Wt) (d:Nat):Value:=(Proofs.YtadggjnohohedaaGreatDoor.lk (tab73 bm om W) d).getD undef
def row1 (bm om:Nat):List Value:=c1 bm (om + 1)++(cT bm (om + 3)++(cI 0 1 bm (om + 4)++(c2 bm (om + 6)++(c2 bm (om + 7)++(c2 bm (om + 8)++(c2 bm (om + 9)++(c2 bm (om + 10))))))))
def row2 (bm om:Nat):List Value:=c1 bm (om + 1)++(c1 bm (om + 2)++(c2 bm (om + 6)++(c2 bm (om + 8)++(c2 bm (om + 9)))))
def row3 (bm om:Nat):List Value:=c1 bm (om + 2)++(cI 1 15 bm (om + 5))
def row4 (bm om:Nat):List Value:=c1 bm (om + 2)++(cN 0 1000 bm (om + 11)++(cN 0 255 bm (om + 12)++(c2 bm (om + 9))))
def th73 (bm om:Nat) (W:Wt) (kvs:List (Int × Value)) (f:Nat→Bool):List Thing:=(bif f 0 then [Mp (ienc .i64) W.m kvs] else [])++((bif f 39 then [Bk (W.b 1) 188 (row1 bm om)] else [])++((bif f 66 then [Bk (W.b 2) 188 (row2 bm om)] else [])++((bif f 77 then [Bk (W.b 3) 188 (row3 bm om)] else [])++((bif f 97 then [Bk (W.b 4) 188 (row4 bm om)] else [])))))
def es73 (W:Wt) (f:Nat→Bool):List (Int × Value):=(bif f 40 then [((1:Int),slc (W.b 1) 8)] else [])++((bif f 67 then [((2:Int),slc (W.b 2) 5)] else [])++((bif f 78 then [((3:Int),slc (W.b 3) 2)] else [])++((bif f 98 then [((4:Int),slc (W.b 4) 4)] else []))))
def depB (opr:Array Oper) (o:Oper) (t:Nat):Bool:=(Nat.beq t 0 || Nat.beq t 3 || Nat.beq t 4) || o.after.toList.any fun e=>Region.binds .any e && (match opr[e.on]? with
 | some o'=>isD o'.dst t
 | none=>false)
def uniqB:List Oper→Bool
 | []=>true
 | o::r=>(match o.dst with
  | none=>true
  | some d=>!(r.any fun o'=>isD o'.dst d) && !(Nat.beq d 0 || Nat.beq d 3 || Nat.beq d 4)) && uniqB r
def topoB:List Oper→Nat→Bool
 | [],_=>true
 | o::r,i=>(o.after.toList.all fun e=>!Region.binds .any e || Nat.blt e.on i) && topoB r (i + 1)
theorem uniqB_spec:∀ {l:List Oper} {i j:Nat} {o o':Oper} {d:Nat},uniqB l=true→l[i]?=some o→l[j]?=some o'→o.dst=some d→o'.dst=some d→i=j
 | [],i,j,o,o',d,_,h,_,_,_=>by simp at h
 | x::r,i,j,o,o',d,hu,hi,hj,hd,hd'=>by
  simp only [uniqB,Bool.and_eq_true] at hu
  obtain ⟨h1,h2⟩:=hu
  have key:∀ {k:Nat} {o2:Oper},x.dst=some d→r[k]?=some o2→o2.dst=some d→False:=by
   intro k o2 hx hk h2d
   rw [hx] at h1
   simp only [Bool.and_eq_true,Bool.not_eq_true'] at h1
   have:=h1.1
   rw [List.any_eq_false] at this
   exact this _ (List.mem_of_getElem? hk) (isD_eq.2 h2d)
  cases i with
  | zero =>
   simp at hi; subst hi
   cases j with
   | zero=>rfl
   | succ j=>exact (key hd (by simpa using hj) hd').elim
  | succ i =>
   cases j with
   | zero=>simp at hj; subst hj; exact (key hd' (by simpa using hi) hd).elim
   | succ j=>exact congrArg (· + 1) (uniqB_spec h2 (show r[i]?=some o by simpa using hi) (show r[j]?=some o' by simpa using hj) hd hd')
theorem uniqB_base:∀ {l:List Oper} {i:Nat} {o:Oper} {d:Nat},uniqB l=true→l[i]?=some o→o.dst=some d→¬ (d=0∨d=3∨d=4)
 | [],i,o,d,_,h,_=>by simp at h
 | x::r,i,o,d,hu,hi,hd=>by
  simp only [uniqB,Bool.and_eq_true] at hu
  cases i with
  | zero =>
   simp at hi; subst hi
   have:=hu.1
   rw [hd] at this
   simp only [Bool.and_eq_true,Bool.not_eq_true',Bool.or_eq_false_iff] at this
   rintro (rfl | rfl | rfl)
   ·exact absurd this.2.1.1 (by decide)
   ·exact absurd this.2.1.2 (by decide)
   ·exact absurd this.2.2 (by decide)
  | succ i=>exact uniqB_base hu.2 (by simpa using hi) hd
theorem topoB_spec:∀ {l:List Oper} {k i:Nat} {o:Oper},topoB l k=true→l[i]?=some o→∀ e∈o.after.toList,Region.binds .any e=true→e.on < k + i
 | [],k,i,o,_,h,_,_,_=>by simp at h
 | x::r,k,i,o,hu,hi,e,he,hb=>by
  simp only [topoB,Bool.and_eq_true] at hu
  cases i with
  | zero =>
   simp at hi; subst hi
   have:=List.all_eq_true.1 hu.1 e he
   rw [hb] at this
   have:=blt_lt (show Nat.blt e.on k=true by simpa using this)
   omega
  | succ i=>have:=topoB_spec hu.2 (by simpa using hi) e he hb; omega
theorem wpAny_keep {P:Program} {opr:Array Oper} {Q:Exit→Act→World→Prop} {I:Array Bool→Act→World→Prop} (hsz:∀ l a w,I l a w→l.size=opr.size)
  (hstep:∀ l a w i,I l a w→i∈Region.ready .any opr l→wpOp P opr Q i (fun a' w'=>I (l.setIfInBounds i true) a' w') a w) (hdone:∀ l a w,I l a w→Region.ready .any opr l=[]→Q .normal a w) :
  ∀ (fuel:Nat) (l:Array Bool) (a:Act) (w:World),I l a w→left l opr.size≤fuel→wpAny P .any opr Q fuel l a w
 | 0,l,a,w,h,hf=>by
  have hr:Region.ready .any opr l=[]:=List.eq_nil_iff_forall_not_mem.2 (fun i hi=>by
   obtain ⟨o,r⟩:=ready_of (hsz _ _ _ h) hi
   exact r.not (left_zero (n:=opr.size) (by omega) r.lt))
  exact ⟨hr,hdone l a w h hr⟩
 | fuel + 1,l,a,w,h,hf=>by
  refine ⟨fun hr=>hdone l a w h hr,fun i hi=>?_⟩
  obtain ⟨o,r⟩:=ready_of (hsz _ _ _ h) hi
  have hl:=left_set (hsz _ _ _ h) r.lt r.not
  exact wpOp_mono (fun a' w' h'=>wpAny_keep hsz hstep hdone fuel _ a' w' h' (by omega)) (hstep l a w i h hi)
theorem all_of_ready {opr:Array Oper} {listed:Array Bool} (hs:listed.size=opr.size) (ht:topoB opr.toList 0=true) (hr:Region.ready .any opr listed=[]):∀ i,i < opr.size→Lst listed i:=by
 intro i
 induction i using Nat.strongRecOn with
 | ind i ih =>
  intro hi
  rcases Classical.em (Lst listed i) with h | h
  ·exact h
  ·exfalso
   have ho:opr[i]?=some opr[i]:=by simp [hi]
   have:i∈Region.ready .any opr listed:=mem_ready.2 ⟨?_,opr[i],ho,fun e he hb=>?_⟩
   ·rw [hr] at this; cases this
   ·unfold Lst at h
    have hi':i < listed.size:=by omega
    simp [hi'] at h ⊢
    exact h
   ·have:=topoB_spec ht (show opr.toList[i]?=some opr[i] by simp) e (by simpa using he) hb
    exact ih e.on (by omega) (by omega)
structure Ok73 (opr:Array Oper):Prop where
 uq:uniqB opr.toList=true
 tp:topoB opr.toList 0=true
 sz:opr.size=101
structure I73 (opr:Array Oper) (bm om:Nat) (W0:World) (R:List Thing) (ds:List Deferred) (listed:Array Bool) (a:Act) (w:World):Prop where
 lsz:listed.size=opr.size
 cls:Closed opr listed
 tsz:a.tmps.size=108
 dfs:a.defers=ds
 st:∃ (W:Wt) (kvs:List (Int × Value)),kvs.Perm (es73 W fun j=>listed.getD j false)∧(∀ t,(t=0∨t=3∨t=4)→a.tmps[t]?=some (ev73 bm om W t)) ∧
  (∀ i o d,opr[i]?=some o→Lst listed i→o.dst=some d→a.tmps[d]?=some (ev73 bm om W d))∧Sts W0 w (th73 bm om W kvs (fun j=>listed.getD j false)++R)
section
variable {opr:Array Oper} {bm om:Nat} {W0 w:World} {R:List Thing} {ds:List Deferred} {listed:Array Bool} {a:Act} {Q:Exit→Act→World→Prop} {i d:Nat} {o:Oper}
theorem known73 {W:Wt} (hB:∀ t,(t=0∨t=3∨t=4)→a.tmps[t]?=some (ev73 bm om W t)) (hV:∀ i o d,opr[i]?=some o→Lst listed i→o.dst=some d→a.tmps[d]?=some (ev73 bm om W d))
  (hr:i∈Region.ready .any opr listed) (hs:listed.size=opr.size) (ho:opr[i]?=some o) {t:Nat} (ht:depB opr o t=true):a.tmps[t]?=some (ev73 bm om W t):=by
 obtain ⟨o',r⟩:=ready_of hs hr
 obtain rfl:o'=o:=by have:=r.op; rw [ho] at this; exact (Option.some.inj this).symm
 unfold depB at ht
 rw [Bool.or_eq_true] at ht
 rcases ht with h | h
 ·refine hB t ?_
  simp only [Bool.or_eq_true] at h
  rcases h with (h | h) | h <;> simp [Nat.eq_of_beq_eq_true h]
 ·obtain ⟨e,he,hh⟩:=List.any_eq_true.1 h
  simp only [Bool.and_eq_true] at hh
  obtain ⟨hb,hd⟩:=hh
  cases ho':opr[e.on]? with
  | none=>rw [ho'] at hd; cases hd
  | some o2=>rw [ho'] at hd; exact hV _ _ _ ho' (r.src e he hb) (isD_eq.1 hd)
theorem evl73 {W:Wt} {ks:List Nat} (h:∀ t∈ks,a.tmps[t]?=some (ev73 bm om W t)):Ev (ks.map fun t=>(t,ev73 bm om W t)) a.eval:=by
 intro x v hx
 cases x with
 | tmp t =>
  have hx':Proofs.YtadggjnohohedaaGreatDoor.lk (ks.map fun t=>(t,ev73 bm om W t)) t=some v:=hx
  have key:a.tmps[t]?=some v:=by
   induction ks with
   | nil=>cases hx'
   | cons k r ih =>
    simp only [List.map_cons,Proofs.YtadggjnohohedaaGreatDoor.lk] at hx'
    cases hb:Nat.beq k t with
    | true =>
     rw [hb] at hx'; simp only [cond_true,Option.some.injEq] at hx'
     have:=Nat.eq_of_beq_eq_true hb; subst this; subst hx'
     exact h k (by simp)
    | false=>rw [hb] at hx'; exact ih (fun t ht=>h t (List.mem_cons_of_mem _ ht)) (by simpa [Proofs.YtadggjnohohedaaGreatDoor.ev] using hx') hx'
  simp [Act.eval,Array.getD_eq_getD_getElem?,key]
 | const u=>simpa [Proofs.YtadggjnohohedaaGreatDoor.ev,Act.eval] using hx
 | global g=>simpa [Proofs.YtadggjnohohedaaGreatDoor.ev,Act.eval] using hx
 | func f=>simpa [Proofs.YtadggjnohohedaaGreatDoor.ev,Act.eval] using hx
theorem put_at {v:Value} (hs:a.tmps.size=108) (hd:d < 108) (t:Nat):(a.put (some d) v).tmps[t]?=if t=d then some v else a.tmps[t]?:=by
 by_cases h:t=d
 ·subst h; simp [Act.put,hs,hd]
 ·rw [if_neg h]; simp only [Act.put]; rw [Array.getElem?_setIfInBounds_ne (fun e=>h e.symm)]
theorem drop_all {W0 w:World}:∀ {L:List Thing},Sts W0 w L→Sts W0 w []
 | [],h=>h
 | _::_,h=>drop_all h.tail
theorem next73 {W W':Wt} {kvs:List (Int × Value)} {w':World} (hok:Ok73 opr) (h:I73 opr bm om W0 R ds listed a w) (hr:i∈Region.ready .any opr listed) (ho:opr[i]?=some o) (hd:o.dst=some d) (hl:d < 108)
  (hB:∀ t,(t=0∨t=3∨t=4)→a.tmps[t]?=some (ev73 bm om W t)) (hV:∀ i o d,opr[i]?=some o→Lst listed i→o.dst=some d→a.tmps[d]?=some (ev73 bm om W d))
  (hB':∀ t,(t=0∨t=3∨t=4)→ev73 bm om W' t=ev73 bm om W t) (hV':∀ i' o' d',opr[i']?=some o'→Lst listed i'→o'.dst=some d'→ev73 bm om W' d'=ev73 bm om W d')
  (hk:kvs.Perm (es73 W' fun j=>(listed.setIfInBounds i true).getD j false)) (hs:Sts W0 w' (th73 bm om W' kvs (fun j=>(listed.setIfInBounds i true).getD j false)++R)) :
  I73 opr bm om W0 R ds (listed.setIfInBounds i true) (a.put (some d) (ev73 bm om W' d)) w':=by
 obtain ⟨o2,r⟩:=ready_of h.lsz hr
 obtain rfl:o2=o:=by have:=r.op; rw [ho] at this; exact (Option.some.inj this).symm
 have hi:i < listed.size:=by rw [h.lsz]; exact r.lt
 have ho':opr.toList[i]?=some o2:=by simpa using ho
 refine ⟨by simp [h.lsz],h.cls.set hr,by simp [Act.put,h.tsz],h.dfs,W',kvs,hk,fun t ht=>?_,fun j o' d' hj hl' hd'=>?_,hs⟩
 ·rw [put_at h.tsz hl,if_neg (fun e:t=d=>uniqB_base hok.uq ho' hd (e ▸ ht)),hB' t ht]; exact hB t ht
 ·rw [put_at h.tsz hl]
  have hj':opr.toList[j]?=some o':=by simpa using hj
  by_cases e:d'=d
  ·rw [if_pos e,e]
  ·rw [if_neg e]
   rcases (lst_set hi).1 hl' with rfl | hl'
   ·rw [ho] at hj; obtain rfl:=Option.some.inj hj; rw [hd] at hd'; exact (e (Option.some.inj hd').symm).elim
   ·rw [hV' j o' d' hj hl' hd']; exact hV j o' d' hj hl' hd'
def fxB (i:Nat):Bool:=[0,39,66,77,97,40,67,78,98].all fun j=>!Nat.beq j i
theorem fl_same (h:fxB i=true) {j:Nat} (hj:j∈[0,39,66,77,97,40,67,78,98]):(listed.setIfInBounds i true).getD j false=listed.getD j false:=by
 have:=List.all_eq_true.1 h j hj
 refine getD_set_ne false (fun e=>?_)
 subst e; simp at this
theorem th_same (h:fxB i=true) (W:Wt) (kvs:List (Int × Value)):th73 bm om W kvs (fun j=>(listed.setIfInBounds i true).getD j false)=th73 bm om W kvs (fun j=>listed.getD j false):=by
 unfold th73; simp only [fl_same h (j:=0) (by decide),fl_same h (j:=39) (by decide),fl_same h (j:=66) (by decide),fl_same h (j:=77) (by decide),fl_same h (j:=97) (by decide)]
theorem es_same (h:fxB i=true) (W:Wt):es73 W (fun j=>(listed.setIfInBounds i true).getD j false)=es73 W (fun j=>listed.getD j false):=by
 unfold es73; simp only [fl_same h (j:=40) (by decide),fl_same h (j:=67) (by decide),fl_same h (j:=78) (by decide),fl_same h (j:=98) (by decide)]
theorem stepP (hok:Ok73 opr) (ho:opr[i]?=some o) (hd:o.dst=some d) (hg:o.guard=none) (ks:List Nat) (hks:ks.all (depB opr o)=true) (hl:Nat.blt d 108=true) (hfx:fxB i=true)
  (hx:∀ W,EX Tryz.prog W0 (ks.map fun t=>(t,ev73 bm om W t)) [] o (ev73 bm om W d)) (h:I73 opr bm om W0 R ds listed a w) (hr:i∈Region.ready .any opr listed) :
  wpOp Tryz.prog opr Q i (fun a' w'=>I73 opr bm om W0 R ds (listed.setIfInBounds i true) a' w') a w:=by
 obtain ⟨W,kvs,hk,hB,hV,hs⟩:=h.st
 have hev:=evl73 (a:=a) (W:=W) (ks:=ks) (fun t ht=>known73 hB hV hr h.lsz ho (List.all_eq_true.1 hks t ht))
 unfold wpOp
 simp only [ho,wanted_none hg,if_true]
 refine .inl (wp_val (hx W a.eval w hev (drop_all hs)) ?_)
 rw [hd]
 exact next73 (kvs:=kvs) (W:=W) (W':=W) hok h hr ho hd (blt_lt hl) hB hV (fun _ _=>rfl) (fun _ _ _ _ _ _=>rfl) (by rw [es_same hfx]; exact hk) (by rw [th_same hfx]; exact hs)
end
end
noncomputable section
open Go.RowKit
set_option maxRecDepth 100000
theorem perm_at1 {α:Type} {x:α} (a c:List α) (r:List α):(x::(a++(c++r))).Perm (a++([x]++(c++r))):=(List.perm_middle (l₁:=a) (a:=x) (l₂:=c++r)).symm
theorem perm_at2 {α:Type} {x:α} (a b c:List α) (r:List α):(x::(a++(b++(c++r)))).Perm (a++(b++([x]++(c++r)))):=by
 have:=(List.perm_middle (l₁:=a++b) (a:=x) (l₂:=c++r)).symm
 simpa [List.append_assoc] using this
theorem perm_at3 {α:Type} {x:α} (a b c d:List α) (r:List α):(x::(a++(b++(c++(d++r))))).Perm (a++(b++(c++([x]++(d++r))))):=by
 have:=(List.perm_middle (l₁:=a++(b++c)) (a:=x) (l₂:=d++r)).symm
 simpa [List.append_assoc] using this
theorem perm_at4 {α:Type} {x:α} (a b c d:List α) (r:List α):(x::(a++(b++(c++(d++r))))).Perm (a++(b++(c++(d++([x]++r))))):=by
 have:=(List.perm_middle (l₁:=a++(b++(c++d))) (a:=x) (l₂:=r)).symm
 simpa [List.append_assoc] using this
theorem pI1 {α:Type} (b c d:List α) {x:α}:(b++(c++(d++[x]))).Perm ([x]++(b++(c++d))):=by
 have:=(List.perm_append_comm (l₁:=b++(c++d)) (l₂:=[x]))
 simpa [List.append_assoc] using this
theorem pI2 {α:Type} (a c d:List α) {x:α}:(a++(c++(d++[x]))).Perm (a++([x]++(c++d))):=by
 refine List.Perm.append_left a ?_
 have:=(List.perm_append_comm (l₁:=c++d) (l₂:=[x]))
 simpa [List.append_assoc] using this
theorem pI3 {α:Type} (a b d:List α) {x:α}:(a++(b++(d++[x]))).Perm (a++(b++([x]++d))):=List.Perm.append_left a (List.Perm.append_left b (List.perm_append_comm (l₁:=d) (l₂:=[x])))
def agree (S:List Nat):Kn→Kn→Prop
 | [],[]=>True
 | (k,v)::r,(k',v')::r'=>k=k'∧(v=v'∨k∈S)∧agree S r r'
 | _,_=>False
theorem lk_agree {S:List Nat} {d:Nat} (hd:d∉S):∀ {A B:Kn},agree S A B→Proofs.YtadggjnohohedaaGreatDoor.lk A d=Proofs.YtadggjnohohedaaGreatDoor.lk B d
 | [],[],_=>rfl
 | (k,v)::r,(k',v')::r',⟨h1,h2,h3⟩=>by
  subst h1
  simp only [Proofs.YtadggjnohohedaaGreatDoor.lk]
  cases hb:Nat.beq k d with
  | true =>
   have:=Nat.eq_of_beq_eq_true hb; subst this
   rcases h2 with rfl | h2
   ·rfl
   ·exact (hd h2).elim
  | false=>exact lk_agree hd h3
 | [],_::_,h=>h.elim
 | _::_,[],h=>h.elim
section
variable {opr:Array Oper} {bm om:Nat} {W0 w:World} {R:List Thing} {ds:List Deferred} {listed:Array Bool} {a:Act} {Q:Exit→Act→World→Prop} {i d:Nat} {o:Oper}
theorem ev_m (W:Wt) (x:Nat) (h:d∉[6,101,5]):ev73 bm om { W with m:=x } d=ev73 bm om W d:=by
 unfold ev73
 rw [lk_agree h]
 simp [agree,tab73]
def Wt.setB (W:Wt) (e x:Nat):Wt:={ W with b:=fun k=>if k=e then x else W.b k }
theorem ev_b1 (W:Wt) (x:Nat) (h:d∉[45]):ev73 bm om (W.setB 1 x) d=ev73 bm om W d:=by
 unfold ev73
 rw [lk_agree h]
 simp [agree,tab73,Wt.setB]
theorem ev_b2 (W:Wt) (x:Nat) (h:d∉[71]):ev73 bm om (W.setB 2 x) d=ev73 bm om W d:=by
 unfold ev73
 rw [lk_agree h]
 simp [agree,tab73,Wt.setB]
theorem ev_b3 (W:Wt) (x:Nat) (h:d∉[81]):ev73 bm om (W.setB 3 x) d=ev73 bm om W d:=by
 unfold ev73
 rw [lk_agree h]
 simp [agree,tab73,Wt.setB]
theorem ev_b4 (W:Wt) (x:Nat) (h:d∉[100]):ev73 bm om (W.setB 4 x) d=ev73 bm om W d:=by
 unfold ev73
 rw [lk_agree h]
 simp [agree,tab73,Wt.setB]
theorem cl_edge (h:Closed opr listed) {j k:Nat} {o:Oper} (ho:opr[j]?=some o) (he:(o.after.toList.any fun e=>Region.binds .any e && Nat.beq e.on k)=true) (hj:Lst listed j):Lst listed k:=by
 obtain ⟨e,h1,h2⟩:=List.any_eq_true.1 he
 simp only [Bool.and_eq_true] at h2
 have:=h j o ho hj e (by simpa using h1) h2.1
 rwa [Nat.eq_of_beq_eq_true h2.2] at this
theorem stepC (hok:Ok73 opr) (ho:opr[i]?=some o) (hd:o.dst=some d) (hg:o.guard=none) (ks:List Nat) (hks:ks.all (depB opr o)=true) (hl:Nat.blt d 108=true) (hfx:fxB i=true) {f:FuncId} {args:List Value}
  (hx:∀ W,EC Tryz.prog (ks.map fun t=>(t,ev73 bm om W t)) o f args) (hc:∀ W w L,Sts W0 w L→Calls Tryz.prog f args.toArray w fun e w'=>e=.returned (ev73 bm om W d)∧Sts W0 w' L) (h:I73 opr bm om W0 R ds listed a w) (hr:i∈Region.ready .any opr listed) :
  wpOp Tryz.prog opr Q i (fun a' w'=>I73 opr bm om W0 R ds (listed.setIfInBounds i true) a' w') a w:=by
 obtain ⟨W,kvs,hk,hB,hV,hs⟩:=h.st
 have hev:=evl73 (a:=a) (W:=W) (ks:=ks) (fun t ht=>known73 hB hV hr h.lsz ho (List.all_eq_true.1 hks t ht))
 unfold wpOp
 simp only [ho,wanted_none hg,if_true]
 refine .inl ?_
 simp only [Oper.wp,hx W a.eval w hev,Oper.upon]
 refine (hc W w _ hs).mono ?_
 rintro e w' ⟨rfl,hs'⟩
 show I73 opr bm om W0 R ds (listed.setIfInBounds i true) (a.put o.dst (ev73 bm om W d)) w'
 rw [hd]
 exact next73 (kvs:=kvs) (W:=W) (W':=W) hok h hr ho hd (blt_lt hl) hB hV (fun _ _=>rfl) (fun _ _ _ _ _ _=>rfl) (by rw [es_same hfx]; exact hk) (by rw [th_same hfx]; exact hs')
theorem not_lst {j:Nat} (h:¬ Lst listed j):listed.getD j false=false:=by
 cases hb:listed.getD j false with
 | false=>rfl
 | true=>exact (h hb).elim
theorem set_same (hi:i < listed.size):(listed.setIfInBounds i true).getD i false=true:=by simp [hi]
theorem not_at {W:Wt} (hr:i∈Region.ready .any opr listed) (hs:listed.size=opr.size):¬ Lst listed i∧i < listed.size:=by
 obtain ⟨o,r⟩:=ready_of hs hr
 exact ⟨r.not,by rw [hs]; exact r.lt⟩
theorem stepM (hok:Ok73 opr) {T ty pos af} (ho:opr[0]?=some ⟨some 6,.makeMap T none,ty,pos,af,none⟩) {o1 o2:Oper} (h1:opr[99]?=some o1) (hd1:o1.dst=some 101) (he1:(o1.after.toList.any fun e=>Region.binds .any e && Nat.beq e.on 0)=true)
  (h2:opr[100]?=some o2) (hd2:o2.dst=some 5) (he2:(o2.after.toList.any fun e=>Region.binds .any e && Nat.beq e.on 99)=true)
  {oi1:Oper} (hI1:opr[40]?=some oi1) (hE1:(oi1.after.toList.any fun e=>Region.binds .any e && Nat.beq e.on 0)=true) {oi2:Oper} (hI2:opr[67]?=some oi2) (hE2:(oi2.after.toList.any fun e=>Region.binds .any e && Nat.beq e.on 0)=true) {oi3:Oper} (hI3:opr[78]?=some oi3) (hE3:(oi3.after.toList.any fun e=>Region.binds .any e && Nat.beq e.on 0)=true) {oi4:Oper} (hI4:opr[98]?=some oi4) (hE4:(oi4.after.toList.any fun e=>Region.binds .any e && Nat.beq e.on 0)=true) (h:I73 opr bm om W0 R ds listed a w) (hr:0∈Region.ready .any opr listed) :
  wpOp Tryz.prog opr Q 0 (fun a' w'=>I73 opr bm om W0 R ds (listed.setIfInBounds 0 true) a' w') a w:=by
 obtain ⟨W,kvs,hk,hB,hV,hs⟩:=h.st
 obtain ⟨hn,hi⟩:=not_at (W:=W) hr h.lsz
 have g0:=not_lst hn
 have hm:∀ (i':Nat) (o':Oper) (d':Nat),opr[i']?=some o'→Lst listed i'→o'.dst=some d'→d'∉[6,101,5]:=by
  intro i' o' d' hi' hl' hd' hmem
  have q:=fun {j:Nat} {oj:Oper} (hj:opr[j]?=some oj) (hdj:oj.dst=some d')=>uniqB_spec hok.uq (show opr.toList[i']?=some o' by simpa using hi') (show opr.toList[j]?=some oj by simpa using hj) hd' hdj
  simp only [List.mem_cons,List.not_mem_nil,or_false] at hmem
  rcases hmem with rfl | rfl | rfl
  ·have:=q ho rfl; subst this; exact hn hl'
  ·have:=q h1 hd1; subst this; exact hn (cl_edge h.cls h1 he1 hl')
  ·have:=q h2 hd2; subst this; exact hn (cl_edge h.cls h1 he1 (cl_edge h.cls h2 he2 hl'))
 unfold wpOp
 simp only [ho,wanted_none (o:=⟨some 6,.makeMap T none,ty,pos,af,none⟩) rfl,if_true]
 obtain ⟨x,w',_,hrun,hs'⟩:=EF.makeMap (P:=Tryz.prog) (ienc .i64) (kn:=[]) (d:=some 6) (T:=T) (ty:=ty) (pos:=pos) (af:=af) (g:=none) a.eval w (evl73 (bm:=bm) (om:=om) (W:=W) (ks:=[]) (fun t ht=>by cases ht)) hs
 refine .inl (wp_val hrun ?_)
 show I73 opr bm om W0 R ds (listed.setIfInBounds 0 true) (a.put (some 6) (ev73 bm om { W with m:=x } 6)) w'
 have ek:∀ j∈[39,66,77,97,40,67,78,98],(listed.setIfInBounds 0 true).getD j false=listed.getD j false:=fun j hj=>getD_set_ne false (fun e=>by subst e; simp at hj)
 have fI:∀ k ok,opr[k]?=some ok→(ok.after.toList.any fun e=>Region.binds .any e && Nat.beq e.on 0)=true→listed.getD k false=false:=fun k ok hk he=>not_lst fun hl=>hn (cl_edge h.cls hk he hl)
 have hes:es73 W (fun j=>listed.getD j false)=[]:=by
  unfold es73; simp only [fI 40 _ hI1 hE1,fI 67 _ hI2 hE2,fI 78 _ hI3 hE3,fI 98 _ hI4 hE4,cond_false,List.append_nil]
 have hkv:kvs=[]:=by rw [hes] at hk; exact List.Perm.eq_nil hk
 subst hkv
 refine next73 (kvs:=[]) (W:=W) (W':={ W with m:=x }) hok h hr ho rfl (by decide) hB hV (fun t ht=>ev_m W x (by rcases ht with rfl | rfl | rfl <;> decide)) (fun i' o' d' a1 a2 a3=>ev_m W x (hm i' o' d' a1 a2 a3)) ?_ ?_
 ·have:es73 { W with m:=x } (fun j=>(listed.setIfInBounds 0 true).getD j false)=[]:=by
   unfold es73; simp only [ek 40 (by decide),fI 40 _ hI1 hE1,ek 67 (by decide),fI 67 _ hI2 hE2,ek 78 (by decide),fI 78 _ hI3 hE3,ek 98 (by decide),fI 98 _ hI4 hE4,cond_false,List.append_nil]
  rw [this]
 ·have t1:th73 bm om { W with m:=x } [] (fun j=>(listed.setIfInBounds 0 true).getD j false)=Mp (ienc .i64) x []::th73 bm om W [] (fun j=>listed.getD j false):=by
   unfold th73; simp only [set_same hi,g0,cond_true,cond_false,List.nil_append,List.singleton_append,ek 39 (by decide),ek 66 (by decide),ek 77 (by decide),ek 97 (by decide)]
  rw [t1]; exact hs'
theorem stepB1 (hok:Ok73 opr) {T ty pos af zero} {ps:List (Nat × Operand)} {vs:Wt→List (Nat × Value)} (ho:opr[39]?=some ⟨some 45,.buildSlice T 8 ps.toArray,ty,pos,af,none⟩) (ks:List Nat) (hks:ks.all (depB opr ⟨some 45,.buildSlice T 8 ps.toArray,ty,pos,af,none⟩)=true)
  (hp:∀ W,evp (ks.map fun t=>(t,ev73 bm om W t)) ps=some (vs W)) (hb:BS Tryz.prog T 188 5 zero) (hf:∀ W,fillL (fun i=>some (i * 5,5)) (zeros zero 8) (vs W)=some (row1 bm om))
  {oi:Oper} (hI:opr[40]?=some oi) (hE:(oi.after.toList.any fun e=>Region.binds .any e && Nat.beq e.on 39)=true) (h:I73 opr bm om W0 R ds listed a w) (hr:39∈Region.ready .any opr listed) :
  wpOp Tryz.prog opr Q 39 (fun a' w'=>I73 opr bm om W0 R ds (listed.setIfInBounds 39 true) a' w') a w:=by
 obtain ⟨W,kvs,hk,hB,hV,hs⟩:=h.st
 obtain ⟨hn,hi⟩:=not_at (W:=W) hr h.lsz
 have g0:=not_lst hn
 have gI:listed.getD 40 false=false:=not_lst fun hl=>hn (cl_edge h.cls hI hE hl)
 have hm:∀ (i':Nat) (o':Oper) (d':Nat),opr[i']?=some o'→Lst listed i'→o'.dst=some d'→d'∉[45]:=by
  intro i' o' d' hi' hl' hd' hmem
  simp only [List.mem_cons,List.not_mem_nil,or_false] at hmem
  subst hmem
  have:=uniqB_spec hok.uq (show opr.toList[i']?=some o' by simpa using hi') (show opr.toList[39]?=some _ by simpa using ho) hd' rfl
  subst this; exact hn hl'
 have hev:=evl73 (a:=a) (W:=W) (ks:=ks) (fun t ht=>known73 hB hV hr h.lsz ho (List.all_eq_true.1 hks t ht))
 unfold wpOp
 simp only [ho,wanted_none (o:=⟨some 45,.buildSlice T 8 ps.toArray,ty,pos,af,none⟩) rfl,if_true]
 obtain ⟨x,w',_,hrun,hs'⟩:=EF.buildSlice (P:=Tryz.prog) (W0:=W0) (d:=some 45) (T:=T) (ty:=ty) (pos:=pos) (af:=af) (g:=none) (hp W) hb (n:=8) (by decide) (by decide) (hf W) a.eval w hev hs
 refine .inl (wp_val hrun ?_)
 show I73 opr bm om W0 R ds (listed.setIfInBounds 39 true) (a.put (some 45) (ev73 bm om (W.setB 1 x) 45)) w'
 have ek:∀ j∈[0,66,77,97,40,67,78,98],(listed.setIfInBounds 39 true).getD j false=listed.getD j false:=fun j hj=>getD_set_ne false (fun e=>by subst e; simp at hj)
 refine next73 (kvs:=kvs) (W:=W) (W':=W.setB 1 x) hok h hr ho rfl (by decide) hB hV (fun t ht=>ev_b1 W x (by rcases ht with rfl | rfl | rfl <;> decide)) (fun i' o' d' a1 a2 a3=>ev_b1 W x (hm i' o' d' a1 a2 a3)) ?_ ?_
 ·have:es73 (W.setB 1 x) (fun j=>(listed.setIfInBounds 39 true).getD j false)=es73 W (fun j=>listed.getD j false):=by
   unfold es73; simp only [ek 40 (by decide),ek 67 (by decide),ek 78 (by decide),ek 98 (by decide),gI,cond_false]; rfl
  rw [this]; exact hk
 ·refine Sts.perm hs' ?_
  have t1:(th73 bm om (W.setB 1 x) kvs (fun j=>(listed.setIfInBounds 39 true).getD j false))=(th73 bm om W kvs (fun j=>listed.getD j false)++[])∨True:=.inr trivial
  unfold th73
  simp only [set_same hi,g0,cond_true,cond_false,List.nil_append,ek 0 (by decide),ek 66 (by decide),ek 77 (by decide),ek 97 (by decide)]
  show (Bk x 188 (row1 bm om)::_).Perm _
  simp only [List.append_assoc]
  exact perm_at1 _ _ _
theorem stepB2 (hok:Ok73 opr) {T ty pos af zero} {ps:List (Nat × Operand)} {vs:Wt→List (Nat × Value)} (ho:opr[66]?=some ⟨some 71,.buildSlice T 5 ps.toArray,ty,pos,af,none⟩) (ks:List Nat) (hks:ks.all (depB opr ⟨some 71,.buildSlice T 5 ps.toArray,ty,pos,af,none⟩)=true)
  (hp:∀ W,evp (ks.map fun t=>(t,ev73 bm om W t)) ps=some (vs W)) (hb:BS Tryz.prog T 188 5 zero) (hf:∀ W,fillL (fun i=>some (i * 5,5)) (zeros zero 5) (vs W)=some (row2 bm om))
  {oi:Oper} (hI:opr[67]?=some oi) (hE:(oi.after.toList.any fun e=>Region.binds .any e && Nat.beq e.on 66)=true) (h:I73 opr bm om W0 R ds listed a w) (hr:66∈Region.ready .any opr listed) :
  wpOp Tryz.prog opr Q 66 (fun a' w'=>I73 opr bm om W0 R ds (listed.setIfInBounds 66 true) a' w') a w:=by
 obtain ⟨W,kvs,hk,hB,hV,hs⟩:=h.st
 obtain ⟨hn,hi⟩:=not_at (W:=W) hr h.lsz
 have g0:=not_lst hn
 have gI:listed.getD 67 false=false:=not_lst fun hl=>hn (cl_edge h.cls hI hE hl)
 have hm:∀ (i':Nat) (o':Oper) (d':Nat),opr[i']?=some o'→Lst listed i'→o'.dst=some d'→d'∉[71]:=by
  intro i' o' d' hi' hl' hd' hmem
  simp only [List.mem_cons,List.not_mem_nil,or_false] at hmem
  subst hmem
  have:=uniqB_spec hok.uq (show opr.toList[i']?=some o' by simpa using hi') (show opr.toList[66]?=some _ by simpa using ho) hd' rfl
  subst this; exact hn hl'
 have hev:=evl73 (a:=a) (W:=W) (ks:=ks) (fun t ht=>known73 hB hV hr h.lsz ho (List.all_eq_true.1 hks t ht))
 unfold wpOp
 simp only [ho,wanted_none (o:=⟨some 71,.buildSlice T 5 ps.toArray,ty,pos,af,none⟩) rfl,if_true]
 obtain ⟨x,w',_,hrun,hs'⟩:=EF.buildSlice (P:=Tryz.prog) (W0:=W0) (d:=some 71) (T:=T) (ty:=ty) (pos:=pos) (af:=af) (g:=none) (hp W) hb (n:=5) (by decide) (by decide) (hf W) a.eval w hev hs
 refine .inl (wp_val hrun ?_)
 show I73 opr bm om W0 R ds (listed.setIfInBounds 66 true) (a.put (some 71) (ev73 bm om (W.setB 2 x) 71)) w'
 have ek:∀ j∈[0,39,77,97,40,67,78,98],(listed.setIfInBounds 66 true).getD j false=listed.getD j false:=fun j hj=>getD_set_ne false (fun e=>by subst e; simp at hj)
 refine next73 (kvs:=kvs) (W:=W) (W':=W.setB 2 x) hok h hr ho rfl (by decide) hB hV (fun t ht=>ev_b2 W x (by rcases ht with rfl | rfl | rfl <;> decide)) (fun i' o' d' a1 a2 a3=>ev_b2 W x (hm i' o' d' a1 a2 a3)) ?_ ?_
 ·have:es73 (W.setB 2 x) (fun j=>(listed.setIfInBounds 66 true).getD j false)=es73 W (fun j=>listed.getD j false):=by
   unfold es73; simp only [ek 40 (by decide),ek 67 (by decide),ek 78 (by decide),ek 98 (by decide),gI,cond_false]; rfl
  rw [this]; exact hk
 ·refine Sts.perm hs' ?_
  have t1:(th73 bm om (W.setB 2 x) kvs (fun j=>(listed.setIfInBounds 66 true).getD j false))=(th73 bm om W kvs (fun j=>listed.getD j false)++[])∨True:=.inr trivial
  unfold th73
  simp only [set_same hi,g0,cond_true,cond_false,List.nil_append,ek 0 (by decide),ek 39 (by decide),ek 77 (by decide),ek 97 (by decide)]
  show (Bk x 188 (row2 bm om)::_).Perm _
  simp only [List.append_assoc]
  exact perm_at2 _ _ _ _
theorem stepB3 (hok:Ok73 opr) {T ty pos af zero} {ps:List (Nat × Operand)} {vs:Wt→List (Nat × Value)} (ho:opr[77]?=some ⟨some 81,.buildSlice T 2 ps.toArray,ty,pos,af,none⟩) (ks:List Nat) (hks:ks.all (depB opr ⟨some 81,.buildSlice T 2 ps.toArray,ty,pos,af,none⟩)=true)
  (hp:∀ W,evp (ks.map fun t=>(t,ev73 bm om W t)) ps=some (vs W)) (hb:BS Tryz.prog T 188 5 zero) (hf:∀ W,fillL (fun i=>some (i * 5,5)) (zeros zero 2) (vs W)=some (row3 bm om))
  {oi:Oper} (hI:opr[78]?=some oi) (hE:(oi.after.toList.any fun e=>Region.binds .any e && Nat.beq e.on 77)=true) (h:I73 opr bm om W0 R ds listed a w) (hr:77∈Region.ready .any opr listed) :
  wpOp Tryz.prog opr Q 77 (fun a' w'=>I73 opr bm om W0 R ds (listed.setIfInBounds 77 true) a' w') a w:=by
 obtain ⟨W,kvs,hk,hB,hV,hs⟩:=h.st
 obtain ⟨hn,hi⟩:=not_at (W:=W) hr h.lsz
 have g0:=not_lst hn
 have gI:listed.getD 78 false=false:=not_lst fun hl=>hn (cl_edge h.cls hI hE hl)
 have hm:∀ (i':Nat) (o':Oper) (d':Nat),opr[i']?=some o'→Lst listed i'→o'.dst=some d'→d'∉[81]:=by
  intro i' o' d' hi' hl' hd' hmem
  simp only [List.mem_cons,List.not_mem_nil,or_false] at hmem
  subst hmem
  have:=uniqB_spec hok.uq (show opr.toList[i']?=some o' by simpa using hi') (show opr.toList[77]?=some _ by simpa using ho) hd' rfl
  subst this; exact hn hl'
 have hev:=evl73 (a:=a) (W:=W) (ks:=ks) (fun t ht=>known73 hB hV hr h.lsz ho (List.all_eq_true.1 hks t ht))
 unfold wpOp
 simp only [ho,wanted_none (o:=⟨some 81,.buildSlice T 2 ps.toArray,ty,pos,af,none⟩) rfl,if_true]
 obtain ⟨x,w',_,hrun,hs'⟩:=EF.buildSlice (P:=Tryz.prog) (W0:=W0) (d:=some 81) (T:=T) (ty:=ty) (pos:=pos) (af:=af) (g:=none) (hp W) hb (n:=2) (by decide) (by decide) (hf W) a.eval w hev hs
 refine .inl (wp_val hrun ?_)
 show I73 opr bm om W0 R ds (listed.setIfInBounds 77 true) (a.put (some 81) (ev73 bm om (W.setB 3 x) 81)) w'
 have ek:∀ j∈[0,39,66,97,40,67,78,98],(listed.setIfInBounds 77 true).getD j false=listed.getD j false:=fun j hj=>getD_set_ne false (fun e=>by subst e; simp at hj)
 refine next73 (kvs:=kvs) (W:=W) (W':=W.setB 3 x) hok h hr ho rfl (by decide) hB hV (fun t ht=>ev_b3 W x (by rcases ht with rfl | rfl | rfl <;> decide)) (fun i' o' d' a1 a2 a3=>ev_b3 W x (hm i' o' d' a1 a2 a3)) ?_ ?_
 ·have:es73 (W.setB 3 x) (fun j=>(listed.setIfInBounds 77 true).getD j false)=es73 W (fun j=>listed.getD j false):=by
   unfold es73; simp only [ek 40 (by decide),ek 67 (by decide),ek 78 (by decide),ek 98 (by decide),gI,cond_false]; rfl
  rw [this]; exact hk
 ·refine Sts.perm hs' ?_
  have t1:(th73 bm om (W.setB 3 x) kvs (fun j=>(listed.setIfInBounds 77 true).getD j false))=(th73 bm om W kvs (fun j=>listed.getD j false)++[])∨True:=.inr trivial
  unfold th73
  simp only [set_same hi,g0,cond_true,cond_false,List.nil_append,ek 0 (by decide),ek 39 (by decide),ek 66 (by decide),ek 97 (by decide)]
  show (Bk x 188 (row3 bm om)::_).Perm _
  simp only [List.append_assoc]
  exact perm_at3 _ _ _ _ _
theorem stepB4 (hok:Ok73 opr) {T ty pos af zero} {ps:List (Nat × Operand)} {vs:Wt→List (Nat × Value)} (ho:opr[97]?=some ⟨some 100,.buildSlice T 4 ps.toArray,ty,pos,af,none⟩) (ks:List Nat) (hks:ks.all (depB opr ⟨some 100,.buildSlice T 4 ps.toArray,ty,pos,af,none⟩)=true)
  (hp:∀ W,evp (ks.map fun t=>(t,ev73 bm om W t)) ps=some (vs W)) (hb:BS Tryz.prog T 188 5 zero) (hf:∀ W,fillL (fun i=>some (i * 5,5)) (zeros zero 4) (vs W)=some (row4 bm om))
  {oi:Oper} (hI:opr[98]?=some oi) (hE:(oi.after.toList.any fun e=>Region.binds .any e && Nat.beq e.on 97)=true) (h:I73 opr bm om W0 R ds listed a w) (hr:97∈Region.ready .any opr listed) :
  wpOp Tryz.prog opr Q 97 (fun a' w'=>I73 opr bm om W0 R ds (listed.setIfInBounds 97 true) a' w') a w:=by
 obtain ⟨W,kvs,hk,hB,hV,hs⟩:=h.st
 obtain ⟨hn,hi⟩:=not_at (W:=W) hr h.lsz
 have g0:=not_lst hn
 have gI:listed.getD 98 false=false:=not_lst fun hl=>hn (cl_edge h.cls hI hE hl)
 have hm:∀ (i':Nat) (o':Oper) (d':Nat),opr[i']?=some o'→Lst listed i'→o'.dst=some d'→d'∉[100]:=by
  intro i' o' d' hi' hl' hd' hmem
  simp only [List.mem_cons,List.not_mem_nil,or_false] at hmem
  subst hmem
  have:=uniqB_spec hok.uq (show opr.toList[i']?=some o' by simpa using hi') (show opr.toList[97]?=some _ by simpa using ho) hd' rfl
  subst this; exact hn hl'
 have hev:=evl73 (a:=a) (W:=W) (ks:=ks) (fun t ht=>known73 hB hV hr h.lsz ho (List.all_eq_true.1 hks t ht))
 unfold wpOp
 simp only [ho,wanted_none (o:=⟨some 100,.buildSlice T 4 ps.toArray,ty,pos,af,none⟩) rfl,if_true]
 obtain ⟨x,w',_,hrun,hs'⟩:=EF.buildSlice (P:=Tryz.prog) (W0:=W0) (d:=some 100) (T:=T) (ty:=ty) (pos:=pos) (af:=af) (g:=none) (hp W) hb (n:=4) (by decide) (by decide) (hf W) a.eval w hev hs
 refine .inl (wp_val hrun ?_)
 show I73 opr bm om W0 R ds (listed.setIfInBounds 97 true) (a.put (some 100) (ev73 bm om (W.setB 4 x) 100)) w'
 have ek:∀ j∈[0,39,66,77,40,67,78,98],(listed.setIfInBounds 97 true).getD j false=listed.getD j false:=fun j hj=>getD_set_ne false (fun e=>by subst e; simp at hj)
 refine next73 (kvs:=kvs) (W:=W) (W':=W.setB 4 x) hok h hr ho rfl (by decide) hB hV (fun t ht=>ev_b4 W x (by rcases ht with rfl | rfl | rfl <;> decide)) (fun i' o' d' a1 a2 a3=>ev_b4 W x (hm i' o' d' a1 a2 a3)) ?_ ?_
 ·have:es73 (W.setB 4 x) (fun j=>(listed.setIfInBounds 97 true).getD j false)=es73 W (fun j=>listed.getD j false):=by
   unfold es73; simp only [ek 40 (by decide),ek 67 (by decide),ek 78 (by decide),ek 98 (by decide),gI,cond_false]; rfl
  rw [this]; exact hk
 ·refine Sts.perm hs' ?_
  have t1:(th73 bm om (W.setB 4 x) kvs (fun j=>(listed.setIfInBounds 97 true).getD j false))=(th73 bm om W kvs (fun j=>listed.getD j false)++[])∨True:=.inr trivial
  unfold th73
  simp only [set_same hi,g0,cond_true,cond_false,List.nil_append,ek 0 (by decide),ek 39 (by decide),ek 66 (by decide),ek 77 (by decide)]
  show (Bk x 188 (row4 bm om)::_).Perm _
  simp only [List.append_assoc]
  exact perm_at4 _ _ _ _ _
theorem mem_bif {α:Type} {c:Bool} {p x:α} (h:p∈(bif c then [x] else [])):p=x:=by
 cases c with
 | true=>simpa using h
 | false=>simp at h
theorem lookAt_no {v:Value} {e:Int}:∀ {kvs:List (Int × Value)} {i:Nat},(∀ p∈kvs,p.1≠e)→lookAt e kvs i=none
 | [],_,_=>rfl
 | p::r,i,h=>by
  simp only [lookAt]
  rw [if_neg (fun he=>h p (by simp) he.symm)]
  exact lookAt_no (v:=v) (fun q hq=>h q (List.mem_cons_of_mem _ hq))
theorem EU.insert {kn:Kn} {L L':List Thing} {g':Option (Nat × Bool)} {d':Option Nat} {T K E x y z ty ps af} {b:Nat} {kvs:List (Int × Value)} {e:Int} {v:Value} (hx:Proofs.YtadggjnohohedaaGreatDoor.ev kn x=some (.map (some b))) (hy:Proofs.YtadggjnohohedaaGreatDoor.ev kn y=some (ienc .i64 e)) (hz:Proofs.YtadggjnohohedaaGreatDoor.ev kn z=some v) (p:Swap L (Mp (ienc .i64) b kvs) (Mp (ienc .i64) b (setK e v kvs)) L') (law:KeyL Tryz.prog K (ienc .i64)) (hT:Tryz.prog.underlying T=some (.map K E)) :
  EU Tryz.prog W0 kn L ⟨d',.insert T x y z,ty,ps,af,g'⟩ L':=fun ρ w he hs=>by
 obtain ⟨w',h1,h2⟩:=EU.mapUpdate (d:=d') (ty:=ty) (ps:=ps) (af:=af) (g:=g') hx hy hz p law hT ρ w he hs
 exact ⟨w',h1,h2⟩
theorem stepI1 (hok:Ok73 opr) {K E ty pos af} (ho:opr[40]?=some ⟨none,.insert 265 (.tmp 6) (.const (.int .i64 1)) (.tmp 45),ty,pos,af,none⟩) (hks:[6,45].all (depB opr ⟨none,.insert 265 (.tmp 6) (.const (.int .i64 1)) (.tmp 45),ty,pos,af,none⟩)=true)
  (law:KeyL Tryz.prog K (ienc .i64)) (hT:Tryz.prog.underlying 265=some (.map K E))
  (hE:(af.toList.any fun e=>Region.binds .any e && Nat.beq e.on 39)=true) (hM:(af.toList.any fun e=>Region.binds .any e && Nat.beq e.on 0)=true) (h:I73 opr bm om W0 R ds listed a w) (hr:40∈Region.ready .any opr listed) :
  wpOp Tryz.prog opr Q 40 (fun a' w'=>I73 opr bm om W0 R ds (listed.setIfInBounds 40 true) a' w') a w:=by
 obtain ⟨W,kvs,hk,hB,hV,hs⟩:=h.st
 obtain ⟨hn,hi⟩:=not_at (W:=W) hr h.lsz
 have gI:=not_lst hn
 obtain ⟨o2,r⟩:=ready_of h.lsz hr
 have ho2:(⟨none,.insert 265 (.tmp 6) (.const (.int .i64 1)) (.tmp 45),ty,pos,af,none⟩:Oper)=o2:=by have:=r.op; rw [ho] at this; exact Option.some.inj this
 have src:∀ k,(af.toList.any fun e=>Region.binds .any e && Nat.beq e.on k)=true→listed.getD k false=true:=fun k hk=>by
  obtain ⟨ed,h1,h2⟩:=List.any_eq_true.1 hk
  simp only [Bool.and_eq_true] at h2
  have:=r.src ed (by rw [← ho2]; exact h1) h2.1
  rwa [Nat.eq_of_beq_eq_true h2.2] at this
 have gB:=src _ hE
 have gM:=src _ hM
 have hev:=evl73 (a:=a) (W:=W) (ks:=[6,45]) (fun t ht=>known73 hB hV hr h.lsz ho (List.all_eq_true.1 hks t ht))
 unfold wpOp
 simp only [ho,wanted_none (o:=⟨none,.insert 265 (.tmp 6) (.const (.int .i64 1)) (.tmp 45),ty,pos,af,none⟩) rfl,if_true]
 have hs1:Sts W0 w (Mp (ienc .i64) W.m kvs::(([Bk (W.b 1) 188 (row1 bm om)]++((bif listed.getD 66 false then [Bk (W.b 2) 188 (row2 bm om)] else [])++((bif listed.getD 77 false then [Bk (W.b 3) 188 (row3 bm om)] else [])++((bif listed.getD 97 false then [Bk (W.b 4) 188 (row4 bm om)] else [])))))++R)):=by
  unfold th73 at hs; simp only [gM,gB,cond_true] at hs; exact hs
 have hnot:∀ p∈kvs,p.1≠1:=by
  intro p hp
  have:=hk.mem_iff.1 hp
  unfold es73 at this
  simp only [gI,cond_false,List.mem_append,List.not_mem_nil,or_false,false_or] at this
  rcases this with h1 | h1 | h1 <;> (have h2:=mem_bif h1; subst h2; simp)
 have hset:setK (1:Int) (slc (W.b 1) 8) kvs=kvs++[((1:Int),slc (W.b 1) 8)]:=setK_none (i:=0) (lookAt_no (v:=undef) hnot)
 obtain ⟨w',hrun,hs'⟩:=EU.insert (W0:=W0) (d':=none) (T:=265) (K:=K) (E:=E) (x:=.tmp 6) (y:=.const (.int .i64 1)) (z:=.tmp 45) (ty:=ty) (ps:=pos) (af:=af) (g':=none) (b:=W.m) (kvs:=kvs) (e:=1) (v:=slc (W.b 1) 8) rfl rfl rfl .here law hT a.eval w hev hs1
 refine .inl (wp_skp hrun ?_)
 show I73 opr bm om W0 R ds (listed.setIfInBounds 40 true) a w'
 have ek:∀ k∈[0,39,66,77,97,67,78,98],(listed.setIfInBounds 40 true).getD k false=listed.getD k false:=fun k hk=>getD_set_ne false (fun e=>by subst e; simp at hk)
 refine ⟨by simp [h.lsz],h.cls.set hr,h.tsz,h.dfs,W,kvs++[((1:Int),slc (W.b 1) 8)],?_,hB,fun i' o' d' hi' hl' hd'=>?_,?_⟩
 ·refine (hk.append_right _).trans ?_
  unfold es73
  simp only [ek 67 (by decide),ek 78 (by decide),ek 98 (by decide),set_same hi,gI,cond_true,cond_false,List.nil_append,List.append_assoc,List.append_nil]
  exact pI1 _ _ _
 ·rcases (lst_set hi).1 hl' with rfl | hl'
  ·rw [ho] at hi'; obtain rfl:=Option.some.inj hi'; cases hd'
  ·exact hV i' o' d' hi' hl' hd'
 ·have hs2:Sts W0 w' (Mp (ienc .i64) W.m (kvs++[((1:Int),slc (W.b 1) 8)])::(([Bk (W.b 1) 188 (row1 bm om)]++((bif listed.getD 66 false then [Bk (W.b 2) 188 (row2 bm om)] else [])++((bif listed.getD 77 false then [Bk (W.b 3) 188 (row3 bm om)] else [])++((bif listed.getD 97 false then [Bk (W.b 4) 188 (row4 bm om)] else [])))))++R)):=by rw [← hset]; exact hs'
  unfold th73
  simp only [ek 0 (by decide),ek 39 (by decide),ek 66 (by decide),ek 77 (by decide),ek 97 (by decide),gM,gB,cond_true]
  exact hs2
theorem stepI2 (hok:Ok73 opr) {K E ty pos af} (ho:opr[67]?=some ⟨none,.insert 265 (.tmp 6) (.const (.int .i64 2)) (.tmp 71),ty,pos,af,none⟩) (hks:[6,71].all (depB opr ⟨none,.insert 265 (.tmp 6) (.const (.int .i64 2)) (.tmp 71),ty,pos,af,none⟩)=true)
  (law:KeyL Tryz.prog K (ienc .i64)) (hT:Tryz.prog.underlying 265=some (.map K E))
  (hE:(af.toList.any fun e=>Region.binds .any e && Nat.beq e.on 66)=true) (hM:(af.toList.any fun e=>Region.binds .any e && Nat.beq e.on 0)=true) (h:I73 opr bm om W0 R ds listed a w) (hr:67∈Region.ready .any opr listed) :
  wpOp Tryz.prog opr Q 67 (fun a' w'=>I73 opr bm om W0 R ds (listed.setIfInBounds 67 true) a' w') a w:=by
 obtain ⟨W,kvs,hk,hB,hV,hs⟩:=h.st
 obtain ⟨hn,hi⟩:=not_at (W:=W) hr h.lsz
 have gI:=not_lst hn
 obtain ⟨o2,r⟩:=ready_of h.lsz hr
 have ho2:(⟨none,.insert 265 (.tmp 6) (.const (.int .i64 2)) (.tmp 71),ty,pos,af,none⟩:Oper)=o2:=by have:=r.op; rw [ho] at this; exact Option.some.inj this
 have src:∀ k,(af.toList.any fun e=>Region.binds .any e && Nat.beq e.on k)=true→listed.getD k false=true:=fun k hk=>by
  obtain ⟨ed,h1,h2⟩:=List.any_eq_true.1 hk
  simp only [Bool.and_eq_true] at h2
  have:=r.src ed (by rw [← ho2]; exact h1) h2.1
  rwa [Nat.eq_of_beq_eq_true h2.2] at this
 have gB:=src _ hE
 have gM:=src _ hM
 have hev:=evl73 (a:=a) (W:=W) (ks:=[6,71]) (fun t ht=>known73 hB hV hr h.lsz ho (List.all_eq_true.1 hks t ht))
 unfold wpOp
 simp only [ho,wanted_none (o:=⟨none,.insert 265 (.tmp 6) (.const (.int .i64 2)) (.tmp 71),ty,pos,af,none⟩) rfl,if_true]
 have hs1:Sts W0 w (Mp (ienc .i64) W.m kvs::(((bif listed.getD 39 false then [Bk (W.b 1) 188 (row1 bm om)] else [])++([Bk (W.b 2) 188 (row2 bm om)]++((bif listed.getD 77 false then [Bk (W.b 3) 188 (row3 bm om)] else [])++((bif listed.getD 97 false then [Bk (W.b 4) 188 (row4 bm om)] else [])))))++R)):=by
  unfold th73 at hs; simp only [gM,gB,cond_true] at hs; exact hs
 have hnot:∀ p∈kvs,p.1≠2:=by
  intro p hp
  have:=hk.mem_iff.1 hp
  unfold es73 at this
  simp only [gI,cond_false,List.mem_append,List.not_mem_nil,or_false,false_or] at this
  rcases this with h1 | h1 | h1 <;> (have h2:=mem_bif h1; subst h2; simp)
 have hset:setK (2:Int) (slc (W.b 2) 5) kvs=kvs++[((2:Int),slc (W.b 2) 5)]:=setK_none (i:=0) (lookAt_no (v:=undef) hnot)
 obtain ⟨w',hrun,hs'⟩:=EU.insert (W0:=W0) (d':=none) (T:=265) (K:=K) (E:=E) (x:=.tmp 6) (y:=.const (.int .i64 2)) (z:=.tmp 71) (ty:=ty) (ps:=pos) (af:=af) (g':=none) (b:=W.m) (kvs:=kvs) (e:=2) (v:=slc (W.b 2) 5) rfl rfl rfl .here law hT a.eval w hev hs1
 refine .inl (wp_skp hrun ?_)
 show I73 opr bm om W0 R ds (listed.setIfInBounds 67 true) a w'
 have ek:∀ k∈[0,39,66,77,97,40,78,98],(listed.setIfInBounds 67 true).getD k false=listed.getD k false:=fun k hk=>getD_set_ne false (fun e=>by subst e; simp at hk)
 refine ⟨by simp [h.lsz],h.cls.set hr,h.tsz,h.dfs,W,kvs++[((2:Int),slc (W.b 2) 5)],?_,hB,fun i' o' d' hi' hl' hd'=>?_,?_⟩
 ·refine (hk.append_right _).trans ?_
  unfold es73
  simp only [ek 40 (by decide),ek 78 (by decide),ek 98 (by decide),set_same hi,gI,cond_true,cond_false,List.nil_append,List.append_assoc,List.append_nil]
  exact pI2 _ _ _
 ·rcases (lst_set hi).1 hl' with rfl | hl'
  ·rw [ho] at hi'; obtain rfl:=Option.some.inj hi'; cases hd'
  ·exact hV i' o' d' hi' hl' hd'
 ·have hs2:Sts W0 w' (Mp (ienc .i64) W.m (kvs++[((2:Int),slc (W.b 2) 5)])::(((bif listed.getD 39 false then [Bk (W.b 1) 188 (row1 bm om)] else [])++([Bk (W.b 2) 188 (row2 bm om)]++((bif listed.getD 77 false then [Bk (W.b 3) 188 (row3 bm om)] else [])++((bif listed.getD 97 false then [Bk (W.b 4) 188 (row4 bm om)] else [])))))++R)):=by rw [← hset]; exact hs'
  unfold th73
  simp only [ek 0 (by decide),ek 39 (by decide),ek 66 (by decide),ek 77 (by decide),ek 97 (by decide),gM,gB,cond_true]
  exact hs2
theorem stepI3 (hok:Ok73 opr) {K E ty pos af} (ho:opr[78]?=some ⟨none,.insert 265 (.tmp 6) (.const (.int .i64 3)) (.tmp 81),ty,pos,af,none⟩) (hks:[6,81].all (depB opr ⟨none,.insert 265 (.tmp 6) (.const (.int .i64 3)) (.tmp 81),ty,pos,af,none⟩)=true)
  (law:KeyL Tryz.prog K (ienc .i64)) (hT:Tryz.prog.underlying 265=some (.map K E))
  (hE:(af.toList.any fun e=>Region.binds .any e && Nat.beq e.on 77)=true) (hM:(af.toList.any fun e=>Region.binds .any e && Nat.beq e.on 0)=true) (h:I73 opr bm om W0 R ds listed a w) (hr:78∈Region.ready .any opr listed) :
  wpOp Tryz.prog opr Q 78 (fun a' w'=>I73 opr bm om W0 R ds (listed.setIfInBounds 78 true) a' w') a w:=by
 obtain ⟨W,kvs,hk,hB,hV,hs⟩:=h.st
 obtain ⟨hn,hi⟩:=not_at (W:=W) hr h.lsz
 have gI:=not_lst hn
 obtain ⟨o2,r⟩:=ready_of h.lsz hr
 have ho2:(⟨none,.insert 265 (.tmp 6) (.const (.int .i64 3)) (.tmp 81),ty,pos,af,none⟩:Oper)=o2:=by have:=r.op; rw [ho] at this; exact Option.some.inj this
 have src:∀ k,(af.toList.any fun e=>Region.binds .any e && Nat.beq e.on k)=true→listed.getD k false=true:=fun k hk=>by
  obtain ⟨ed,h1,h2⟩:=List.any_eq_true.1 hk
  simp only [Bool.and_eq_true] at h2
  have:=r.src ed (by rw [← ho2]; exact h1) h2.1
  rwa [Nat.eq_of_beq_eq_true h2.2] at this
 have gB:=src _ hE
 have gM:=src _ hM
 have hev:=evl73 (a:=a) (W:=W) (ks:=[6,81]) (fun t ht=>known73 hB hV hr h.lsz ho (List.all_eq_true.1 hks t ht))
 unfold wpOp
 simp only [ho,wanted_none (o:=⟨none,.insert 265 (.tmp 6) (.const (.int .i64 3)) (.tmp 81),ty,pos,af,none⟩) rfl,if_true]
 have hs1:Sts W0 w (Mp (ienc .i64) W.m kvs::(((bif listed.getD 39 false then [Bk (W.b 1) 188 (row1 bm om)] else [])++((bif listed.getD 66 false then [Bk (W.b 2) 188 (row2 bm om)] else [])++([Bk (W.b 3) 188 (row3 bm om)]++((bif listed.getD 97 false then [Bk (W.b 4) 188 (row4 bm om)] else [])))))++R)):=by
  unfold th73 at hs; simp only [gM,gB,cond_true] at hs; exact hs
 have hnot:∀ p∈kvs,p.1≠3:=by
  intro p hp
  have:=hk.mem_iff.1 hp
  unfold es73 at this
  simp only [gI,cond_false,List.mem_append,List.not_mem_nil,or_false,false_or] at this
  rcases this with h1 | h1 | h1 <;> (have h2:=mem_bif h1; subst h2; simp)
 have hset:setK (3:Int) (slc (W.b 3) 2) kvs=kvs++[((3:Int),slc (W.b 3) 2)]:=setK_none (i:=0) (lookAt_no (v:=undef) hnot)
 obtain ⟨w',hrun,hs'⟩:=EU.insert (W0:=W0) (d':=none) (T:=265) (K:=K) (E:=E) (x:=.tmp 6) (y:=.const (.int .i64 3)) (z:=.tmp 81) (ty:=ty) (ps:=pos) (af:=af) (g':=none) (b:=W.m) (kvs:=kvs) (e:=3) (v:=slc (W.b 3) 2) rfl rfl rfl .here law hT a.eval w hev hs1
 refine .inl (wp_skp hrun ?_)
 show I73 opr bm om W0 R ds (listed.setIfInBounds 78 true) a w'
 have ek:∀ k∈[0,39,66,77,97,40,67,98],(listed.setIfInBounds 78 true).getD k false=listed.getD k false:=fun k hk=>getD_set_ne false (fun e=>by subst e; simp at hk)
 refine ⟨by simp [h.lsz],h.cls.set hr,h.tsz,h.dfs,W,kvs++[((3:Int),slc (W.b 3) 2)],?_,hB,fun i' o' d' hi' hl' hd'=>?_,?_⟩
 ·refine (hk.append_right _).trans ?_
  unfold es73
  simp only [ek 40 (by decide),ek 67 (by decide),ek 98 (by decide),set_same hi,gI,cond_true,cond_false,List.nil_append,List.append_assoc,List.append_nil]
  exact pI3 _ _ _
 ·rcases (lst_set hi).1 hl' with rfl | hl'
  ·rw [ho] at hi'; obtain rfl:=Option.some.inj hi'; cases hd'
  ·exact hV i' o' d' hi' hl' hd'
 ·have hs2:Sts W0 w' (Mp (ienc .i64) W.m (kvs++[((3:Int),slc (W.b 3) 2)])::(((bif listed.getD 39 false then [Bk (W.b 1) 188 (row1 bm om)] else [])++((bif listed.getD 66 false then [Bk (W.b 2) 188 (row2 bm om)] else [])++([Bk (W.b 3) 188 (row3 bm om)]++((bif listed.getD 97 false then [Bk (W.b 4) 188 (row4 bm om)] else [])))))++R)):=by rw [← hset]; exact hs'
  unfold th73
  simp only [ek 0 (by decide),ek 39 (by decide),ek 66 (by decide),ek 77 (by decide),ek 97 (by decide),gM,gB,cond_true]
  exact hs2
theorem stepI4 (hok:Ok73 opr) {K E ty pos af} (ho:opr[98]?=some ⟨none,.insert 265 (.tmp 6) (.const (.int .i64 4)) (.tmp 100),ty,pos,af,none⟩) (hks:[6,100].all (depB opr ⟨none,.insert 265 (.tmp 6) (.const (.int .i64 4)) (.tmp 100),ty,pos,af,none⟩)=true)
  (law:KeyL Tryz.prog K (ienc .i64)) (hT:Tryz.prog.underlying 265=some (.map K E))
  (hE:(af.toList.any fun e=>Region.binds .any e && Nat.beq e.on 97)=true) (hM:(af.toList.any fun e=>Region.binds .any e && Nat.beq e.on 0)=true) (h:I73 opr bm om W0 R ds listed a w) (hr:98∈Region.ready .any opr listed) :
  wpOp Tryz.prog opr Q 98 (fun a' w'=>I73 opr bm om W0 R ds (listed.setIfInBounds 98 true) a' w') a w:=by
 obtain ⟨W,kvs,hk,hB,hV,hs⟩:=h.st
 obtain ⟨hn,hi⟩:=not_at (W:=W) hr h.lsz
 have gI:=not_lst hn
 obtain ⟨o2,r⟩:=ready_of h.lsz hr
 have ho2:(⟨none,.insert 265 (.tmp 6) (.const (.int .i64 4)) (.tmp 100),ty,pos,af,none⟩:Oper)=o2:=by have:=r.op; rw [ho] at this; exact Option.some.inj this
 have src:∀ k,(af.toList.any fun e=>Region.binds .any e && Nat.beq e.on k)=true→listed.getD k false=true:=fun k hk=>by
  obtain ⟨ed,h1,h2⟩:=List.any_eq_true.1 hk
  simp only [Bool.and_eq_true] at h2
  have:=r.src ed (by rw [← ho2]; exact h1) h2.1
  rwa [Nat.eq_of_beq_eq_true h2.2] at this
 have gB:=src _ hE
 have gM:=src _ hM
 have hev:=evl73 (a:=a) (W:=W) (ks:=[6,100]) (fun t ht=>known73 hB hV hr h.lsz ho (List.all_eq_true.1 hks t ht))
 unfold wpOp
 simp only [ho,wanted_none (o:=⟨none,.insert 265 (.tmp 6) (.const (.int .i64 4)) (.tmp 100),ty,pos,af,none⟩) rfl,if_true]
 have hs1:Sts W0 w (Mp (ienc .i64) W.m kvs::(((bif listed.getD 39 false then [Bk (W.b 1) 188 (row1 bm om)] else [])++((bif listed.getD 66 false then [Bk (W.b 2) 188 (row2 bm om)] else [])++((bif listed.getD 77 false then [Bk (W.b 3) 188 (row3 bm om)] else [])++([Bk (W.b 4) 188 (row4 bm om)]))))++R)):=by
  unfold th73 at hs; simp only [gM,gB,cond_true] at hs; exact hs
 have hnot:∀ p∈kvs,p.1≠4:=by
  intro p hp
  have:=hk.mem_iff.1 hp
  unfold es73 at this
  simp only [gI,cond_false,List.mem_append,List.not_mem_nil,or_false,false_or] at this
  rcases this with h1 | h1 | h1 <;> (have h2:=mem_bif h1; subst h2; simp)
 have hset:setK (4:Int) (slc (W.b 4) 4) kvs=kvs++[((4:Int),slc (W.b 4) 4)]:=setK_none (i:=0) (lookAt_no (v:=undef) hnot)
 obtain ⟨w',hrun,hs'⟩:=EU.insert (W0:=W0) (d':=none) (T:=265) (K:=K) (E:=E) (x:=.tmp 6) (y:=.const (.int .i64 4)) (z:=.tmp 100) (ty:=ty) (ps:=pos) (af:=af) (g':=none) (b:=W.m) (kvs:=kvs) (e:=4) (v:=slc (W.b 4) 4) rfl rfl rfl .here law hT a.eval w hev hs1
 refine .inl (wp_skp hrun ?_)
 show I73 opr bm om W0 R ds (listed.setIfInBounds 98 true) a w'
 have ek:∀ k∈[0,39,66,77,97,40,67,78],(listed.setIfInBounds 98 true).getD k false=listed.getD k false:=fun k hk=>getD_set_ne false (fun e=>by subst e; simp at hk)
 refine ⟨by simp [h.lsz],h.cls.set hr,h.tsz,h.dfs,W,kvs++[((4:Int),slc (W.b 4) 4)],?_,hB,fun i' o' d' hi' hl' hd'=>?_,?_⟩
 ·refine (hk.append_right _).trans ?_
  unfold es73
  simp only [ek 40 (by decide),ek 67 (by decide),ek 78 (by decide),set_same hi,gI,cond_true,cond_false,List.nil_append,List.append_assoc,List.append_nil]
  exact List.Perm.refl _
 ·rcases (lst_set hi).1 hl' with rfl | hl'
  ·rw [ho] at hi'; obtain rfl:=Option.some.inj hi'; cases hd'
  ·exact hV i' o' d' hi' hl' hd'
 ·have hs2:Sts W0 w' (Mp (ienc .i64) W.m (kvs++[((4:Int),slc (W.b 4) 4)])::(((bif listed.getD 39 false then [Bk (W.b 1) 188 (row1 bm om)] else [])++((bif listed.getD 66 false then [Bk (W.b 2) 188 (row2 bm om)] else [])++((bif listed.getD 77 false then [Bk (W.b 3) 188 (row3 bm om)] else [])++([Bk (W.b 4) 188 (row4 bm om)]))))++R)):=by rw [← hset]; exact hs'
  unfold th73
  simp only [ek 0 (by decide),ek 39 (by decide),ek 66 (by decide),ek 77 (by decide),ek 97 (by decide),gM,gB,cond_true]
  exact hs2
end
end
noncomputable section
open Go.RowKit
set_option maxRecDepth 100000
noncomputable def r73:Array Oper:=match Tryz.f73.body with
 | some (.seq _ (.seq _ (.seq _ (.seq (.region _ o _) _))))=>o
 | _=>#[]
theorem ok73:Ok73 r73:=⟨by kernel_rfl,by kernel_rfl,by kernel_rfl⟩
theorem bs182:BS Tryz.prog 182 188 5 [.int .u64 0,.int .u64 0,.pointer none,.pointer none,.pointer none]:=⟨Tryz.underlying182,by kernel_rfl,rfl,by decide⟩
theorem drop_mem {W0 w:World} {A L:List Thing} (h:Sts W0 w (A++L)):Sts W0 w L:=by
 induction A with
 | nil=>exact h
 | cons x r ih=>exact ih h.tail
def g1 (b:Nat):G:=⟨fun p=>if p=.h then some (b,0) else none,0,0,by decide,by decide⟩
theorem g1_fresh (b:Nat):(g1 b).fresh p2:=fun i hi=>if_neg (fun e=>by subst e; exact absurd hi (by decide))
section
variable {bm om:Nat} {W0 w:World} {R:List Thing} {ds:List Deferred} {listed:Array Bool} {a:Act} {Q:Exit→Act→World→Prop}
theorem c118 (hF:ftab0.Ok Tryz.prog W0) (hmix:Tryz.prog.follows .mixedOrders=true) (b k:Nat) {L:List Thing} (hs:Sts W0 w L):Calls Tryz.prog 118 [pt b k].toArray w fun e w'=>e=.returned (vNum b k)∧Sts W0 w' L:=by
 have h:=(runS_sound hF hmix 3).1 p119 [.p .h k] .e p2 _ _ _ (rfl:runF biS 3 p119 [.p .h k] .e p2=.ret (.a [uu 1,uu 4294967296,.p .h k,.pn,.pn]) _ _) w L (g1 b) [pt b k] (g1_fresh b) rfl hs
 refine h.mono ?_
 rintro e w' ⟨g',x,rfl,k1,k2,k3,k4,k5⟩
 have hr:g'.rho .h=some (b,0):=by rw [k1.2.2 .h (by decide)]; rfl
 refine ⟨?_,drop_mem k5⟩
 have:den g' (.a [uu 1,uu 4294967296,.p .h k,.pn,.pn])=some (vNum b k):=by
  simp [den,den2,dens,den1,den0,hr,uu,vNum,pt]
 have k4':=this.symm.trans k4
 rw [Option.some.inj k4']
theorem c119 (hF:ftab0.Ok Tryz.prog W0) (hmix:Tryz.prog.follows .mixedOrders=true) (b k:Nat) {L:List Thing} (hs:Sts W0 w L):Calls Tryz.prog 119 [pt b k].toArray w fun e w'=>e=.returned (vNam b k)∧Sts W0 w' L:=by
 have h:=(runS_sound hF hmix 3).1 p120 [.p .h k] .e p2 _ _ _ (rfl:runF biS 3 p120 [.p .h k] .e p2=.ret (.a [uu 1,uu 1048576,.pn,.p .h k,.pn]) _ _) w L (g1 b) [pt b k] (g1_fresh b) rfl hs
 refine h.mono ?_
 rintro e w' ⟨g',x,rfl,k1,k2,k3,k4,k5⟩
 have hr:g'.rho .h=some (b,0):=by rw [k1.2.2 .h (by decide)]; rfl
 refine ⟨?_,drop_mem k5⟩
 have:den g' (.a [uu 1,uu 1048576,.pn,.p .h k,.pn])=some (vNam b k):=by
  simp [den,den2,dens,den1,den0,hr,uu,vNam,pt]
 have k4':=this.symm.trans k4
 rw [Option.some.inj k4']
abbrev C73 (bm om:Nat) (W0:World) (R:List Thing) (ds:List Deferred) (listed:Array Bool) (a:Act) (w:World) (Q:Exit→Act→World→Prop) (K:Nat):Prop:=I73 r73 bm om W0 R ds listed a w→K∈Region.ready .any r73 listed→wpOp Tryz.prog r73 Q K (fun a' w'=>I73 r73 bm om W0 R ds (listed.setIfInBounds K true) a' w') a w
theorem s0:C73 bm om W0 R ds listed a w Q 0:=fun h hr=>stepM ok73 rfl (h1:=rfl) rfl (by kernel_rfl) (h2:=rfl) rfl (by kernel_rfl) (hI1:=rfl) (by kernel_rfl) (hI2:=rfl) (by kernel_rfl) (hI3:=rfl) (by kernel_rfl) (hI4:=rfl) (by kernel_rfl) h hr
theorem s1:C73 bm om W0 R ds listed a w Q 1:=fun h hr=>stepP ok73 (o:=_) rfl rfl rfl [3] (by kernel_rfl) rfl rfl (fun W=>EX.move rfl) h hr
theorem s2:C73 bm om W0 R ds listed a w Q 2:=fun h hr=>stepP ok73 (o:=_) rfl rfl rfl [0] (by kernel_rfl) rfl rfl (fun W=>EX.move rfl) h hr
theorem s3:C73 bm om W0 R ds listed a w Q 3:=fun h hr=>stepP ok73 (o:=_) rfl rfl rfl [8] (by kernel_rfl) rfl rfl (fun W=>EX.nilCheck rfl) h hr
theorem s4:C73 bm om W0 R ds listed a w Q 4:=fun h hr=>stepP ok73 (o:=_) rfl rfl rfl [9] (by kernel_rfl) rfl rfl (fun W=>EX.fieldAddr rfl q_fa81_1) h hr
theorem s5 (hF:ftab0.Ok Tryz.prog W0) (hmix:Tryz.prog.follows .mixedOrders=true):C73 bm om W0 R ds listed a w Q 5:=fun h hr=>stepC ok73 (o:=_) rfl rfl rfl [7,10] (by kernel_rfl) rfl rfl (f:=118) (args:=[pt bm (om + 1)]) (fun W=>EC.closure (us:=#[]) (cs:=#[]) (vs:=[pt bm (om + 1)]) rfl en118 rfl) (fun W w L hs=>c118 hF hmix bm (om + 1) hs) h hr
theorem s6:C73 bm om W0 R ds listed a w Q 6:=fun h hr=>stepP ok73 (o:=_) rfl rfl rfl [0] (by kernel_rfl) rfl rfl (fun W=>EX.move rfl) h hr
theorem s7:C73 bm om W0 R ds listed a w Q 7:=fun h hr=>stepP ok73 (o:=_) rfl rfl rfl [12] (by kernel_rfl) rfl rfl (fun W=>EX.nilCheck rfl) h hr
theorem s8:C73 bm om W0 R ds listed a w Q 8:=fun h hr=>stepP ok73 (o:=_) rfl rfl rfl [13] (by kernel_rfl) rfl rfl (fun W=>EX.fieldAddr rfl q_fa81_3) h hr
theorem s9:C73 bm om W0 R ds listed a w Q 9:=fun h hr=>stepP ok73 (o:=_) rfl rfl rfl [14] (by kernel_rfl) rfl rfl (fun W=>EX.build rfl q_bd188 rfl) h hr
theorem s10:C73 bm om W0 R ds listed a w Q 10:=fun h hr=>stepP ok73 (o:=_) rfl rfl rfl [0] (by kernel_rfl) rfl rfl (fun W=>EX.move rfl) h hr
theorem s11:C73 bm om W0 R ds listed a w Q 11:=fun h hr=>stepP ok73 (o:=_) rfl rfl rfl [16] (by kernel_rfl) rfl rfl (fun W=>EX.nilCheck rfl) h hr
theorem s12:C73 bm om W0 R ds listed a w Q 12:=fun h hr=>stepP ok73 (o:=_) rfl rfl rfl [17] (by kernel_rfl) rfl rfl (fun W=>EX.fieldAddr rfl q_fa81_4) h hr
theorem s13:C73 bm om W0 R ds listed a w Q 13:=fun h hr=>stepP ok73 (o:=_) rfl rfl rfl [18] (by kernel_rfl) rfl rfl (fun W=>EX.build rfl q_bd188 rfl) h hr
theorem s14:C73 bm om W0 R ds listed a w Q 14:=fun h hr=>stepP ok73 (o:=_) rfl rfl rfl [4] (by kernel_rfl) rfl rfl (fun W=>EX.move rfl) h hr
theorem s15:C73 bm om W0 R ds listed a w Q 15:=fun h hr=>stepP ok73 (o:=_) rfl rfl rfl [0] (by kernel_rfl) rfl rfl (fun W=>EX.move rfl) h hr
theorem s16:C73 bm om W0 R ds listed a w Q 16:=fun h hr=>stepP ok73 (o:=_) rfl rfl rfl [21] (by kernel_rfl) rfl rfl (fun W=>EX.nilCheck rfl) h hr
theorem s17:C73 bm om W0 R ds listed a w Q 17:=fun h hr=>stepP ok73 (o:=_) rfl rfl rfl [22] (by kernel_rfl) rfl rfl (fun W=>EX.fieldAddr rfl q_fa81_6) h hr
theorem s18 (hF:ftab0.Ok Tryz.prog W0) (hmix:Tryz.prog.follows .mixedOrders=true):C73 bm om W0 R ds listed a w Q 18:=fun h hr=>stepC ok73 (o:=_) rfl rfl rfl [20,23] (by kernel_rfl) rfl rfl (f:=119) (args:=[pt bm (om + 6)]) (fun W=>EC.closure (us:=#[]) (cs:=#[]) (vs:=[pt bm (om + 6)]) rfl en119 rfl) (fun W w L hs=>c119 hF hmix bm (om + 6) hs) h hr
theorem s19:C73 bm om W0 R ds listed a w Q 19:=fun h hr=>stepP ok73 (o:=_) rfl rfl rfl [4] (by kernel_rfl) rfl rfl (fun W=>EX.move rfl) h hr
theorem s20:C73 bm om W0 R ds listed a w Q 20:=fun h hr=>stepP ok73 (o:=_) rfl rfl rfl [0] (by kernel_rfl) rfl rfl (fun W=>EX.move rfl) h hr
theorem s21:C73 bm om W0 R ds listed a w Q 21:=fun h hr=>stepP ok73 (o:=_) rfl rfl rfl [26] (by kernel_rfl) rfl rfl (fun W=>EX.nilCheck rfl) h hr
theorem s22:C73 bm om W0 R ds listed a w Q 22:=fun h hr=>stepP ok73 (o:=_) rfl rfl rfl [27] (by kernel_rfl) rfl rfl (fun W=>EX.fieldAddr rfl q_fa81_7) h hr
theorem s23 (hF:ftab0.Ok Tryz.prog W0) (hmix:Tryz.prog.follows .mixedOrders=true):C73 bm om W0 R ds listed a w Q 23:=fun h hr=>stepC ok73 (o:=_) rfl rfl rfl [25,28] (by kernel_rfl) rfl rfl (f:=119) (args:=[pt bm (om + 7)]) (fun W=>EC.closure (us:=#[]) (cs:=#[]) (vs:=[pt bm (om + 7)]) rfl en119 rfl) (fun W w L hs=>c119 hF hmix bm (om + 7) hs) h hr
theorem s24:C73 bm om W0 R ds listed a w Q 24:=fun h hr=>stepP ok73 (o:=_) rfl rfl rfl [4] (by kernel_rfl) rfl rfl (fun W=>EX.move rfl) h hr
theorem s25:C73 bm om W0 R ds listed a w Q 25:=fun h hr=>stepP ok73 (o:=_) rfl rfl rfl [0] (by kernel_rfl) rfl rfl (fun W=>EX.move rfl) h hr
theorem s26:C73 bm om W0 R ds listed a w Q 26:=fun h hr=>stepP ok73 (o:=_) rfl rfl rfl [31] (by kernel_rfl) rfl rfl (fun W=>EX.nilCheck rfl) h hr
theorem s27:C73 bm om W0 R ds listed a w Q 27:=fun h hr=>stepP ok73 (o:=_) rfl rfl rfl [32] (by kernel_rfl) rfl rfl (fun W=>EX.fieldAddr rfl q_fa81_8) h hr
theorem s28 (hF:ftab0.Ok Tryz.prog W0) (hmix:Tryz.prog.follows .mixedOrders=true):C73 bm om W0 R ds listed a w Q 28:=fun h hr=>stepC ok73 (o:=_) rfl rfl rfl [30,33] (by kernel_rfl) rfl rfl (f:=119) (args:=[pt bm (om + 8)]) (fun W=>EC.closure (us:=#[]) (cs:=#[]) (vs:=[pt bm (om + 8)]) rfl en119 rfl) (fun W w L hs=>c119 hF hmix bm (om + 8) hs) h hr
theorem s29:C73 bm om W0 R ds listed a w Q 29:=fun h hr=>stepP ok73 (o:=_) rfl rfl rfl [4] (by kernel_rfl) rfl rfl (fun W=>EX.move rfl) h hr
theorem s30:C73 bm om W0 R ds listed a w Q 30:=fun h hr=>stepP ok73 (o:=_) rfl rfl rfl [0] (by kernel_rfl) rfl rfl (fun W=>EX.move rfl) h hr
theorem s31:C73 bm om W0 R ds listed a w Q 31:=fun h hr=>stepP ok73 (o:=_) rfl rfl rfl [36] (by kernel_rfl) rfl rfl (fun W=>EX.nilCheck rfl) h hr
theorem s32:C73 bm om W0 R ds listed a w Q 32:=fun h hr=>stepP ok73 (o:=_) rfl rfl rfl [37] (by kernel_rfl) rfl rfl (fun W=>EX.fieldAddr rfl q_fa81_9) h hr
theorem s33 (hF:ftab0.Ok Tryz.prog W0) (hmix:Tryz.prog.follows .mixedOrders=true):C73 bm om W0 R ds listed a w Q 33:=fun h hr=>stepC ok73 (o:=_) rfl rfl rfl [35,38] (by kernel_rfl) rfl rfl (f:=119) (args:=[pt bm (om + 9)]) (fun W=>EC.closure (us:=#[]) (cs:=#[]) (vs:=[pt bm (om + 9)]) rfl en119 rfl) (fun W w L hs=>c119 hF hmix bm (om + 9) hs) h hr
theorem s34:C73 bm om W0 R ds listed a w Q 34:=fun h hr=>stepP ok73 (o:=_) rfl rfl rfl [4] (by kernel_rfl) rfl rfl (fun W=>EX.move rfl) h hr
theorem s35:C73 bm om W0 R ds listed a w Q 35:=fun h hr=>stepP ok73 (o:=_) rfl rfl rfl [0] (by kernel_rfl) rfl rfl (fun W=>EX.move rfl) h hr
theorem s36:C73 bm om W0 R ds listed a w Q 36:=fun h hr=>stepP ok73 (o:=_) rfl rfl rfl [41] (by kernel_rfl) rfl rfl (fun W=>EX.nilCheck rfl) h hr
theorem s37:C73 bm om W0 R ds listed a w Q 37:=fun h hr=>stepP ok73 (o:=_) rfl rfl rfl [42] (by kernel_rfl) rfl rfl (fun W=>EX.fieldAddr rfl q_fa81_10) h hr
theorem s38 (hF:ftab0.Ok Tryz.prog W0) (hmix:Tryz.prog.follows .mixedOrders=true):C73 bm om W0 R ds listed a w Q 38:=fun h hr=>stepC ok73 (o:=_) rfl rfl rfl [40,43] (by kernel_rfl) rfl rfl (f:=119) (args:=[pt bm (om + 10)]) (fun W=>EC.closure (us:=#[]) (cs:=#[]) (vs:=[pt bm (om + 10)]) rfl en119 rfl) (fun W w L hs=>c119 hF hmix bm (om + 10) hs) h hr
theorem s39:C73 bm om W0 R ds listed a w Q 39:=fun h hr=>stepB1 ok73 rfl [11,15,19,24,29,34,39,44] (by kernel_rfl) (fun W=>rfl) bs182 (fun W=>rfl) (hI:=rfl) (by kernel_rfl) h hr
theorem s40:C73 bm om W0 R ds listed a w Q 40:=fun h hr=>stepI1 ok73 rfl (by kernel_rfl) (intK Tryz.underlying3 rfl) Tryz.underlying265 (by kernel_rfl) (by kernel_rfl) h hr
theorem s41:C73 bm om W0 R ds listed a w Q 41:=fun h hr=>stepP ok73 (o:=_) rfl rfl rfl [3] (by kernel_rfl) rfl rfl (fun W=>EX.move rfl) h hr
theorem s42:C73 bm om W0 R ds listed a w Q 42:=fun h hr=>stepP ok73 (o:=_) rfl rfl rfl [0] (by kernel_rfl) rfl rfl (fun W=>EX.move rfl) h hr
theorem s43:C73 bm om W0 R ds listed a w Q 43:=fun h hr=>stepP ok73 (o:=_) rfl rfl rfl [47] (by kernel_rfl) rfl rfl (fun W=>EX.nilCheck rfl) h hr
theorem s44:C73 bm om W0 R ds listed a w Q 44:=fun h hr=>stepP ok73 (o:=_) rfl rfl rfl [48] (by kernel_rfl) rfl rfl (fun W=>EX.fieldAddr rfl q_fa81_1) h hr
theorem s45 (hF:ftab0.Ok Tryz.prog W0) (hmix:Tryz.prog.follows .mixedOrders=true):C73 bm om W0 R ds listed a w Q 45:=fun h hr=>stepC ok73 (o:=_) rfl rfl rfl [46,49] (by kernel_rfl) rfl rfl (f:=118) (args:=[pt bm (om + 1)]) (fun W=>EC.closure (us:=#[]) (cs:=#[]) (vs:=[pt bm (om + 1)]) rfl en118 rfl) (fun W w L hs=>c118 hF hmix bm (om + 1) hs) h hr
theorem s46:C73 bm om W0 R ds listed a w Q 46:=fun h hr=>stepP ok73 (o:=_) rfl rfl rfl [3] (by kernel_rfl) rfl rfl (fun W=>EX.move rfl) h hr
theorem s47:C73 bm om W0 R ds listed a w Q 47:=fun h hr=>stepP ok73 (o:=_) rfl rfl rfl [0] (by kernel_rfl) rfl rfl (fun W=>EX.move rfl) h hr
theorem s48:C73 bm om W0 R ds listed a w Q 48:=fun h hr=>stepP ok73 (o:=_) rfl rfl rfl [52] (by kernel_rfl) rfl rfl (fun W=>EX.nilCheck rfl) h hr
theorem s49:C73 bm om W0 R ds listed a w Q 49:=fun h hr=>stepP ok73 (o:=_) rfl rfl rfl [53] (by kernel_rfl) rfl rfl (fun W=>EX.fieldAddr rfl q_fa81_2) h hr
theorem s50 (hF:ftab0.Ok Tryz.prog W0) (hmix:Tryz.prog.follows .mixedOrders=true):C73 bm om W0 R ds listed a w Q 50:=fun h hr=>stepC ok73 (o:=_) rfl rfl rfl [51,54] (by kernel_rfl) rfl rfl (f:=118) (args:=[pt bm (om + 2)]) (fun W=>EC.closure (us:=#[]) (cs:=#[]) (vs:=[pt bm (om + 2)]) rfl en118 rfl) (fun W w L hs=>c118 hF hmix bm (om + 2) hs) h hr
theorem s51:C73 bm om W0 R ds listed a w Q 51:=fun h hr=>stepP ok73 (o:=_) rfl rfl rfl [4] (by kernel_rfl) rfl rfl (fun W=>EX.move rfl) h hr
theorem s52:C73 bm om W0 R ds listed a w Q 52:=fun h hr=>stepP ok73 (o:=_) rfl rfl rfl [0] (by kernel_rfl) rfl rfl (fun W=>EX.move rfl) h hr
theorem s53:C73 bm om W0 R ds listed a w Q 53:=fun h hr=>stepP ok73 (o:=_) rfl rfl rfl [57] (by kernel_rfl) rfl rfl (fun W=>EX.nilCheck rfl) h hr
theorem s54:C73 bm om W0 R ds listed a w Q 54:=fun h hr=>stepP ok73 (o:=_) rfl rfl rfl [58] (by kernel_rfl) rfl rfl (fun W=>EX.fieldAddr rfl q_fa81_6) h hr
theorem s55 (hF:ftab0.Ok Tryz.prog W0) (hmix:Tryz.prog.follows .mixedOrders=true):C73 bm om W0 R ds listed a w Q 55:=fun h hr=>stepC ok73 (o:=_) rfl rfl rfl [56,59] (by kernel_rfl) rfl rfl (f:=119) (args:=[pt bm (om + 6)]) (fun W=>EC.closure (us:=#[]) (cs:=#[]) (vs:=[pt bm (om + 6)]) rfl en119 rfl) (fun W w L hs=>c119 hF hmix bm (om + 6) hs) h hr
theorem s56:C73 bm om W0 R ds listed a w Q 56:=fun h hr=>stepP ok73 (o:=_) rfl rfl rfl [4] (by kernel_rfl) rfl rfl (fun W=>EX.move rfl) h hr
theorem s57:C73 bm om W0 R ds listed a w Q 57:=fun h hr=>stepP ok73 (o:=_) rfl rfl rfl [0] (by kernel_rfl) rfl rfl (fun W=>EX.move rfl) h hr
theorem s58:C73 bm om W0 R ds listed a w Q 58:=fun h hr=>stepP ok73 (o:=_) rfl rfl rfl [62] (by kernel_rfl) rfl rfl (fun W=>EX.nilCheck rfl) h hr
theorem s59:C73 bm om W0 R ds listed a w Q 59:=fun h hr=>stepP ok73 (o:=_) rfl rfl rfl [63] (by kernel_rfl) rfl rfl (fun W=>EX.fieldAddr rfl q_fa81_8) h hr
theorem s60 (hF:ftab0.Ok Tryz.prog W0) (hmix:Tryz.prog.follows .mixedOrders=true):C73 bm om W0 R ds listed a w Q 60:=fun h hr=>stepC ok73 (o:=_) rfl rfl rfl [61,64] (by kernel_rfl) rfl rfl (f:=119) (args:=[pt bm (om + 8)]) (fun W=>EC.closure (us:=#[]) (cs:=#[]) (vs:=[pt bm (om + 8)]) rfl en119 rfl) (fun W w L hs=>c119 hF hmix bm (om + 8) hs) h hr
theorem s61:C73 bm om W0 R ds listed a w Q 61:=fun h hr=>stepP ok73 (o:=_) rfl rfl rfl [4] (by kernel_rfl) rfl rfl (fun W=>EX.move rfl) h hr
theorem s62:C73 bm om W0 R ds listed a w Q 62:=fun h hr=>stepP ok73 (o:=_) rfl rfl rfl [0] (by kernel_rfl) rfl rfl (fun W=>EX.move rfl) h hr
theorem s63:C73 bm om W0 R ds listed a w Q 63:=fun h hr=>stepP ok73 (o:=_) rfl rfl rfl [67] (by kernel_rfl) rfl rfl (fun W=>EX.nilCheck rfl) h hr
theorem s64:C73 bm om W0 R ds listed a w Q 64:=fun h hr=>stepP ok73 (o:=_) rfl rfl rfl [68] (by kernel_rfl) rfl rfl (fun W=>EX.fieldAddr rfl q_fa81_9) h hr
theorem s65 (hF:ftab0.Ok Tryz.prog W0) (hmix:Tryz.prog.follows .mixedOrders=true):C73 bm om W0 R ds listed a w Q 65:=fun h hr=>stepC ok73 (o:=_) rfl rfl rfl [66,69] (by kernel_rfl) rfl rfl (f:=119) (args:=[pt bm (om + 9)]) (fun W=>EC.closure (us:=#[]) (cs:=#[]) (vs:=[pt bm (om + 9)]) rfl en119 rfl) (fun W w L hs=>c119 hF hmix bm (om + 9) hs) h hr
theorem s66:C73 bm om W0 R ds listed a w Q 66:=fun h hr=>stepB2 ok73 rfl [50,55,60,65,70] (by kernel_rfl) (fun W=>rfl) bs182 (fun W=>rfl) (hI:=rfl) (by kernel_rfl) h hr
theorem s67:C73 bm om W0 R ds listed a w Q 67:=fun h hr=>stepI2 ok73 rfl (by kernel_rfl) (intK Tryz.underlying3 rfl) Tryz.underlying265 (by kernel_rfl) (by kernel_rfl) h hr
theorem s68:C73 bm om W0 R ds listed a w Q 68:=fun h hr=>stepP ok73 (o:=_) rfl rfl rfl [3] (by kernel_rfl) rfl rfl (fun W=>EX.move rfl) h hr
theorem s69:C73 bm om W0 R ds listed a w Q 69:=fun h hr=>stepP ok73 (o:=_) rfl rfl rfl [0] (by kernel_rfl) rfl rfl (fun W=>EX.move rfl) h hr
theorem s70:C73 bm om W0 R ds listed a w Q 70:=fun h hr=>stepP ok73 (o:=_) rfl rfl rfl [73] (by kernel_rfl) rfl rfl (fun W=>EX.nilCheck rfl) h hr
theorem s71:C73 bm om W0 R ds listed a w Q 71:=fun h hr=>stepP ok73 (o:=_) rfl rfl rfl [74] (by kernel_rfl) rfl rfl (fun W=>EX.fieldAddr rfl q_fa81_2) h hr
theorem s72 (hF:ftab0.Ok Tryz.prog W0) (hmix:Tryz.prog.follows .mixedOrders=true):C73 bm om W0 R ds listed a w Q 72:=fun h hr=>stepC ok73 (o:=_) rfl rfl rfl [72,75] (by kernel_rfl) rfl rfl (f:=118) (args:=[pt bm (om + 2)]) (fun W=>EC.closure (us:=#[]) (cs:=#[]) (vs:=[pt bm (om + 2)]) rfl en118 rfl) (fun W w L hs=>c118 hF hmix bm (om + 2) hs) h hr
theorem s73:C73 bm om W0 R ds listed a w Q 73:=fun h hr=>stepP ok73 (o:=_) rfl rfl rfl [0] (by kernel_rfl) rfl rfl (fun W=>EX.move rfl) h hr
theorem s74:C73 bm om W0 R ds listed a w Q 74:=fun h hr=>stepP ok73 (o:=_) rfl rfl rfl [77] (by kernel_rfl) rfl rfl (fun W=>EX.nilCheck rfl) h hr
theorem s75:C73 bm om W0 R ds listed a w Q 75:=fun h hr=>stepP ok73 (o:=_) rfl rfl rfl [78] (by kernel_rfl) rfl rfl (fun W=>EX.fieldAddr rfl q_fa81_5) h hr
theorem s76:C73 bm om W0 R ds listed a w Q 76:=fun h hr=>stepP ok73 (o:=_) rfl rfl rfl [79] (by kernel_rfl) rfl rfl (fun W=>EX.build rfl q_bd188 rfl) h hr
theorem s77:C73 bm om W0 R ds listed a w Q 77:=fun h hr=>stepB3 ok73 rfl [76,80] (by kernel_rfl) (fun W=>rfl) bs182 (fun W=>rfl) (hI:=rfl) (by kernel_rfl) h hr
theorem s78:C73 bm om W0 R ds listed a w Q 78:=fun h hr=>stepI3 ok73 rfl (by kernel_rfl) (intK Tryz.underlying3 rfl) Tryz.underlying265 (by kernel_rfl) (by kernel_rfl) h hr
theorem s79:C73 bm om W0 R ds listed a w Q 79:=fun h hr=>stepP ok73 (o:=_) rfl rfl rfl [3] (by kernel_rfl) rfl rfl (fun W=>EX.move rfl) h hr
theorem s80:C73 bm om W0 R ds listed a w Q 80:=fun h hr=>stepP ok73 (o:=_) rfl rfl rfl [0] (by kernel_rfl) rfl rfl (fun W=>EX.move rfl) h hr
theorem s81:C73 bm om W0 R ds listed a w Q 81:=fun h hr=>stepP ok73 (o:=_) rfl rfl rfl [83] (by kernel_rfl) rfl rfl (fun W=>EX.nilCheck rfl) h hr
theorem s82:C73 bm om W0 R ds listed a w Q 82:=fun h hr=>stepP ok73 (o:=_) rfl rfl rfl [84] (by kernel_rfl) rfl rfl (fun W=>EX.fieldAddr rfl q_fa81_2) h hr
theorem s83 (hF:ftab0.Ok Tryz.prog W0) (hmix:Tryz.prog.follows .mixedOrders=true):C73 bm om W0 R ds listed a w Q 83:=fun h hr=>stepC ok73 (o:=_) rfl rfl rfl [82,85] (by kernel_rfl) rfl rfl (f:=118) (args:=[pt bm (om + 2)]) (fun W=>EC.closure (us:=#[]) (cs:=#[]) (vs:=[pt bm (om + 2)]) rfl en118 rfl) (fun W w L hs=>c118 hF hmix bm (om + 2) hs) h hr
theorem s84:C73 bm om W0 R ds listed a w Q 84:=fun h hr=>stepP ok73 (o:=_) rfl rfl rfl [0] (by kernel_rfl) rfl rfl (fun W=>EX.move rfl) h hr
theorem s85:C73 bm om W0 R ds listed a w Q 85:=fun h hr=>stepP ok73 (o:=_) rfl rfl rfl [87] (by kernel_rfl) rfl rfl (fun W=>EX.nilCheck rfl) h hr
theorem s86:C73 bm om W0 R ds listed a w Q 86:=fun h hr=>stepP ok73 (o:=_) rfl rfl rfl [88] (by kernel_rfl) rfl rfl (fun W=>EX.fieldAddr rfl q_fa81_11) h hr
theorem s87:C73 bm om W0 R ds listed a w Q 87:=fun h hr=>stepP ok73 (o:=_) rfl rfl rfl [89] (by kernel_rfl) rfl rfl (fun W=>EX.build rfl q_bd188 rfl) h hr
theorem s88:C73 bm om W0 R ds listed a w Q 88:=fun h hr=>stepP ok73 (o:=_) rfl rfl rfl [0] (by kernel_rfl) rfl rfl (fun W=>EX.move rfl) h hr
theorem s89:C73 bm om W0 R ds listed a w Q 89:=fun h hr=>stepP ok73 (o:=_) rfl rfl rfl [91] (by kernel_rfl) rfl rfl (fun W=>EX.nilCheck rfl) h hr
theorem s90:C73 bm om W0 R ds listed a w Q 90:=fun h hr=>stepP ok73 (o:=_) rfl rfl rfl [92] (by kernel_rfl) rfl rfl (fun W=>EX.fieldAddr rfl q_fa81_12) h hr
theorem s91:C73 bm om W0 R ds listed a w Q 91:=fun h hr=>stepP ok73 (o:=_) rfl rfl rfl [93] (by kernel_rfl) rfl rfl (fun W=>EX.build rfl q_bd188 rfl) h hr
theorem s92:C73 bm om W0 R ds listed a w Q 92:=fun h hr=>stepP ok73 (o:=_) rfl rfl rfl [4] (by kernel_rfl) rfl rfl (fun W=>EX.move rfl) h hr
theorem s93:C73 bm om W0 R ds listed a w Q 93:=fun h hr=>stepP ok73 (o:=_) rfl rfl rfl [0] (by kernel_rfl) rfl rfl (fun W=>EX.move rfl) h hr
theorem s94:C73 bm om W0 R ds listed a w Q 94:=fun h hr=>stepP ok73 (o:=_) rfl rfl rfl [96] (by kernel_rfl) rfl rfl (fun W=>EX.nilCheck rfl) h hr
theorem s95:C73 bm om W0 R ds listed a w Q 95:=fun h hr=>stepP ok73 (o:=_) rfl rfl rfl [97] (by kernel_rfl) rfl rfl (fun W=>EX.fieldAddr rfl q_fa81_9) h hr
theorem s96 (hF:ftab0.Ok Tryz.prog W0) (hmix:Tryz.prog.follows .mixedOrders=true):C73 bm om W0 R ds listed a w Q 96:=fun h hr=>stepC ok73 (o:=_) rfl rfl rfl [95,98] (by kernel_rfl) rfl rfl (f:=119) (args:=[pt bm (om + 9)]) (fun W=>EC.closure (us:=#[]) (cs:=#[]) (vs:=[pt bm (om + 9)]) rfl en119 rfl) (fun W w L hs=>c119 hF hmix bm (om + 9) hs) h hr
theorem s97:C73 bm om W0 R ds listed a w Q 97:=fun h hr=>stepB4 ok73 rfl [86,90,94,99] (by kernel_rfl) (fun W=>rfl) bs182 (fun W=>rfl) (hI:=rfl) (by kernel_rfl) h hr
theorem s98:C73 bm om W0 R ds listed a w Q 98:=fun h hr=>stepI4 ok73 rfl (by kernel_rfl) (intK Tryz.underlying3 rfl) Tryz.underlying265 (by kernel_rfl) (by kernel_rfl) h hr
theorem s99:C73 bm om W0 R ds listed a w Q 99:=fun h hr=>stepP ok73 (o:=_) rfl rfl rfl [6] (by kernel_rfl) rfl rfl (fun W=>EX.move rfl) h hr
theorem s100:C73 bm om W0 R ds listed a w Q 100:=fun h hr=>stepP ok73 (o:=_) rfl rfl rfl [101] (by kernel_rfl) rfl rfl (fun W=>EX.assign rfl) h hr
theorem step73 (hF:ftab0.Ok Tryz.prog W0) (hmix:Tryz.prog.follows .mixedOrders=true):∀ (i:Nat),i < 101→∀ {listed:Array Bool} {a:Act} {w:World},I73 r73 bm om W0 R ds listed a w→i∈Region.ready .any r73 listed→wpOp Tryz.prog r73 Q i (fun a' w'=>I73 r73 bm om W0 R ds (listed.setIfInBounds i true) a' w') a w
 | 0,_,_,_,_,h,hr=>s0 h hr
 | 1,_,_,_,_,h,hr=>s1 h hr
 | 2,_,_,_,_,h,hr=>s2 h hr
 | 3,_,_,_,_,h,hr=>s3 h hr
 | 4,_,_,_,_,h,hr=>s4 h hr
 | 5,_,_,_,_,h,hr=>s5 hF hmix h hr
 | 6,_,_,_,_,h,hr=>s6 h hr
 | 7,_,_,_,_,h,hr=>s7 h hr
 | 8,_,_,_,_,h,hr=>s8 h hr
 | 9,_,_,_,_,h,hr=>s9 h hr
 | 10,_,_,_,_,h,hr=>s10 h hr
 | 11,_,_,_,_,h,hr=>s11 h hr
 | 12,_,_,_,_,h,hr=>s12 h hr
 | 13,_,_,_,_,h,hr=>s13 h hr
 | 14,_,_,_,_,h,hr=>s14 h hr
 | 15,_,_,_,_,h,hr=>s15 h hr
 | 16,_,_,_,_,h,hr=>s16 h hr
 | 17,_,_,_,_,h,hr=>s17 h hr
 | 18,_,_,_,_,h,hr=>s18 hF hmix h hr
 | 19,_,_,_,_,h,hr=>s19 h hr
 | 20,_,_,_,_,h,hr=>s20 h hr
 | 21,_,_,_,_,h,hr=>s21 h hr
 | 22,_,_,_,_,h,hr=>s22 h hr
 | 23,_,_,_,_,h,hr=>s23 hF hmix h hr
 | 24,_,_,_,_,h,hr=>s24 h hr
 | 25,_,_,_,_,h,hr=>s25 h hr
 | 26,_,_,_,_,h,hr=>s26 h hr
 | 27,_,_,_,_,h,hr=>s27 h hr
 | 28,_,_,_,_,h,hr=>s28 hF hmix h hr
 | 29,_,_,_,_,h,hr=>s29 h hr
 | 30,_,_,_,_,h,hr=>s30 h hr
 | 31,_,_,_,_,h,hr=>s31 h hr
 | 32,_,_,_,_,h,hr=>s32 h hr
 | 33,_,_,_,_,h,hr=>s33 hF hmix h hr
 | 34,_,_,_,_,h,hr=>s34 h hr
 | 35,_,_,_,_,h,hr=>s35 h hr
 | 36,_,_,_,_,h,hr=>s36 h hr
 | 37,_,_,_,_,h,hr=>s37 h hr
 | 38,_,_,_,_,h,hr=>s38 hF hmix h hr
 | 39,_,_,_,_,h,hr=>s39 h hr
 | 40,_,_,_,_,h,hr=>s40 h hr
 | 41,_,_,_,_,h,hr=>s41 h hr
 | 42,_,_,_,_,h,hr=>s42 h hr
 | 43,_,_,_,_,h,hr=>s43 h hr
 | 44,_,_,_,_,h,hr=>s44 h hr
 | 45,_,_,_,_,h,hr=>s45 hF hmix h hr
 | 46,_,_,_,_,h,hr=>s46 h hr
 | 47,_,_,_,_,h,hr=>s47 h hr
 | 48,_,_,_,_,h,hr=>s48 h hr
 | 49,_,_,_,_,h,hr=>s49 h hr
 | 50,_,_,_,_,h,hr=>s50 hF hmix h hr
 | 51,_,_,_,_,h,hr=>s51 h hr
 | 52,_,_,_,_,h,hr=>s52 h hr
 | 53,_,_,_,_,h,hr=>s53 h hr
 | 54,_,_,_,_,h,hr=>s54 h hr
 | 55,_,_,_,_,h,hr=>s55 hF hmix h hr
 | 56,_,_,_,_,h,hr=>s56 h hr
 | 57,_,_,_,_,h,hr=>s57 h hr
 | 58,_,_,_,_,h,hr=>s58 h hr
 | 59,_,_,_,_,h,hr=>s59 h hr
 | 60,_,_,_,_,h,hr=>s60 hF hmix h hr
 | 61,_,_,_,_,h,hr=>s61 h hr
 | 62,_,_,_,_,h,hr=>s62 h hr
 | 63,_,_,_,_,h,hr=>s63 h hr
 | 64,_,_,_,_,h,hr=>s64 h hr
 | 65,_,_,_,_,h,hr=>s65 hF hmix h hr
 | 66,_,_,_,_,h,hr=>s66 h hr
 | 67,_,_,_,_,h,hr=>s67 h hr
 | 68,_,_,_,_,h,hr=>s68 h hr
 | 69,_,_,_,_,h,hr=>s69 h hr
 | 70,_,_,_,_,h,hr=>s70 h hr
 | 71,_,_,_,_,h,hr=>s71 h hr
 | 72,_,_,_,_,h,hr=>s72 hF hmix h hr
 | 73,_,_,_,_,h,hr=>s73 h hr
 | 74,_,_,_,_,h,hr=>s74 h hr
 | 75,_,_,_,_,h,hr=>s75 h hr
 | 76,_,_,_,_,h,hr=>s76 h hr
 | 77,_,_,_,_,h,hr=>s77 h hr
 | 78,_,_,_,_,h,hr=>s78 h hr
 | 79,_,_,_,_,h,hr=>s79 h hr
 | 80,_,_,_,_,h,hr=>s80 h hr
 | 81,_,_,_,_,h,hr=>s81 h hr
 | 82,_,_,_,_,h,hr=>s82 h hr
 | 83,_,_,_,_,h,hr=>s83 hF hmix h hr
 | 84,_,_,_,_,h,hr=>s84 h hr
 | 85,_,_,_,_,h,hr=>s85 h hr
 | 86,_,_,_,_,h,hr=>s86 h hr
 | 87,_,_,_,_,h,hr=>s87 h hr
 | 88,_,_,_,_,h,hr=>s88 h hr
 | 89,_,_,_,_,h,hr=>s89 h hr
 | 90,_,_,_,_,h,hr=>s90 h hr
 | 91,_,_,_,_,h,hr=>s91 h hr
 | 92,_,_,_,_,h,hr=>s92 h hr
 | 93,_,_,_,_,h,hr=>s93 h hr
 | 94,_,_,_,_,h,hr=>s94 h hr
 | 95,_,_,_,_,h,hr=>s95 h hr
 | 96,_,_,_,_,h,hr=>s96 hF hmix h hr
 | 97,_,_,_,_,h,hr=>s97 h hr
 | 98,_,_,_,_,h,hr=>s98 h hr
 | 99,_,_,_,_,h,hr=>s99 h hr
 | 100,_,_,_,_,h,hr=>s100 h hr
 | n + 101,hn,_,_,_,_,_=>absurd hn (by omega)
def full73 (W:Wt):List (Int × Value):=[(1,slc (W.b 1) 8),(2,slc (W.b 2) 5),(3,slc (W.b 3) 2),(4,slc (W.b 4) 4)]
theorem region73 (hF:ftab0.Ok Tryz.prog W0) (hmix:Tryz.prog.follows .mixedOrders=true) {id:Nat} (h1:a.tmps.size=108) (h2:a.defers=ds) (h3:a.tmps[0]?=some (pt bm om)) (h4:a.tmps[3]?=some (fnv 118)) (h5:a.tmps[4]?=some (fnv 119)) (hs:Sts W0 w R)
  (hQ:∀ a' w' W kvs,a'.tmps.size=108→a'.defers=ds→a'.tmps[0]?=some (pt bm om)→a'.tmps[5]?=some (.map (some W.m))→kvs.Perm (full73 W)→Sts W0 w' (Mp (ienc .i64) W.m kvs::Bk (W.b 1) 188 (row1 bm om)::Bk (W.b 2) 188 (row2 bm om)::Bk (W.b 3) 188 (row3 bm om)::Bk (W.b 4) 188 (row4 bm om)::R)→Q .normal a' w') :
  (Code.region id r73 true).wp Tryz.prog Q a w:=by
 have hno:∀ k,(Array.replicate r73.size false).getD k false=false:=fun k=>not_lst (lst_replicate _ _)
 have hI:I73 r73 bm om W0 R ds (Array.replicate r73.size false) a { w with drawn:=w.drawn + 1 }:=by
  refine ⟨by simp,fun j oj hj hl=>(lst_replicate _ _ hl).elim,h1,h2,⟨0,fun _=>0⟩,[],?_,?_,fun i o d _ hl=>(lst_replicate _ _ hl).elim,?_⟩
  ·unfold es73; simp only [hno,cond_false,List.append_nil]; exact List.Perm.refl _
  ·rintro t (rfl | rfl | rfl)
   ·exact h3
   ·exact h4
   ·exact h5
  ·unfold th73; simp only [hno,cond_false,List.append_nil,List.nil_append]; exact hs.drew
 refine wp_region_any hmix (wpAny_keep (I:=I73 r73 bm om W0 R ds) (fun l a w h=>h.lsz) (fun l a w i h hi=>?_) (fun l a w h hr=>?_) _ _ _ _ hI (by unfold left; exact Nat.le_trans List.countP_le_length (by simp)))
 ·obtain ⟨o,r⟩:=ready_of h.lsz hi
  exact step73 hF hmix i (by have:=r.lt; rw [ok73.sz] at this; exact this) h hi
 ·have hall:=all_of_ready h.lsz ok73.tp hr
  rw [ok73.sz] at hall
  have hf:∀ k,k < 101→l.getD k false=true:=hall
  obtain ⟨W,kvs,e1,e2,e3,e4⟩:=h.st
  have q5:a.tmps[5]?=some (.map (some W.m)):=e3 100 _ 5 rfl (hall 100 (by decide)) rfl
  refine hQ a w W kvs h.tsz h.dfs (e2 0 (.inl rfl)) q5 ?_ ?_
  ·have:es73 W (fun j=>l.getD j false)=full73 W:=by
    unfold es73; simp only [hf 40 (by decide),hf 67 (by decide),hf 78 (by decide),hf 98 (by decide),cond_true]; rfl
   rw [← this]; exact e1
  ·unfold th73 at e4; simp only [hf 0 (by decide),hf 39 (by decide),hf 66 (by decide),hf 77 (by decide),hf 97 (by decide),cond_true] at e4
   exact e4
end
end
noncomputable section
open Go.RowKit
set_option maxRecDepth 100000
section
variable {bm om:Nat} {W0 W w:World} {R:List Thing} {g:G} {me:T Ob} {nx:Pos}
def rowOf (k:Int) (bm om:Nat):Option (Nat × List Value):=if k=1 then some (8,row1 bm om) else if k=2 then some (5,row2 bm om) else if k=3 then some (2,row3 bm om) else if k=4 then some (4,row4 bm om) else none
theorem EX.ldc {kn:Kn} {L:List Thing} {d g t' x ty ps af v} {b o:Nat} (hx:Proofs.YtadggjnohohedaaGreatDoor.ev kn x=some (.pointer (some ⟨b,o,none⟩))) (hc:∀ w,Sts W0 w L→w.cell? ⟨b,o,none⟩=some v) (h1:One Tryz.prog t'):EX Tryz.prog W0 kn L ⟨d,.load t' x,ty,ps,af,g⟩ v:=fun ρ w he hs=>by
 have hrd:=hc w hs
 simp only [execOp,he x _ hx,Sem.run_bind,Instr.loadAt,Instr.sureAddr,loadVar,h1 w,Result.andThen_ok,Sem.run_pure,Bool.false_eq_true,if_false,run_load,hrd]
theorem lookV_perm {A B:List (Int × Value)} (h:A.Perm B) (hn:(B.map (·.1)).Nodup) (k:Int):Proofs.YtadggjnohohedaaGreatDoor.look A k=Proofs.YtadggjnohohedaaGreatDoor.look B k:=by
 have hA:(A.map (·.1)).Nodup:=(h.map (·.1)).nodup_iff.2 hn
 have key:∀ {L:List (Int × Value)},(L.map (·.1)).Nodup→∀ v,Proofs.YtadggjnohohedaaGreatDoor.look L k=some v↔(k,v)∈L:=by
  intro L
  induction L with
  | nil=>intro _ v; simp [Proofs.YtadggjnohohedaaGreatDoor.look]
  | cons p r ih =>
   intro hL v
   simp only [List.map_cons,List.nodup_cons] at hL
   have:=ih hL.2 v
   unfold Proofs.YtadggjnohohedaaGreatDoor.look at this ⊢
   simp only [List.find?_cons]
   by_cases e:k=p.1
   ·subst e
    simp only [decide_true,Option.map_some,Option.some.injEq,List.mem_cons]
    refine ⟨fun h=>.inl (by rw [← h]),?_⟩
    rintro (h | h)
    ·rw [← h]
    ·exact (hL.1 (List.mem_map.2 ⟨_,h,rfl⟩)).elim
   ·simp only [decide_eq_false e,List.mem_cons]
    rw [this]
    refine ⟨.inr,?_⟩
    rintro (h | h)
    ·exact (e (by rw [← h])).elim
    ·exact h
 cases hb:Proofs.YtadggjnohohedaaGreatDoor.look B k with
 | some v=>exact (key hA v).2 (h.mem_iff.2 ((key hn v).1 hb))
 | none =>
  cases ha:Proofs.YtadggjnohohedaaGreatDoor.look A k with
  | none=>rfl
  | some v=>rw [(key hn v).2 (h.mem_iff.1 ((key hA v).1 ha))] at hb; cases hb
theorem zv182:ZV Tryz.prog 182 (.slice none 0 0):=by unfold ZV; kernel_rfl
theorem f73_calls (hF:ftab0.Ok Tryz.prog W0) (hmix:Tryz.prog.follows .mixedOrders=true) {k:Int} (hs:Sts W0 w R) (hcell:∀ w,Sts W0 w R→w.cell? ⟨bm,om,none⟩=some (.int .i64 k)) :
  Calls Tryz.prog 73 [pt bm om].toArray w fun e w'=>(∃ b n xs,rowOf k bm om=some (n,xs)∧e=.returned (slc b n)∧Sts W0 w' (Bk b 188 xs::R))∨(rowOf k bm om=none∧e=.returned (.slice none 0 0)∧Sts W0 w' R):=by
 refine calls_of_wp Tryz.func73 rfl ?_
 refine (show GC Tryz.prog W0 Tryz.f73.ntmps [] _ (bodyPost Tryz.prog Tryz.f73 _) (argKn 0 [pt bm om]) R from ?_) _ _ (has_enter [pt bm om] (Nat.le_of_ble_eq_true rfl)) hs
 rw [show Tryz.f73.ntmps=108 from Tryz.ntmps73]
 refine GC.seq (GC.region (L.v (EX.assign rfl) rfl rfl rfl (GL.nil (GE.seq ?_))))
 refine GC.seq (GC.region (L.v (EX.assign rfl) rfl rfl rfl (GL.nil (GE.seq ?_))))
 refine GC.seq (GC.region (L.v (EX.assign rfl) rfl rfl rfl (GL.nil (GE.seq ?_))))
 refine GC.seq ?_
 intro a w ha hs
 refine region73 (bm:=bm) (om:=om) (ds:=[]) hF hmix ha.size ha.defers (ha.known 0 _ rfl) (ha.known 3 _ rfl) (ha.known 4 _ rfl) hs ?_
 intro a' w' W kvs h1 h2 h3 h4 h5 h6
 have ha':Has 108 [] [(0,pt bm om),(5,.map (some W.m))] a':=by
  refine ⟨h1,h2,fun d v hd=>?_⟩
  simp only [Proofs.YtadggjnohohedaaGreatDoor.lk] at hd
  cases e0:Nat.beq 0 d with
  | true=>rw [e0] at hd; simp only [cond_true,Option.some.injEq] at hd; have:=Nat.eq_of_beq_eq_true e0; subst this; subst hd; exact h3
  | false =>
   rw [e0] at hd
   cases e5:Nat.beq 5 d with
   | true=>rw [e5] at hd; simp only [cond_true,cond_false,Option.some.injEq] at hd; have:=Nat.eq_of_beq_eq_true e5; subst this; subst hd; exact h4
   | false=>rw [e5] at hd; cases hd
 refine (show GC Tryz.prog W0 108 [] _ _ [(0,pt bm om),(5,.map (some W.m))] (Mp (ienc .i64) W.m kvs::Bk (W.b 1) 188 (row1 bm om)::Bk (W.b 2) 188 (row2 bm om)::Bk (W.b 3) 188 (row3 bm om)::Bk (W.b 4) 188 (row4 bm om)::R) from ?_) a' w' ha' h6
 have hlk:Proofs.YtadggjnohohedaaGreatDoor.look kvs k=Proofs.YtadggjnohohedaaGreatDoor.look (full73 W) k:=lookV_perm h5 (by simp [full73]) k
 refine GC.seq (GC.region ?_)
 refine L.v (EX.move rfl) rfl rfl rfl ?_
 refine L.v (EX.move rfl) rfl rfl rfl ?_
 refine L.v (EX.nilCheck rfl) rfl rfl rfl ?_
 refine L.v (EX.fieldAddr rfl q_fa81_0) rfl rfl rfl ?_
 refine L.v (EX.ldc (v:=.int .i64 k) (b:=bm) (o:=om + 0) rfl (fun w h=>hcell w h.tail.tail.tail.tail.tail) (One.of Tryz.underlying3 rfl)) rfl rfl rfl ?_
 refine L.v (EX.lookup (enc:=ienc .i64) (a:=k) rfl rfl .here (intK Tryz.underlying3 rfl) Tryz.underlying265 zv182) rfl rfl rfl ?_
 refine L.v (EX.assign rfl) rfl rfl rfl ?_
 refine GL.nil (GE.seq ?_)
 refine GC.ret (GE.out rfl rfl (fun w h=>?_))
 rw [hlk]
 have hh:=h.tail
 unfold rowOf full73 Proofs.YtadggjnohohedaaGreatDoor.look
 by_cases k1:k=1
 ·subst k1; left; exact ⟨W.b 1,8,_,rfl,rfl,hh.perm ((List.Perm.cons _ (List.Perm.refl _))) |>.p1.tail.p1.tail.p1.tail⟩
 by_cases k2:k=2
 ·subst k2; left; exact ⟨W.b 2,5,_,rfl,rfl,hh.tail.p1.tail.p1.tail⟩
 by_cases k3:k=3
 ·subst k3; left; exact ⟨W.b 3,2,_,rfl,rfl,hh.tail.tail.p1.tail⟩
 by_cases k4:k=4
 ·subst k4; left; exact ⟨W.b 4,4,_,rfl,rfl,hh.tail.tail.tail⟩
 ·right
  refine ⟨by simp [k1,k2,k3,k4],by simp [k1,k2,k3,k4,lookV],hh.tail.tail.tail.tail⟩
theorem den_row {i:Pos} {oo:Nat} (h:g.rho i=some (bm,oo)) (o k n:Nat) (l:List SV) (hk:fieldsOf k i o=some (n,l)):∃ xs,rowOf k bm o=some (n,xs)∧dens (den1 g) l=some xs:=by
 unfold fieldsOf at hk
 split at hk
 all_goals first | (injection hk with hk; injection hk with h1 h2; subst h1; subst h2; exact ⟨_,rfl,by simp [app,fd1,fd2,fdN,fdI,fdT,uu,dens,den1,den0,h,row1,row2,row3,row4,c1,c2,cN,cI,cT,pt]⟩) | cases hk
theorem fields73_ok (hF:ftab0.Ok Tryz.prog W0) (hmix:Tryz.prog.follows .mixedOrders=true):BSnd Tryz.prog W0 73 fields73:=by
 refine ⟨en73,fun vs me nx v me' nx' h W R g xs hf hx hm=>?_,fun vs me nx v me' nx' h=>?_⟩
 ·unfold fields73 at h
  split at h
  ·rename_i i o
   split at h
   ·rename_i cs hc
    split at h
    ·rename_i k hn
     obtain ⟨x,us,d1,d2,rfl⟩:=dens_cons hx
     have:us=[]:=by simpa [dens] using d2.symm
     subst this
     obtain ⟨q,q1,rfl⟩:=den_p d1
     have hcell:∀ w,Sts W0 w (mem g me++R)→w.cell? ⟨q.1,o,none⟩=some (.int .i64 (k:Int)):=by
      intro w hw
      obtain ⟨q',xs,e1,e2,e3⟩:=cells_at hw hc
      rw [q1] at e1; obtain rfl:=Option.some.inj e1
      refine e3 o _ ?_
      obtain ⟨x,f1,f2⟩:=dens_get e2 (show cs[o]?=some _ by rw [← nth_eq]; exact hn)
      rw [f1,← f2]; rfl
     refine (f73_calls hF hmix hm hcell).mono ?_
     rintro e w' (⟨b,n,xs,r1,rfl,r3⟩ | ⟨r1,rfl,r3⟩)
     ·split at h
      ·rename_i n' l hfo
       injection h with h1 h2 h3; subst h1; subst h2; subst h3
       obtain ⟨ys,y1,y2⟩:=den_row (show g.rho i=some (q.1,q.2) from q1) o k n' l hfo
       have hr:rowOf (k:Int) q.1 o=rowOf k q.1 o:=rfl
       rw [y1] at r1; injection r1 with r1; injection r1 with r1 r2; subst r1; subst r2
       have hlen:ys.length=n' * 5:=by
        rcases k with _ | _ | _ | _ | _ | k <;> first | (injection hfo with hfo; injection hfo with hfo1 hfo2; subst hfo1; injection y1 with y1; injection y1 with _ y1; subst y1; rfl) | cases hfo
       have h6:=r3.toRw (e:=188) (s:=5) (n:=n') hlen (by
        rcases k with _ | _ | _ | _ | _ | k <;> first | (injection hfo with hfo; injection hfo with hfo1 hfo2; subst hfo1; decide) | cases hfo)
       exact ⟨g.set nx (b,n'),slc b n',rfl,G.set_ext _ _ _,G.set_fresh hf _,by rw [Pos.nat_succ]; omega,den_sr (G.set_at g nx _),new_r hf (get_nx hm hf) y2 h6⟩
      ·rename_i hfo
       exfalso
       rcases k with _ | _ | _ | _ | _ | k
       all_goals first | (cases hfo; done) | skip
       ·simp [rowOf] at r1
       ·have h1:((k + 1 + 1 + 1 + 1 + 1:Nat):Int)≠1∧((k + 1 + 1 + 1 + 1 + 1:Nat):Int)≠2∧((k + 1 + 1 + 1 + 1 + 1:Nat):Int)≠3∧((k + 1 + 1 + 1 + 1 + 1:Nat):Int)≠4:=by omega
        unfold rowOf at r1
        rw [if_neg h1.1,if_neg h1.2.1,if_neg h1.2.2.1,if_neg h1.2.2.2] at r1
        cases r1
     ·split at h
      ·rename_i n' l hfo
       obtain ⟨ys,y1,y2⟩:=den_row (show g.rho i=some (q.1,q.2) from q1) o k n' l hfo
       rw [r1] at y1; cases y1
      ·injection h with h1 h2 h3; subst h1; subst h2; subst h3
       exact ⟨g,_,rfl,G.ext.refl _ _,hf,Nat.le_refl _,rfl,r3⟩
    ·cases h
   ·cases h
  ·cases h
 ·unfold fields73 at h
  split at h
  ·split at h
   ·split at h
    ·split at h <;> cases h
    ·cases h
   ·cases h
  ·cases h
end
end
noncomputable section
open Go.RowKit
def Hp (b:Nat) (o:Obj):Thing where
 is W F:=W.heap[b]?=some o∧∀ x,F x↔x=b
 lt W F h x hx:=by
  rw [(h.2 x).1 hx]
  rcases Nat.lt_or_ge b W.heap.size with h2 | h2
  ·exact h2
  ·have:=h.1; rw [Array.getElem?_eq_none h2] at this; cases this
 keep W W' F h e:=⟨(e b ((h.2 b).2 rfl)).trans h.1,h.2⟩
section
variable {P:Program} {W0 W w:World} {L L' R:List Thing} {b:Nat} {o o':Obj} {kn:Kn} {N:Nat} {ds:List Deferred} {ops:Array Oper} {Q:Exit→Act→World→Prop} {r:List Oper} {F:Fence} {n:Nat}
theorem Sts.hp (h:Sts W0 W (Hp b o::L)):W.heap[b]?=some o:=by obtain ⟨A,hA⟩:=h.fact; exact hA.1
theorem Sts.newHp (o:Obj) (h:Sts W0 W L):Sts W0 (W.alloc o) (Hp W.heap.size o::L) :=
 h.more ((Below.refl _ _).alloc (Nat.le_refl _) _) (A:=fun x=>x=W.heap.size) ⟨heap_alloc_new W _,fun x=>Iff.rfl⟩ (fun b e=>by rw [e]; exact Nat.le_refl _)
theorem Sts.setHp (h:Sts W0 W (Hp b o::L)) (o':Obj):Sts W0 (W.putObj b o') (Hp b o'::L):=by
 have hb:=Sts.hp h
 have hlt:b < W.heap.size:=by
  rcases Nat.lt_or_ge b W.heap.size with h2 | h2
  ·exact h2
  ·rw [Array.getElem?_eq_none h2] at hb; cases hb
 refine h.turn (A:=fun x=>x=b) ⟨rfl,rfl,rfl⟩ (by simp) (fun F hF=>⟨⟨by simp [World.putObj,hlt],fun x=>Iff.rfl⟩,fun x hx=>.inl ((hF.2 x).2 hx),fun x hx hn=>?_⟩)
 have hne:b≠x:=fun e=>hn ((hF.2 x).2 e.symm)
 simp [World.putObj,Array.getElem?_setIfInBounds_ne hne]
theorem EX.min2 {d g ty ps af x y k m n r tys} (hx:Proofs.YtadggjnohohedaaGreatDoor.ev kn x=some (.int k m)) (hy:Proofs.YtadggjnohohedaaGreatDoor.ev kn y=some (.int k n)) (hr:(if n < m then n else m)=r):EX P W0 kn L ⟨d,.call { callee:=.builtin .min,args:=#[x,y],argTypes:=tys },ty,ps,af,g⟩ (.int k r):=fun ρ w he hs=>by
 subst hr; simp [execOp,resolve,invoke,builtin,Builtin.min_,Builtin.min2,he x _ hx,he y _ hy]
theorem EX.slice3 {d g ty ps af T e x y z a m c} {i:TypeInfo} (hx:Proofs.YtadggjnohohedaaGreatDoor.ev kn x=some (.slice (some a) m c)) (hy:Proofs.YtadggjnohohedaaGreatDoor.ev kn y=some (.int .i64 (m:Nat))) (hz:Proofs.YtadggjnohohedaaGreatDoor.ev kn z=some (.int .i64 (m:Nat))) (hT:P.underlying T=some (.slice e)) (hi:P.info? e=some i) (hm:m≤c) (h0:0 < m) :
  EX P W0 kn L ⟨d,.slice T x none (some y) (some z),ty,ps,af,g⟩ (.slice (some (a.add 0)) m m):=fun ρ w he hs=>by
 have hne:m≠0:=by omega
 simp only [execOp,he x _ hx,Option.map_none,Option.map_some,he y _ hy,he z _ hz,Sem.run_bind,Instr.sliceAt,Instr.slice,underlying,run_program,Result.andThen_ok,hT,Sem.run_pure,Instr.sliceBounds,Instr.sliceBound,asIntOf,sizeOf,typeInfo,hi]
 simp [hm,hne]
theorem EX.sliceLo {d g ty ps af T e x y a m c} {i:TypeInfo} (hx:Proofs.YtadggjnohohedaaGreatDoor.ev kn x=some (.slice (some a) m c)) (hy:Proofs.YtadggjnohohedaaGreatDoor.ev kn y=some (.int .i64 (m:Nat))) (hT:P.underlying T=some (.slice e)) (hi:P.info? e=some i) :
  ∃ a' c',EX P W0 kn L ⟨d,.slice T x (some y) none none,ty,ps,af,g⟩ (.slice a' 0 c'):=by
 refine ⟨(if c=m then some a else (some a).map (·.add (m * i.size))),c - m,fun ρ w he hs=>?_⟩
 simp only [execOp,he x _ hx,Option.map_none,Option.map_some,he y _ hy,Sem.run_bind,Instr.sliceAt,Instr.slice,underlying,run_program,Result.andThen_ok,hT,Sem.run_pure,Instr.sliceBounds,Instr.sliceBound,asIntOf,sizeOf,typeInfo,hi]
 simp
theorem EF.cvb {d g ty ps af S T e x} {s:ByteArray} (hx:Proofs.YtadggjnohohedaaGreatDoor.ev kn x=some (.string s)) (h1:P.underlying S=some .string) (h2:P.underlying T=some (.slice e)) (h3:P.underlying e=some (.int .u8)) :
  EF P W0 kn L ⟨d,.convert S T x,ty,ps,af,g⟩ (fun q:Nat × Nat=>.slice (some ⟨q.1,0,none⟩) s.size q.2) (fun q=>Ro q.1 (s.data.toList.map fun c=>Value.int .u8 c.toNat)::L) (fun q=>s.size≤q.2):=fun ρ w he hs=>by
 refine ⟨(w.heap.size,grownCap w s.size 0 e),Lib.bytesWorld w e s,?_,?_,?_⟩
 ·exact grownCap_ge w s.size 0 e
 ·simp only [execOp,he x _ hx,Sem.run_bind,Lib.run_convert_string_bytes w S T e s h1 h2 h3,Result.andThen_ok]; rfl
 ·have hbel:Below w.heap.size w (Lib.bytesWorld w e s):=by
   refine ⟨rfl,rfl,rfl,?_,fun b hb=>Lib.bytesWorld_at_old w e _ b hb⟩
   rw [Lib.bytesWorld_size]; omega
  refine hs.more hbel (A:=fun x=>x=w.heap.size) ⟨⟨_,_,_,Lib.bytesWorld_at_new w e _,fun j v hv=>?_⟩,fun x=>Iff.rfl⟩ (fun b e=>by rw [e]; exact Nat.le_refl _)
  have hj:j < s.data.toList.length:=by
   rcases Nat.lt_or_ge j s.data.toList.length with h' | h'
   ·exact h'
   ·rw [List.getElem?_eq_none (by simpa using h')] at hv; cases hv
  rw [List.getElem?_map,List.getElem?_eq_getElem hj] at hv
  simp only [Option.map_some,Option.some.injEq] at hv
  subst hv
  unfold Lib.bytesCells
  rw [Array.getElem?_append_left (by simpa using hj)]
  simp at hj
  simp [hj]
theorem Sts.ro {xs:List Value} (h:Sts W0 W L) (p:Pick L (Ro b xs) R):∀ j v,xs[j]?=some v→W.cell? ⟨b,j,none⟩=some v:=by
 have h1:=h.perm p.perm
 obtain ⟨A,hA⟩:=h1.fact
 obtain ⟨⟨C,e,f,hb,hc⟩,_⟩:=hA
 intro j v hv
 simp [World.cell?,hb,hc j v hv]
theorem EX.cvs {d g ty ps af S T e x c o} {s:ByteArray} (hx:Proofs.YtadggjnohohedaaGreatDoor.ev kn x=some (.slice (some ⟨b,o,none⟩) s.size c)) (ho:o=0) (p:Pick L (Ro b (s.data.toList.map fun c=>Value.int .u8 c.toNat)) R) (h1:P.underlying S=some (.slice e)) (h2:P.underlying e=some (.int .u8)) (h3:P.underlying T=some .string) :
  EX P W0 kn L ⟨d,.convert S T x,ty,ps,af,g⟩ (.string s):=fun ρ w he hs=>by
 subst ho
 have hrd:=Sts.ro hs p
 have hr:=run_convert_bytes_arg (P:=P) w S e h1 h2 b 0 s.size c (s.data.toList.map fun c=>(c.toNat:Int)) (by rw [List.length_map,Array.length_toList]; rfl) (fun i hi=>by
  have hi':i < s.data.toList.length:=by rw [Array.length_toList]; exact hi
  rw [Nat.zero_add,hrd i (.int .u8 (s.data.toList[i].toNat)) (by rw [List.getElem?_map,List.getElem?_eq_getElem hi']; rfl)]
  rw [List.getD,List.getElem?_map,List.getElem?_eq_getElem hi']; rfl) T h3
 have hst:strOfNums (s.data.toList.map fun c=>(c.toNat:Int))=s:=by
  unfold strOfNums
  simp [Function.comp_def]
 rw [hst] at hr
 simp only [execOp,he x _ hx,Sem.run_bind,hr,Result.andThen_ok]; rfl
theorem GL.v_ {o:Oper} {v:Value} {d:Nat} (hx:EX P W0 kn L o v) (hd:o.dst=some d) (hN:Nat.blt d N=true) (hg:o.guard=none) (h:GL P W0 N ds ops Q r ((d,v)::kn) L):GL P W0 N ds ops Q (o::r) kn L:=GL.val hx hd hN (.free hg) h
theorem GL.u_ {o:Oper} {T:List Thing} (hx:EU P W0 kn L o T) (hd:o.dst=none) (hg:o.guard=none) (h:GL P W0 N ds ops Q r kn T):GL P W0 N ds ops Q (o::r) kn L:=GL.do hx hd (.free hg) h
theorem GL.sliceLo {d ty ps af T e x y a m c} {g:Option (Nat × Bool)} {i:TypeInfo} (hx:Proofs.YtadggjnohohedaaGreatDoor.ev kn x=some (.slice (some a) m c)) (hy:Proofs.YtadggjnohohedaaGreatDoor.ev kn y=some (.int .i64 (m:Nat))) (hT:P.underlying T=some (.slice e)) (hi:P.info? e=some i) {d':Nat} (hd:d=some d') (hN:Nat.blt d' N=true) (hg:g=none)
  (h:∀ a' c',GL P W0 N ds ops Q r ((d',.slice a' 0 c')::kn) L):GL P W0 N ds ops Q (⟨d,.slice T x (some y) none none,ty,ps,af,g⟩::r) kn L:=by
 obtain ⟨a',c',hh⟩:=EX.sliceLo (W0:=W0) (L:=L) (d:=d) (g:=g) (ty:=ty) (ps:=ps) (af:=af) hx hy hT hi
 exact GL.val hh hd hN (.free hg) (h a' c')
def wpLI (F:Fence) (n:Nat) (P:Program) (ops:Array Oper) (Q:Exit→Act→World→Prop):List Oper→Act→World→Prop
 | [],a,w=>Q .normal a w
 | o::r,a,w=>Region.wanted o (yielded ops a.tmps)=true∧o.wpIn F n P a w (wpLI F n P ops Q r) Q
theorem wpOpsIn_of {F:Fence}:∀ (r:List Oper) (k:Nat) (a:Act) (w:World),(∀ j,r[j]?=ops[k + j]?)→wpLI F n P ops Q r a w→wpOpsIn F n P ops Q (List.range' k r.length) a w
 | [],k,a,w,hr,h=>h
 | o::r,k,a,w,hr,h=>by
  have h0:ops[k]?=some o:=by have:=hr 0; simpa using this.symm
  simp only [List.length_cons,List.range'_succ,wpOpsIn,h0]
  have hr':∀ j,r[j]?=ops[k + 1 + j]?:=fun j=>by have:=hr (j + 1); rw [show k + 1 + j=k + (j + 1) by omega]; simpa using this
  rw [if_pos h.1]
  refine ⟨h.2.1,?_⟩
  have h2:=h.2.2
  generalize (o.semAt F.round a.eval).run P w=q at h2 ⊢
  cases q with
  | ok nx w' =>
   cases nx <;> simp only [Oper.uponIn] at h2 ⊢
   case value v=>exact wpOpsIn_of r (k + 1) _ _ hr' h2
   case skip=>exact wpOpsIn_of r (k + 1) _ _ hr' h2
   case defer d=>exact wpOpsIn_of r (k + 1) _ _ hr' h2
   case enter f args =>
    refine ⟨h2.1,h2.2.mono fun e w'' he=>?_⟩
    cases e with
    | returned v=>exact wpOpsIn_of r (k + 1) _ _ hr' he
    | panicked ch=>exact he
    | outgrown=>exact he
   case row rr args =>
    refine ⟨h2.1,fun c cs hroom=>?_⟩
    obtain ⟨v,w3,h3,h4⟩:=h2.2 c cs hroom
    exact ⟨v,w3,wpOpsIn_of r (k + 1) _ _ hr' h3,h4⟩
   case round l f tmps assign body =>
    refine ⟨h2.1,h2.2.mono fun e w'' he=>?_⟩
    cases e with
    | returned v=>exact wpOpsIn_of r (k + 1) _ _ hr' he
    | panicked ch=>exact he
    | outgrown=>exact he
  | halt x w'=>cases x <;> simp only [Oper.uponIn] at h2 ⊢ <;> exact h2
theorem wpIn_region_L {id:Nat} {a:Act} (h:wpLI F n P ops Q ops.toList a w):(Code.region id ops false).wpIn F n P Q a w:=by
 refine wpIn_region ?_
 have:=wpOpsIn_of (P:=P) (Q:=Q) (F:=F) (n:=n) ops.toList 0 a w (fun j=>by simp) h
 rw [List.range_eq_range']
 simpa using this
def GLI (F:Fence) (n:Nat) (P:Program) (W0:World) (N:Nat) (ds:List Deferred) (ops:Array Oper) (Q:Exit→Act→World→Prop) (l:List Oper) (kn:Kn) (L:List Thing):Prop :=
 ∀ a w,Has N ds kn a→Sts W0 w L→wpLI F n P ops Q l a w
theorem GLI.nil (h:∀ a w,Has N ds kn a→Sts W0 w L→Q .normal a w):GLI F n P W0 N ds ops Q [] kn L:=h
theorem GLI.val {o:Oper} {v:Value} {d:Nat} (hF:∀ f,F.fn f) (hnd:∀ c,o.op≠.defer c) (hx:EX P W0 kn L o v) (hd:o.dst=some d) (hN:Nat.blt d N=true) (hg:o.guard=none) (h:GLI F n P W0 N ds ops Q r ((d,v)::kn) L):GLI F n P W0 N ds ops Q (o::r) kn L:=by
 intro a w ha hs
 refine ⟨wanted_none hg _,fun f _=>hF f,?_⟩
 rw [Oper.semAt_eq _ _ _ hnd,hx a.eval w ha.ev hs]
 show wpLI F n P ops Q r (a.put o.dst v) w
 rw [hd]; exact h _ _ (ha.put d v hN) hs
theorem GLI.eff {α:Type} {o:Oper} {v:α→Value} {T:α→List Thing} {C:α→Prop} {d:Nat} (hF:∀ f,F.fn f) (hnd:∀ c,o.op≠.defer c) (hx:EF P W0 kn L o v T C) (hd:o.dst=some d) (hN:Nat.blt d N=true) (hg:o.guard=none)
  (h:∀ x,C x→GLI F n P W0 N ds ops Q r ((d,v x)::kn) (T x)):GLI F n P W0 N ds ops Q (o::r) kn L:=by
 intro a w ha hs
 refine ⟨wanted_none hg _,fun f _=>hF f,?_⟩
 obtain ⟨x,w',h1,h2,h3⟩:=hx a.eval w ha.ev hs
 rw [Oper.semAt_eq _ _ _ hnd,h2]
 show wpLI F n P ops Q r (a.put o.dst (v x)) w'
 rw [hd]; exact h x h1 _ _ (ha.put d _ hN) h3
theorem GLI.do {o:Oper} {T:List Thing} (hF:∀ f,F.fn f) (hnd:∀ c,o.op≠.defer c) (hx:EU P W0 kn L o T) (hd:o.dst=none) (hg:o.guard=none) (h:GLI F n P W0 N ds ops Q r kn T):GLI F n P W0 N ds ops Q (o::r) kn L:=by
 intro a w ha hs
 refine ⟨wanted_none hg _,fun f _=>hF f,?_⟩
 obtain ⟨w',h2,h3⟩:=hx a.eval w ha.ev hs
 rw [Oper.semAt_eq _ _ _ hnd,h2]
 show wpLI F n P ops Q r (a.put o.dst undef) w'
 rw [hd]; exact h _ _ (ha.put0 _) h3
theorem GLI.yield {σ:Type} {C:σ→Prop} {d t l:Nat} {xs:List Operand} {tys:Array TypeId} {ty ps af} {vs:List Value} {T:σ→List Thing} {v:Value} (hF:∀ f,F.fn f) (hdp:F.depth=none) (ht:Proofs.YtadggjnohohedaaGreatDoor.lk kn t=some (.func (.yield l) #[] #[])) (hx:evs kn xs=some vs) (hN:Nat.blt d N=true)
  (hY:∀ w,Sts W0 w L→YieldAt F (n - 1) P l vs.toArray w fun e w'=>∃ x,C x∧e=.returned v∧Sts W0 w' (T x)) (h:∀ x,C x→GLI F n P W0 N ds ops Q r ((d,v)::kn) (T x)):GLI F n P W0 N ds ops Q (⟨some d,.call { callee:=.value (.tmp t),args:=xs.toArray,argTypes:=tys },ty,ps,af,none⟩::r) kn L:=by
 intro a w ha hs
 refine ⟨wanted_none rfl _,fun f _=>hF f,?_⟩
 obtain ⟨fn,tmps,assign,body,h1,h2⟩:=hY w hs
 have e1:xs.toArray.map a.eval=vs.toArray:=by rw [← evs_spec ha.ev hx]; simp
 have e0:a.eval (.tmp t)=.func (.yield l) #[] #[]:=ha.ev _ _ ht
 rw [Oper.semAt_eq _ _ _ (fun c hc=>by cases hc)]
 have hr:(execOp a.eval ⟨some d,.call { callee:=.value (.tmp t),args:=xs.toArray,argTypes:=tys },ty,ps,af,none⟩).run P w=.ok (.round l fn tmps assign body) w:=by
  simp only [execOp,resolve,e0,e1,Deferred.ofValue,Sem.run_bind,Sem.run_pure,Result.andThen_ok,invoke,Array.empty_append,Array.append_empty,h1]
 rw [hr]
 refine ⟨fun hd=>(by rw [hdp] at hd; cases hd),h2.mono ?_⟩
 rintro e w' ⟨x,hx,rfl,hs'⟩
 exact h x hx _ _ (ha.put d v hN) hs'
end
end
noncomputable section
open Go.RowKit
set_option maxRecDepth 100000
section
variable {P:Program} {W0 W w:World} {L L' R X:List Thing} {kn:Kn} {N:Nat} {ds:List Deferred} {Q:Exit→Act→World→Prop}
theorem GC.loop2 {c:Code} (h:GC P W0 N ds c (Exit.then (c.wp P (Exit.then (fun _ _=>False) Q)) Q) kn L):GC P W0 N ds (.loop c) Q kn L:=fun a w ha hs=>wp_loop_rounds 2 (h a w ha hs)
theorem GE.again {c:Code} {Q1:Exit→Act→World→Prop} (h:GC P W0 N ds c Q1 kn L):GE W0 N ds .normal (Exit.then (c.wp P Q1) Q) kn L:=h
theorem i5:∃ i,Tryz.prog.info? 5=some i:=⟨_,rfl⟩
theorem f155_run {σ:Type} {C:σ→Prop} {X':σ→List Thing} {l b2 b3 m:Nat} {a0:Addr} {n cap:Nat} {size:Int} (hn:0 < n) (hcap:n≤cap) (hsz:(n:Int)≤size)
  (hY:∀ w,Sts W0 w (Bk b2 248 [.slice (some a0) n cap]::Bk b3 3 [.int .i64 size]::X)→YieldAt Fence.wide m Tryz.prog l #[.int .i64 0,.slice (some (a0.add 0)) n n] w fun e w'=>∃ x,C x∧e=.returned (.bool true)∧Sts W0 w' (Bk b2 248 [.slice (some a0) n cap]::Bk b3 3 [.int .i64 size]::X' x))
  (hs:Sts W0 w (Bk b2 248 [.slice (some a0) n cap]::Bk b3 3 [.int .i64 size]::X)) :
  Calls Tryz.prog 155 [.func (.yield l) #[] #[],.pointer (some ⟨b2,0,none⟩),.pointer (some ⟨b3,0,none⟩)].toArray w fun e w'=>∃ x,C x∧e=.returned (.tuple #[])∧Sts W0 w' (X' x):=by
 obtain ⟨i,hi⟩:=i5
 have hmin:(if (n:Int) < size then (n:Int) else size)=(n:Int):=by split <;> omega
 refine calls_of_wp Tryz.func155 rfl ?_
 refine (show GC Tryz.prog W0 Tryz.f155.ntmps [] _ (bodyPost Tryz.prog Tryz.f155 _) (argKn 0 [.func (.yield l) #[] #[],.pointer (some ⟨b2,0,none⟩),.pointer (some ⟨b3,0,none⟩)]) _ from ?_) _ _ (has_enter [_,_,_] (Nat.le_of_ble_eq_true rfl)) hs
 rw [show Tryz.f155.ntmps=26 from Tryz.ntmps155]
 refine GC.seq (GC.region (GL.v_ (EX.assign rfl) rfl rfl rfl (GL.nil (GE.seq ?_))))
 refine GC.block (GC.loop2 ?_)
 refine GC.seq (GC.seq (GC.region ?_))
 refine GL.v_ (EX.ld rfl rfl (One.of Tryz.underlying248 rfl)) rfl rfl rfl ?_
 refine GL.v_ (EX.lenL rfl Tryz.underlying248) rfl rfl rfl ?_
 refine GL.v_ (EX.gtr rfl rfl) rfl rfl rfl ?_
 refine GL.nil (GE.seq ?_)
 refine GC.condT rfl (by simp; omega) (GC.skip (GE.seq ?_))
 refine GC.seq (GC.block (GC.seq (GC.region ?_)))
 refine GL.v_ (EX.ld rfl rfl (One.of Tryz.underlying3 rfl)) rfl rfl rfl ?_
 refine GL.v_ (EX.ld rfl rfl (One.of Tryz.underlying248 rfl)) rfl rfl rfl ?_
 refine GL.v_ (EX.lenL rfl Tryz.underlying248) rfl rfl rfl ?_
 refine GL.v_ (EX.min2 rfl rfl hmin) rfl rfl rfl ?_
 refine GL.v_ (EX.assign rfl) rfl rfl rfl ?_
 refine GL.nil (GE.seq ?_)
 refine GC.seq (GC.seq ?_)
 intro a w ha hs
 refine (wpIn_wide (n:=m + 1)).1 (wpIn_region_L ?_)
 refine (show GLI Fence.wide (m + 1) Tryz.prog W0 26 [] _ _ _ _ _ from ?_) a w ha hs
 have hF:∀ f,Fence.wide.fn f:=fun _=>trivial
 refine GLI.val hF (fun c hc=>by cases hc) (EX.move rfl) rfl rfl rfl ?_
 refine GLI.val hF (fun c hc=>by cases hc) (EX.move rfl) rfl rfl rfl ?_
 refine GLI.val hF (fun c hc=>by cases hc) (EX.ld rfl rfl (One.of Tryz.underlying248 rfl)) rfl rfl rfl ?_
 refine GLI.val hF (fun c hc=>by cases hc) (EX.move rfl) rfl rfl rfl ?_
 refine GLI.val hF (fun c hc=>by cases hc) (EX.move rfl) rfl rfl rfl ?_
 refine GLI.val hF (fun c hc=>by cases hc) (EX.slice3 rfl rfl rfl Tryz.underlying248 hi hcap hn) rfl rfl rfl ?_
 refine GLI.yield (vs:=[.int .i64 0,.slice (some (a0.add 0)) n n]) (l:=l) hF rfl rfl rfl rfl hY (fun x hx=>?_)
 refine GLI.val hF (fun c hc=>by cases hc) (EX.not rfl) rfl rfl rfl ?_
 refine GLI.nil ?_
 intro a w ha hs
 refine (show GC Tryz.prog W0 26 [] _ _ _ _ from ?_) a w ha hs
 refine GC.condF rfl rfl (GC.skip (GE.seq ?_))
 refine GC.region ?_
 refine GL.v_ (EX.ld rfl rfl (One.of Tryz.underlying248 rfl)) rfl rfl rfl ?_
 refine GL.v_ (EX.move rfl) rfl rfl rfl ?_
 refine GL.sliceLo rfl rfl Tryz.underlying248 hi rfl rfl rfl (fun a' c'=>?_)
 refine GL.u_ (EU.st rfl rfl (show SZ Tryz.prog 248 1 by unfold SZ; kernel_rfl) rfl rfl rfl) rfl rfl ?_
 refine GL.nil (GE.block (GE.seq ?_))
 refine GC.region ?_
 refine GL.v_ (EX.move rfl) rfl rfl rfl ?_
 refine GL.v_ (EX.add rfl rfl rfl) rfl rfl rfl ?_
 refine GL.v_ (EX.assign rfl) rfl rfl rfl ?_
 refine GL.nil (GE.again ?_)
 refine GC.seq (GC.seq (GC.region ?_))
 refine GL.v_ (EX.ld rfl rfl (One.of Tryz.underlying248 rfl)) rfl rfl rfl ?_
 refine GL.v_ (EX.lenL rfl Tryz.underlying248) rfl rfl rfl ?_
 refine GL.v_ (EX.gtr rfl rfl) rfl rfl rfl ?_
 refine GL.nil (GE.seq ?_)
 refine GC.condF rfl (by simp) (GC.exit ?_)
 refine GE.then_exit (GE.then_exit ?_)
 intro a w ha hs
 simp only [Exit.inBlock,if_true]
 exact (GE.out0n (L:=Bk b2 248 [.slice a' 0 c']::Bk b3 3 [.int .i64 size]::X' x) rfl (fun w h=>⟨x,hx,rfl,h.tail.tail⟩)) a w (ha.sub (kn':=[]) (fun p hp=>by cases hp)) hs
end
end
noncomputable section
open Go.RowKit
set_option maxRecDepth 100000
section
variable {W0 W w:World} {L L' R X X':List Thing} {kn:Kn} {N:Nat} {ds:List Deferred} {Q:Exit→Act→World→Prop}
def pp (b:Nat):Value:=.pointer (some ⟨b,0,none⟩)
theorem f116_fn (v:Value) (size:Int) (h1:vc v=[v]):FnX Tryz.prog 116 [v,.int .i64 size] [] (fun x:Nat × Nat=>.func (.func 155) #[] #[pp x.1,pp x.2]) (fun x=>[Bk x.1 248 [v],Bk x.2 3 [.int .i64 size]]) (fun _=>True):=by
 refine Fn.go Tryz.func116 rfl Tryz.ntmps116 rfl (fun W0 R=>?_)
 refine GC.app .a0 ?_
 refine GC.seq (GC.region ?_)
 refine GL.eff (EF.box rfl) rfl rfl (.free rfl) (fun b2 _=>?_)
 refine GL.eff (EF.box rfl) rfl rfl (.free rfl) (fun b3 _=>?_)
 refine GL.v_ (EX.assign rfl) rfl rfl rfl ?_
 refine GL.nil (GE.seq ?_)
 refine GC.seq (GC.region ?_)
 refine GL.v_ (EX.makeFunc (us:=[]) (vs:=[pp b2,pp b3]) rfl rfl) rfl rfl rfl ?_
 refine GL.v_ (EX.assign rfl) rfl rfl rfl ?_
 refine GL.nil (GE.seq ?_)
 refine GC.ret (GE.out rfl rfl (fun w h=>?_))
 rw [h1] at h
 exact ⟨(b2,b3),trivial,rfl,h.p1⟩
theorem GLI.turn {F:Fence} {n:Nat} {P:Program} {ops:Array Oper} {r:List Oper} (hL:∀ w,Sts W0 w L→Sts W0 w L') (h:GLI F n P W0 N ds ops Q r kn L'):GLI F n P W0 N ds ops Q r kn L:=fun a w ha hs=>h a w ha (hL w hs)
def mark (b:Nat):Deferred:={ target:=.collected b,args:=#[] }
theorem ap172:APt Tryz.prog 172 96 4 40 (.agg #[.int .u64 0,.int .i64 0,.int .i64 0,.string ⟨#[]⟩]):=⟨Tryz.underlying172,by kernel_rfl,rfl,by decide⟩
theorem permY {b2 b3 l D:Thing} (Y:List Thing):(b2::b3::l::D::Y).Perm (Y++[b2,b3,l,D]):=List.perm_append_comm (l₁:=[b2,b3,l,D]) (l₂:=Y)
theorem useHas {a:Act} {G:Prop} (ha:Has N ds kn a) (k:∀ kn',kn'=kn→Has N ds kn' a→G):G:=k kn rfl ha
theorem fold2 (t:Array Value) (x y:Value):((#[49,50]:Array Tmp).zip #[x,y]).foldl (fun t (p,v)=>t.setIfInBounds p v) t=(t.setIfInBounds 49 x).setIfInBounds 50 y:=by simp
theorem range1 {σ:Type} {C:σ→Prop} {Y:List Thing} {Y':σ→List Thing} {g:Operand} {ps:Array Tmp} {assign body:Code} {a:Act} {A:Act→Prop} {b2 b3 n cap:Nat} {a0:Addr} {size:Int} (hg:a.eval g=.func (.func 155) #[] #[pp b2,pp b3]) (hps:ps.size=2) (hn:0 < n) (hcap:n≤cap) (hsz:(n:Int)≤size)
  (hs:Sts W0 w (Bk b2 248 [.slice (some a0) n cap]::Bk b3 3 [.int .i64 size]::Y))
  (ha:∀ (l m:Nat) (w:World) (Z:List Thing) (K:Act→World→Prop),Sts W0 w (Y++Z)→(∀ a1 w1,A a1→Sts W0 w1 (Y++Z)→K a1 w1)→assign.wpIn (Fence.wide.inRound l) m Tryz.prog (Exit.then K (fun _ _ _=>False)) { tmps:=(ps.zip #[.int .i64 0,.slice (some (a0.add 0)) n n]).foldl (fun t (p,v)=>t.setIfInBounds p v) a.tmps,defers:=[] } w)
  (hb:∀ (l m:Nat) (w:World) (Z:List Thing) (a1:Act),A a1→Sts W0 w (Y++Z)→body.wpIn (Fence.wide.inRound l) m Tryz.prog (fun e a' w'=>e=.normal∧∃ x,C x∧Sts W0 w' (Y' x++Z)) a1 w)
  (hQ:∀ x D w',C x→Sts W0 w' (Hp D (.deferred (some []))::Y' x)→Q .normal { a with defers:=mark D::a.defers } w'):(Code.rangeFunc g ps assign body).wp Tryz.prog Q a w:=by
 refine (wpIn_wide (n:=3)).1 (wpIn_rangeFunc (fun fn hfn=>?_))
 obtain ⟨rec,hrec⟩:∃ rec:LoopState→Loop,rec=fun st=>{ state:=st,pending:=none,fn,tmps:=a.tmps,params:=ps,assign,body,defers:=w.heap.size }:=⟨_,rfl⟩
 obtain ⟨W1,hW1⟩:∃ W1,(w.alloc (.deferred (some []))).alloc (.loop (rec .ready))=W1:=⟨_,rfl⟩
 have hs1:Sts W0 W1 (Hp (w.heap.size + 1) (.loop (rec .ready))::Hp w.heap.size (.deferred (some []))::Bk b2 248 [.slice (some a0) n cap]::Bk b3 3 [.int .i64 size]::Y):=by
  have:=Sts.newHp (.loop (rec .ready)) (Sts.newHp (.deferred (some [])) hs)
  rw [hW1,World.size_alloc] at this
  exact this
 refine ⟨w.heap.size + 1,[mark w.heap.size],W1,{ target:=.fn (.func 155) #[pp b2,pp b3],args:=#[.func (.yield (w.heap.size + 1)) #[] #[]] },W1,155,#[.func (.yield (w.heap.size + 1)) #[] #[]]++#[pp b2,pp b3],W1,?_,?_,fun _ _=>trivial,?_,fun hd=>(by cases hd),?_⟩
 ·rw [← hW1,hrec]; exact run_enterLoop_outer _ _ _ _ _
 ·simp only [resolve,hg]
  simp [go_sem]
 ·simp [invoke,go_sem,en155 #[.func (.yield (w.heap.size + 1)) #[] #[],pp b2,pp b3] W1]
 ·refine callsIn_wide.2 ((f155_run (W0:=W0) (a0:=a0) (C:=C) (m:=1) (X:=Hp (w.heap.size + 1) (.loop (rec .ready))::Hp w.heap.size (.deferred (some []))::Y) (X':=fun x=>Hp (w.heap.size + 1) (.loop (rec .ready))::Hp w.heap.size (.deferred (some []))::Y' x) hn hcap hsz ?_ ?_).mono ?_)
  ·intro w2 h2
   have h3:Sts W0 w2 (Hp (w.heap.size + 1) (.loop (rec .ready))::Bk b2 248 [.slice (some a0) n cap]::Bk b3 3 [.int .i64 size]::Hp w.heap.size (.deferred (some []))::Y):=h2.p2
   have hl:=Sts.hp h3
   have hy:=run_yield (P:=Tryz.prog) (args:=#[.int .i64 0,.slice (some (a0.add 0)) n n]) hl (by rw [hrec]; exact hps.symm)
   rw [hrec] at hy
   refine ⟨fn,_,assign,body,hy,roundIn_of_wpIn trivial ?_⟩
   refine ha _ _ _ [Bk b2 248 [.slice (some a0) n cap],Bk b3 3 [.int .i64 size],Hp (w.heap.size + 1) (.loop (rec .ready)),Hp w.heap.size (.deferred (some []))] _ (h2.perm (permY Y)) (fun a1 w3 hA h4=>?_)
   have h5:=(h4.perm (permY Y).symm).p2
   have hl3:=Sts.hp h5
   refine ⟨_,run_beginRound hl3 (by rw [hrec]),?_⟩
   have h6:=Sts.setHp h5 (.loop { rec .ready with state:=.busy })
   refine wpIn_mono (hb _ _ _ [Bk b2 248 [.slice (some a0) n cap],Bk b3 3 [.int .i64 size],Hp (w.heap.size + 1) (.loop { rec .ready with state:=.busy }),Hp w.heap.size (.deferred (some []))] a1 hA ((h6.perm ((List.Perm.swap _ _ _).trans (List.Perm.cons _ (List.Perm.swap _ _ _)))).perm (permY Y))) ?_
   rintro e a4 w4 ⟨rfl,x,hx,h7⟩
   have h8:=(h7.perm (permY (Y' x)).symm).p2
   have hl4:=Sts.hp h8
   refine ⟨_,_,run_endRound none hl4,x,hx,rfl,?_⟩
   have h9:=Sts.setHp h8 (.loop { { rec .ready with state:=.busy } with state:=if (none:Option Code).isNone then .ready else .done,pending:=none })
   have hr:({ { rec .ready with state:=.busy } with state:=if (none:Option Code).isNone then .ready else .done,pending:=none }:Loop)=rec .ready:=by rw [hrec]; rfl
   rw [hr] at h9
   rw [hr]
   exact h9.perm ((List.Perm.swap _ _ _).trans (List.Perm.cons _ (List.Perm.swap _ _ _)))
  ·exact hs1.perm ((permY [Bk b2 248 [.slice (some a0) n cap],Bk b3 3 [.int .i64 size]] (b2:=Hp (w.heap.size + 1) (.loop (rec .ready))) (b3:=Hp w.heap.size (.deferred (some []))) (l:=Bk b2 248 [.slice (some a0) n cap]) (D:=Bk b3 3 [.int .i64 size])) |> fun _=>(List.perm_append_comm (l₁:=[Hp (w.heap.size + 1) (.loop (rec .ready)),Hp w.heap.size (.deferred (some []))]) (l₂:=[Bk b2 248 [.slice (some a0) n cap],Bk b3 3 [.int .i64 size]])).append_right Y)
  ·rintro e w2 ⟨x,hx,rfl,h2⟩
   have hl:=Sts.hp h2
   refine ⟨_,_,run_endLoop hl (by rw [hrec]; simp),?_⟩
   have:(rec .ready).pending=none:=by rw [hrec]
   rw [this]
   exact hQ x _ _ hx (Sts.setHp h2 _).tail
theorem f68_run {s:ByteArray} {id size:Int} (h1:1≤id) (h2:id≤4294967296) (h3:1≤s.size) (h4:(s.size:Int)≤size) (h5:size≤1000) (hs:Sts W0 w R) :
  Calls Tryz.prog 68 [.string s,.int .u64 id,.int .i64 size].toArray w fun e w'=>∃ v',Sl 1 v'∧e=.returned (.tuple #[v',.int .i64 0])∧Sts W0 w' (Rw 96 4 v' 1 [.int .u64 id,.int .i64 0,.int .i64 1,.string s]::R):=by
 refine callsIn_wide.1 (callsIn_of_wp_marks (n:=3) Tryz.func68 rfl trivial (wpIn_wide.2 ?_))
 refine (show GC Tryz.prog W0 Tryz.f68.ntmps [] _ _ (argKn 0 [.string s,.int .u64 id,.int .i64 size]) R from ?_) _ _ (has_enter [_,_,_] (Nat.le_of_ble_eq_true rfl)) hs
 rw [show Tryz.f68.ntmps=61 from Tryz.ntmps68]
 refine GC.seq (GC.region ?_)
 refine GL.eff (EF.box rfl) rfl rfl (.free rfl) (fun b4 _=>?_)
 refine GL.v_ (EX.assign rfl) rfl rfl rfl ?_
 refine GL.v_ (EX.assign rfl) rfl rfl rfl ?_
 refine GL.nil (GE.seq ?_)
 refine GC.seq (GC.seq (GC.region ?_))
 have g14:decide (id < 1)=false:=by simp; omega
 have g16:decide (id > 4294967296)=false:=by simp; omega
 have g20:decide (size < 1)=false:=by simp; omega
 have g24:decide (size > 1000)=false:=by simp; omega
 have g29:decide ((s.size:Int) < 1)=false:=by simp; omega
 have g34:decide ((s.size:Int) > 4096)=false:=by simp; omega
 refine GL.v_ (EX.ld rfl rfl (One.of Tryz.underlying30 rfl)) rfl rfl rfl ?_
 refine GL.v_ (EX.lss rfl rfl) rfl rfl rfl ?_
 refine GL.v_ (EX.move rfl) rfl rfl rfl ?_
 refine GL.val (EX.ld rfl rfl (One.of Tryz.underlying30 rfl)) rfl rfl (.guard rfl rfl rfl rfl g14) ?_
 refine GL.val (EX.gtr rfl rfl) rfl rfl (.guard rfl rfl rfl rfl g14) ?_
 refine GL.v_ (EX.pickF rfl g14 rfl) rfl rfl rfl ?_
 refine GL.v_ (EX.move rfl) rfl rfl rfl ?_
 refine GL.val (EX.move rfl) rfl rfl (.guard rfl rfl rfl rfl g16) ?_
 refine GL.val (EX.lss rfl rfl) rfl rfl (.guard rfl rfl rfl rfl g16) ?_
 refine GL.v_ (EX.pickF rfl g16 rfl) rfl rfl rfl ?_
 refine GL.v_ (EX.move rfl) rfl rfl rfl ?_
 refine GL.val (EX.move rfl) rfl rfl (.guard rfl rfl rfl rfl g20) ?_
 refine GL.val (EX.gtr rfl rfl) rfl rfl (.guard rfl rfl rfl rfl g20) ?_
 refine GL.v_ (EX.pickF rfl g20 rfl) rfl rfl rfl ?_
 refine GL.v_ (EX.move rfl) rfl rfl rfl ?_
 refine GL.val (EX.move rfl) rfl rfl (.guard rfl rfl rfl rfl g24) ?_
 refine GL.val (EX.lenS rfl Tryz.underlying9) rfl rfl (.guard rfl rfl rfl rfl g24) ?_
 refine GL.val (EX.lss rfl rfl) rfl rfl (.guard rfl rfl rfl rfl g24) ?_
 refine GL.v_ (EX.pickF rfl g24 rfl) rfl rfl rfl ?_
 refine GL.v_ (EX.move rfl) rfl rfl rfl ?_
 refine GL.val (EX.move rfl) rfl rfl (.guard rfl rfl rfl rfl g29) ?_
 refine GL.val (EX.lenS rfl Tryz.underlying9) rfl rfl (.guard rfl rfl rfl rfl g29) ?_
 refine GL.val (EX.gtr rfl rfl) rfl rfl (.guard rfl rfl rfl rfl g29) ?_
 refine GL.v_ (EX.pickF rfl g29 rfl) rfl rfl rfl ?_
 refine GL.nil (GE.seq ?_)
 refine GC.condF rfl g34 (GC.skip (GE.seq ?_))
 have q1:IntKind.i64.wrap ((s.size:Int) + size)=(s.size:Int) + size:=IntWalk.i64_in _ ⟨by omega,by omega⟩
 have q2:IntKind.i64.wrap ((s.size:Int) + size - 1)=(s.size:Int) + size - 1:=IntWalk.i64_in _ ⟨by omega,by omega⟩
 have q3:IntKind.i64.wrap (((s.size:Int) + size - 1).tdiv size)=1:=by
  have:((s.size:Int) + size - 1).tdiv size=1:=by
   rw [Int.tdiv_eq_ediv_of_nonneg (by omega)]
   refine (Int.ediv_emod_unique (r:=(s.size:Int) - 1) (by omega)).2 ⟨by omega,by omega,by omega⟩ |>.1
  rw [this]; rfl
 refine GC.seq (GC.region ?_)
 refine GL.v_ (EX.move rfl) rfl rfl rfl ?_
 refine GL.v_ (EX.lenS rfl Tryz.underlying9) rfl rfl rfl ?_
 refine GL.v_ (EX.move rfl) rfl rfl rfl ?_
 refine GL.v_ (EX.add rfl rfl q1) rfl rfl rfl ?_
 refine GL.v_ (EX.sub rfl rfl q2) rfl rfl rfl ?_
 refine GL.v_ (EX.move rfl) rfl rfl rfl ?_
 refine GL.v_ (EX.quo rfl rfl (by omega) q3) rfl rfl rfl ?_
 refine GL.eff (EF.alloc q_al3) rfl rfl (.free rfl) (fun b8 _=>?_)
 refine GL.u_ (EU.st rfl rfl (show SZ Tryz.prog 3 1 by unfold SZ; kernel_rfl) rfl rfl rfl) rfl rfl ?_
 refine GL.nil (GE.seq ?_)
 refine GC.seq (GC.seq (GC.region ?_))
 refine GL.v_ (EX.ld rfl rfl (One.of Tryz.underlying3 rfl)) rfl rfl rfl ?_
 refine GL.v_ (EX.gtr rfl rfl) rfl rfl rfl ?_
 refine GL.nil (GE.seq ?_)
 refine GC.condF rfl (by decide) (GC.skip (GE.seq ?_))
 refine GC.seq (GC.region ?_)
 refine GL.eff (EF.alloc q_al172) rfl rfl (.free rfl) (fun b9 _=>?_)
 refine GL.nil (GE.seq ?_)
 refine GC.seq (GC.seq (GC.region ?_))
 refine GL.v_ (EX.move rfl) rfl rfl rfl ?_
 refine GL.eff (EF.cvb rfl Tryz.underlying9 Tryz.underlying248 Tryz.underlying5) rfl rfl (.free rfl) (fun q hq=>?_)
 refine GL.v_ (EX.move rfl) rfl rfl rfl ?_
 refine GL.callX (EC.direct en116 rfl) (f116_fn _ _ rfl) (.nil) rfl rfl (.free rfl) (fun x _=>?_)
 refine GL.nil (GE.seq ?_)
 refine GC.block ?_
 intro a w ha hs
 have hF:∀ l f,(Fence.wide.inRound l).fn f:=fun _ _=>trivial
 refine useHas ha (fun kn' hkn _=>?_)
 refine range1 (C:=Sl 1) (A:=Has 61 [] ((11,.slice (some ((⟨q.1,0,none⟩:Addr).add 0)) s.size s.size)::(10,.int .i64 0)::(50,.slice (some ((⟨q.1,0,none⟩:Addr).add 0)) s.size s.size)::(49,.int .i64 0)::kn')) (Y:=Ro q.1 (s.data.toList.map fun c=>Value.int .u8 c.toNat)::Bk b9 172 [.slice none 0 0]::Bk b8 3 [.int .i64 1]::Bk b4 30 [.int .u64 id]::R)
  (Y':=fun v=>Rw 96 4 v 1 [.int .u64 id,.int .i64 0,.int .i64 1,.string s]::Bk b9 172 [v]::R) (ha.ev (.tmp 48) _ rfl) rfl (n:=s.size) (cap:=q.2) (a0:=⟨q.1,0,none⟩) (size:=size) (by omega) hq h4 hs ?_ ?_ ?_
 ·subst hkn
  intro l m w2 Z K h2 hK
  have h0:=(ha.put 49 (.int .i64 0) rfl).put 50 (.slice (some ((⟨q.1,0,none⟩:Addr).add 0)) s.size s.size) rfl
  rw [fold2]
  refine wpIn_seq (wpIn_region_L ?_)
  refine (show GLI (Fence.wide.inRound l) m Tryz.prog W0 61 [] _ _ _ _ _ from ?_) _ w2 (show Has 61 [] _ _ from ⟨h0.size,rfl,h0.known⟩) h2
  refine GLI.val (hF l) (fun c hc=>by cases hc) (EX.assign rfl) rfl rfl rfl ?_
  refine GLI.nil (fun a3 w3 h3 h4=>?_)
  refine wpIn_region_L ?_
  refine (show GLI (Fence.wide.inRound l) m Tryz.prog W0 61 [] _ _ _ _ _ from ?_) _ w3 h3 h4
  refine GLI.val (hF l) (fun c hc=>by cases hc) (EX.assign rfl) rfl rfl rfl ?_
  exact GLI.nil (fun a5 w5 h5 h6=>hK a5 w5 h5 h6)
 ·subst hkn
  intro l m w2 Z a1 h1 h2
  refine wpIn_block (wpIn_region_L ?_)
  refine (show GLI (Fence.wide.inRound l) m Tryz.prog W0 61 [] _ _ _ _ _ from ?_) _ w2 h1 h2
  refine GLI.val (hF l) (fun c hc=>by cases hc) (EX.ld rfl rfl (One.of Tryz.underlying172 rfl)) rfl rfl rfl ?_
  refine GLI.val (hF l) (fun c hc=>by cases hc) (EX.ld rfl rfl (One.of Tryz.underlying30 rfl)) rfl rfl rfl ?_
  refine GLI.val (hF l) (fun c hc=>by cases hc) (EX.move rfl) rfl rfl rfl ?_
  refine GLI.val (hF l) (fun c hc=>by cases hc) (EX.ld rfl rfl (One.of Tryz.underlying3 rfl)) rfl rfl rfl ?_
  refine GLI.val (hF l) (fun c hc=>by cases hc) (EX.move rfl) rfl rfl rfl ?_
  refine GLI.val (hF l) (fun c hc=>by cases hc) (EX.cvs rfl rfl .here Tryz.underlying248 Tryz.underlying5 Tryz.underlying9) rfl rfl rfl ?_
  refine GLI.val (hF l) (fun c hc=>by cases hc) (EX.build rfl q_bd96 rfl) rfl rfl rfl ?_
  refine GLI.eff (hF l) (fun c hc=>by cases hc) (EF.buildSlice rfl q_bs172 (n:=1) rfl rfl rfl) rfl rfl rfl (fun b58 _=>?_)
  refine GLI.turn (fun w h=>h.nilRw 96 4) ?_
  refine GLI.eff (hF l) (fun c hc=>by cases hc) (EF.append rfl rfl ap172 (fun v'=>.here) (.there .here) rfl rfl (by decide) (by decide)) rfl rfl rfl (fun v' hv'=>?_)
  obtain ⟨av,cv,rfl⟩:=hv'
  refine GLI.do (hF l) (fun c hc=>by cases hc) (EU.st rfl rfl (show SZ Tryz.prog 172 1 by unfold SZ; kernel_rfl) rfl rfl rfl) rfl rfl ?_
  refine GLI.nil (fun a3 w3 h3 h4=>?_)
  refine ⟨rfl,.slice av 1 cv,⟨av,cv,rfl⟩,?_⟩
  exact h4.p1.tail.p1.tail.p2.tail.p2.tail
 ·intro v D w2 hv h2
  obtain ⟨av,cv,rfl⟩:=hv
  have ha2:Has 61 [mark D] _ { a with defers:=mark D::a.defers }:=⟨ha.size,by simp [ha.defers],ha.known⟩
  refine (show GE W0 61 [mark D] .normal _ _ _ from ?_) _ w2 ha2 h2
  refine GE.block (GE.seq ?_)
  refine GC.seq (GC.region ?_)
  refine GL.v_ (EX.ld rfl rfl (One.of Tryz.underlying172 rfl)) rfl rfl rfl ?_
  refine GL.v_ (EX.assign rfl) rfl rfl rfl ?_
  refine GL.v_ (EX.assign rfl) rfl rfl rfl ?_
  refine GL.nil (GE.seq ?_)
  refine GC.ret ?_
  intro a3 w3 h3 h4
  show LeavesInM Fence.wide 3 Tryz.prog Tryz.f68 a3.tmps _ a3.defers .returning w3
  rw [h3.defers]
  have hk:=Sts.hp h4
  refine ⟨by simp,.inl ⟨D,_,rfl,run_takeDeferred hk,?_⟩⟩
  refine ⟨.tuple #[.slice av 1 cv,.int .i64 0],?_,.slice av 1 cv,⟨av,cv,rfl⟩,rfl,?_⟩
  ·exact run_resultsN (ts:=[6,7]) (vs:=[.slice av 1 cv,.int .i64 0]) rfl h3 rfl (by simp) _
  ·exact (Sts.setHp h4 _).tail.p1.tail
theorem cut68_ok:BSnd Tryz.prog W0 68 cut68:=by
 refine ⟨en68,fun vs me nx v me' nx' h W R g xs hf hx hm=>?_,fun vs me nx v me' nx' h=>?_⟩
 ·unfold cut68 at h
  split at h
  ·rename_i n v0 id size
   cases hb:(and (and (Nat.ble 1 id) (Nat.ble id 4294967296)) (and (and (Nat.ble 1 n) (Nat.ble n size)) (Nat.ble size 1000))) with
   | false=>rw [hb] at h; cases h
   | true =>
    rw [hb] at h
    simp only [Bool.and_eq_true] at hb
    obtain ⟨⟨b1,b2⟩,⟨b3,b4⟩,b5⟩:=hb
    have b1:=Nat.le_of_ble_eq_true b1
    have b2:=Nat.le_of_ble_eq_true b2
    have b3:=Nat.le_of_ble_eq_true b3
    have b4:=Nat.le_of_ble_eq_true b4
    have b5:=Nat.le_of_ble_eq_true b5
    injection h with h1 h2 h3; subst h1; subst h2; subst h3
    obtain ⟨x1,us,d1,d2,rfl⟩:=dens_cons hx
    obtain ⟨x2,us,d3,d4,rfl⟩:=dens_cons d2
    obtain ⟨x3,us,d5,d6,rfl⟩:=dens_cons d4
    have:us=[]:=by simpa [dens] using d6.symm
    subst this
    obtain ⟨hlt,rfl⟩:=den_s d1
    have:=den_i d3; subst this
    have:=den_i d5; subst this
    have hsz:(byt n v0).size=n:=byt_size n v0
    refine (f68_run (s:=byt n v0) (id:=Int.ofNat id) (size:=Int.ofNat size) (by simp; omega) (by simp; omega) (by omega) (by rw [hsz]; simp; omega) (by simp; omega) hm).mono ?_
    rintro e w' ⟨v',⟨av,cv,rfl⟩,rfl,h2⟩
    obtain ⟨bb,rfl⟩:=h2.rwSome .here (by decide)
    have hd:dens (den1 g) [.i .u64 (.ofNat id),er 0,er 1,.s n v0]=some [.int .u64 (Int.ofNat id),.int .i64 0,.int .i64 1,.string (byt n v0)]:=by
     simp [dens,den1,den0,er,hlt]
    refine ⟨g.set nx (bb,cv),.tuple #[.slice (some ⟨bb,0,none⟩) 1 cv,.int .i64 0],rfl,G.set_ext _ _ _,G.set_fresh hf _,by rw [Pos.nat_succ]; omega,?_,new_r hf (get_nx hm hf) hd h2⟩
    simp [den,dens,den2,den1,den0,er,G.set_at]
  ·cases h
 ·unfold cut68 at h
  split at h
  ·cases hb:(and (and (Nat.ble 1 _) (Nat.ble _ 4294967296)) (and (and (Nat.ble 1 _) (Nat.ble _ _)) (Nat.ble _ 1000))) with
   | false=>rw [hb] at h; cases h
   | true=>rw [hb] at h; cases h
  ·cases h
end
end
end EV
end Go.Proofs.YtadggjnohohedaaGreatDoor
namespace Go.Proofs
open Go.Shelf
noncomputable def lays189_ren:Shelf.Ren where
 f:=fun | 189=>179 | 125=>203 | 257=>208 | 128=>229 | 129=>113 | 294=>239 | 295=>240 | 296=>241 | 297=>242 | 298=>243 | 299=>244 | 216=>245 | 300=>246 | 301=>247 | 328=>264 | 329=>258 | 330=>259 | 331=>265 | 332=>266 | 215=>267 | 343=>278 | n=>n
 t:=fun | 28=>40 | 3=>3 | 46=>261 | 0=>0 | 51=>386 | 53=>30 | 4=>4 | 183=>379 | 182=>378 | 131=>176 | 5=>5 | 9=>9 | 218=>402 | 222=>185 | 228=>416 | 229=>229 | n=>n
 g:=fun n=>n
theorem lays189:Lays.n189 Tryz.prog lays189_ren where
 mixed:=by kernel_rfl
 f125:=Tryz.func203.trans (congrArg some (by kernel_rfl))
 f128:=Tryz.func229.trans (congrArg some (by kernel_rfl))
 f129:=Tryz.func113.trans (congrArg some (by kernel_rfl))
 f189:=Tryz.func179.trans (congrArg some (by kernel_rfl))
 f215:=Tryz.func267.trans (congrArg some (by kernel_rfl))
 f216:=Tryz.func245.trans (congrArg some (by kernel_rfl))
 f257:=Tryz.func208.trans (congrArg some (by kernel_rfl))
 f294:=Tryz.func239.trans (congrArg some (by kernel_rfl))
 f295:=Tryz.func240.trans (congrArg some (by kernel_rfl))
 f296:=Tryz.func241.trans (congrArg some (by kernel_rfl))
 f297:=Tryz.func242.trans (congrArg some (by kernel_rfl))
 f298:=Tryz.func243.trans (congrArg some (by kernel_rfl))
 f299:=Tryz.func244.trans (congrArg some (by kernel_rfl))
 f300:=Tryz.func246.trans (congrArg some (by kernel_rfl))
 f301:=Tryz.func247.trans (congrArg some (by kernel_rfl))
 f328:=Tryz.func264.trans (congrArg some (by kernel_rfl))
 f329:=Tryz.func258.trans (congrArg some (by kernel_rfl))
 f330:=Tryz.func259.trans (congrArg some (by kernel_rfl))
 f331:=Tryz.func265.trans (congrArg some (by kernel_rfl))
 f332:=Tryz.func266.trans (congrArg some (by kernel_rfl))
 f343:=Tryz.func278.trans (congrArg some (by kernel_rfl))
 t0:=Tryz.underlying0
 a0:=Tryz.isAgg0
 z0:=Tryz.sizeOf0
 v0:=Tryz.zeroValue0
 t3:=Tryz.underlying3
 a3:=Tryz.isAgg3
 z3:=Tryz.sizeOf3
 v3:=Tryz.zeroValue3
 t4:=Tryz.underlying4
 a4:=Tryz.isAgg4
 z4:=Tryz.sizeOf4
 v4:=Tryz.zeroValue4
 t5:=Tryz.underlying5
 a5:=Tryz.isAgg5
 z5:=Tryz.sizeOf5
 v5:=Tryz.zeroValue5
 t9:=Tryz.underlying9
 a9:=Tryz.isAgg9
 z9:=Tryz.sizeOf9
 v9:=Tryz.zeroValue9
 t28:=Tryz.underlying40
 a28:=Tryz.isAgg40
 z28:=Tryz.sizeOf40
 v28:=Tryz.zeroValue40
 t46:=Tryz.underlying261
 a46:=Tryz.isAgg261
 z46:=Tryz.sizeOf261
 v46:=Tryz.zeroValue261
 t51:=Tryz.underlying386
 a51:=Tryz.isAgg386
 z51:=Tryz.sizeOf386
 v51:=Tryz.zeroValue386
 t53:=Tryz.underlying30
 a53:=Tryz.isAgg30
 z53:=Tryz.sizeOf30
 v53:=Tryz.zeroValue30
 t131:=Tryz.underlying176
 a131:=Tryz.isAgg176
 z131:=Tryz.sizeOf176
 v131:=Tryz.zeroValue176
 t182:=Tryz.underlying378
 a182:=Tryz.isAgg378
 z182:=Tryz.sizeOf378
 v182:=Tryz.zeroValue378
 t183:=Tryz.underlying379
 a183:=Tryz.isAgg379
 z183:=Tryz.sizeOf379
 v183:=Tryz.zeroValue379
 t218:=Tryz.underlying402
 a218:=Tryz.isAgg402
 z218:=Tryz.sizeOf402
 v218:=Tryz.zeroValue402
 t222:=Tryz.underlying185
 a222:=Tryz.isAgg185
 z222:=Tryz.sizeOf185
 v222:=Tryz.zeroValue185
 t228:=Tryz.underlying416
 a228:=Tryz.isAgg416
 z228:=Tryz.sizeOf416
 v228:=Tryz.zeroValue416
 t229:=Tryz.underlying229
 a229:=Tryz.isAgg229
 z229:=Tryz.sizeOf229
 v229:=Tryz.zeroValue229
end Go.Proofs
namespace Go.Proofs.YtadggjnohohedaaGreatDoor
open Go.RowKit Go.Sort
namespace EV
set_option maxRecDepth 100000
noncomputable section
section
variable {P:Program} {W0 W w:World} {L L' R X:List Thing} {kn:Kn} {N:Nat} {ds:List Deferred} {ops:Array Oper} {Q:Exit→Act→World→Prop} {r:List Oper}
theorem sort_call (blk off cap:Nat) (zs:List Int) (w:World) (hH:Holds (Value.int .i64) w blk off zs.toArray) (hblk:blk < w.heap.size) (hsz:zs.length < 4611686018427387904) :
  Calls Tryz.prog 179 #[.slice (some ⟨blk,off,none⟩) zs.length cap] w fun e w' =>
   e=.returned (.tuple #[])∧∃ n os,w'=grow (putRow (Value.int .i64) (Sort.ahead w n) blk off (zs.mergeSort fun x y=>decide (x≤y)).toArray) os:=Any.slices_Sort_int lays189 blk off cap zs w hH hblk hsz
theorem sort_sts {v:Value} {zs:List Int} (h1:0 < zs.length) (h2:zs.length≤1000) (hs:Sts W0 W (Rw 3 1 v zs.length (zs.map (Value.int .i64))::L)) :
  Calls Tryz.prog 179 #[v] W fun e w'=>e=.returned (.tuple #[])∧Sts W0 w' (Rw 3 1 v zs.length ((zs.mergeSort fun x y=>decide (x≤y)).map (Value.int .i64))::L):=by
 obtain ⟨a,c,rfl⟩:=hs.rwForm .here
 obtain ⟨b,rfl⟩:=hs.rwSome .here h1
 have hown:=hs.rw .here
 rcases hown.2 with ⟨h0,_⟩ | ⟨g,cap,cur,hv,_,hg,hn,hcap,hsz,ht⟩
 ·cases h0
 cases hv
 rw [Nat.mul_one] at ht
 have hlt:b < W.heap.size:=(Array.getElem?_eq_some_iff.1 hg).1
 have hH:=holds_of_blockI (w:=W) (g:=b) (cur:=cur) (e:=3) (ss:=zs) hg ht
 refine (sort_call b 0 c zs W hH hlt (by omega)).mono ?_
 rintro e w' ⟨rfl,n,os,rfl⟩
 refine ⟨rfl,hs.appendRw (ownsRow_sortedI (by simp) (Nat.zero_le _) hg hn hcap hsz) (grownBy_sortedI _) (.inl rfl)⟩
theorem GL.callE {o:Oper} {f:FuncId} {args:List Value} {d:Nat} {v:Value} {T:List Thing} (hx:EC P kn o f args) (hd:o.dst=some d) (hN:Nat.blt d N=true) (hg:o.guard=none)
  {L2:List Thing} (hc:∀ w,Sts W0 w L→Calls P f args.toArray w fun e w'=>e=.returned v∧Sts W0 w' L2) (hT:∀ w,Sts W0 w L2→Sts W0 w T) (h:GL P W0 N ds ops Q r ((d,v)::kn) T):GL P W0 N ds ops Q (o::r) kn L:=by
 intro a w ha hs
 simp only [wpL,wanted_none hg,if_true]
 refine .inl ?_
 simp only [Oper.wp,hx a.eval w ha.ev,Oper.upon]
 refine (hc w hs).mono ?_
 rintro e w' ⟨rfl,h'⟩
 show wpL P ops Q r (a.put o.dst v) w'
 rw [hd]; exact h _ _ (ha.put d v hN) (hT w' h')
theorem EF.range {d g T x ty pos af K E} {b:Nat} {es:Array MapEntry} {ck:Nat} (hx:Proofs.YtadggjnohohedaaGreatDoor.ev kn x=some (.map (some b))) (hT:P.underlying T=some (.map K E)) (p:Pick L (Hp b (.map es ck)) R) :
  EF P W0 kn L ⟨d,.range T x,ty,pos,af,g⟩ (fun q:Nat=>.pointer (some ⟨q,0,none⟩)) (fun q=>Hp q (.mapIter (some b) ck #[] ck)::L) (fun _=>True):=fun ρ w he hs=>by
 have hb:=Sts.hp (hs.pick p)
 refine ⟨w.heap.size,w.alloc (.mapIter (some b) ck #[] ck),trivial,?_,Sts.newHp _ hs⟩
 simp only [execOp,Instr.range,underlying,Sem.run_bind,run_program,Result.andThen_ok,hT,he x _ hx,Sem.run_pure,run_getMap hb,run_newObj]
 rfl
theorem GL.next {d ri b:Nat} {x:Operand} {ty pos af} {es:Array MapEntry} {ck:Nat} {seen:Array Nat} (hx:Proofs.YtadggjnohohedaaGreatDoor.ev kn x=some (.pointer (some ⟨ri,0,none⟩))) (hN:Nat.blt d N=true) (hold:∀ e∈es.toList,e.born < ck)
  (h0:(leftOf es seen).size=0→GL P W0 N ds ops Q r ((d,.tuple #[.bool false])::kn) (Hp ri (.mapIter (some b) ck seen ck)::Hp b (.map es ck)::L))
  (h1:∀ e∈(leftOf es seen).toList,GL P W0 N ds ops Q r ((d,.tuple #[.bool true,e.key,e.val])::kn) (Hp ri (.mapIter (some b) ck (seen.push e.born) ck)::Hp b (.map es ck)::L)) :
  GL P W0 N ds ops Q (⟨some d,.next x false,ty,pos,af,none⟩::r) kn (Hp ri (.mapIter (some b) ck seen ck)::Hp b (.map es ck)::L):=by
 intro a w ha hs
 have hr:=Sts.hp hs
 have hb:=Sts.hp hs.tail
 simp only [wpL,wanted_none (o:=⟨some d,.next x false,ty,pos,af,none⟩) rfl,if_true]
 refine .inl ?_
 rcases run_next_at (P:=P) w ty ri b ck ck seen es ck hr hb hold (Nat.le_refl _) with ⟨hl,hn⟩ | ⟨e,he,w1,hw,hn⟩
 ·have hrun:(execOp a.eval ⟨some d,.next x false,ty,pos,af,none⟩).run P w=.ok (.value (.tuple #[.bool false])) w:=by
   simp only [execOp,Sem.run_bind,ha.ev x _ hx,hn,Result.andThen_ok]; rfl
  simp only [Oper.wp,hrun,Oper.upon]
  exact h0 hl _ _ (ha.put d _ hN) hs
 ·have hrun:(execOp a.eval ⟨some d,.next x false,ty,pos,af,none⟩).run P w=.ok (.value (.tuple #[.bool true,e.key,e.val])) (w1.putObj ri (.mapIter (some b) ck (seen.push e.born) ck)):=by
   simp only [execOp,Sem.run_bind,ha.ev x _ hx,hn,Result.andThen_ok]; rfl
  simp only [Oper.wp,hrun,Oper.upon]
  refine h1 e he _ _ (ha.put d _ hN) ?_
  have hs1:Sts W0 w1 (Hp ri (.mapIter (some b) ck seen ck)::Hp b (.map es ck)::L):=by
   rcases hw with rfl | rfl
   ·exact hs
   ·exact hs.drew
  exact Sts.setHp hs1 _
theorem EX.entry {d g x ty pos af} {ri b:Nat} {es:Array MapEntry} {ck:Nat} {seen:Array Nat} {e:MapEntry} (hx:Proofs.YtadggjnohohedaaGreatDoor.ev kn x=some (.pointer (some ⟨ri,0,none⟩))) (hf:es.find? (fun q=>q.born == e.born)=some e) :
  EX P W0 kn (Hp ri (.mapIter (some b) ck (seen.push e.born) ck)::Hp b (.map es ck)::L) ⟨d,.entry x,ty,pos,af,g⟩ (.tuple #[e.key,e.val]):=fun ρ w he hs=>by
 have hr:=Sts.hp hs
 have hb:=Sts.hp hs.tail
 simp [execOp,Instr.entry,he x _ hx,getObj,Sem.run_bind,Sem.run,hr,hb,hf]
def kV:Value→Int
 | .int _ n=>n
 | _=>0
def kI (e:MapEntry):Int:=kV e.key
theorem left_perm {es:List MapEntry} (hn:(es.map (·.born)).Nodup) {seen:Array Nat} {e:MapEntry} (he:e∈es.filter fun q=>!seen.contains q.born) :
  (es.filter fun q=>!seen.contains q.born).Perm (e::es.filter fun q=>!(seen.push e.born).contains q.born):=by
 induction es with
 | nil=>cases he
 | cons q r ih =>
  simp only [List.map_cons,List.nodup_cons] at hn
  have hstep:∀ q':MapEntry,q'.born≠e.born→(!(seen.push e.born).contains q'.born)=!seen.contains q'.born:=fun q' hq=>by
   simp [Array.contains_push,hq]
  by_cases hqe:q.born=e.born
  ·have hqe':q=e:=by
    rcases List.mem_filter.1 he with ⟨h1,h2⟩
    rcases List.mem_cons.1 h1 with h1 | h1
    ·exact h1.symm
    ·exact (hn.1 (by rw [hqe]; exact List.mem_map.2 ⟨e,h1,rfl⟩)).elim
   subst hqe'
   have h2:(!seen.contains q.born)=true:=(List.mem_filter.1 he).2
   have h3:(!(seen.push q.born).contains q.born)=false:=by simp [Array.contains_push]
   have hr:(r.filter fun x=>!seen.contains x.born)=r.filter fun x=>!(seen.push q.born).contains x.born:=by
    refine List.filter_congr (fun x hx=>(hstep x (fun e1=>hn.1 (by rw [← e1]; exact List.mem_map.2 ⟨x,hx,rfl⟩))).symm)
   rw [List.filter_cons_of_pos (by simpa using h2),List.filter_cons_of_neg (by simp [h3]),hr]
  ·have he':e∈r.filter fun q=>!seen.contains q.born:=by
    rcases List.mem_filter.1 he with ⟨h1,h2⟩
    rcases List.mem_cons.1 h1 with h1 | h1
    ·exact (hqe (by rw [h1])).elim
    ·exact List.mem_filter.2 ⟨h1,h2⟩
   have h1:=ih hn.2 he'
   have h2:=hstep q hqe
   cases hc:(!seen.contains q.born) with
   | true =>
    rw [List.filter_cons_of_pos (by simpa using hc),List.filter_cons_of_pos (by rw [hc] at h2; simpa using h2)]
    exact (List.Perm.cons q h1).trans (List.Perm.swap _ _ _)
   | false =>
    rw [List.filter_cons_of_neg (by show ¬ (!seen.contains q.born)=true; rw [hc]; decide),List.filter_cons_of_neg (by show ¬ (!(seen.push e.born).contains q.born)=true; rw [h2,hc]; decide)]
    exact h1
theorem left_list (es:Array MapEntry) (seen:Array Nat):(leftOf es seen).toList=es.toList.filter fun q=>!seen.contains q.born:=by
 unfold leftOf; simp
theorem mp_hp {bm:Nat} {kvs:List (Int × Value)} {es:Array MapEntry} {ck:Nat} (h:Sts W0 W (Mp (ienc .i64) bm kvs::L)) (hb:W.heap[bm]?=some (.map es ck)):Sts W0 W (Hp bm (.map es ck)::L):=by
 obtain ⟨hB,A,h1,h2,h3⟩:=h
 unfold Mp at h1
 exact ⟨hB,A,⟨hb,h1.2⟩,h2,h3⟩
theorem hp_mp {bm:Nat} {kvs:List (Int × Value)} {es:Array MapEntry} {ck:Nat} (h:Sts W0 W (Hp bm (.map es ck)::L)) (he:Ents (ienc .i64) kvs es ck):Sts W0 W (Mp (ienc .i64) bm kvs::L):=by
 obtain ⟨hB,A,h1,h2,h3⟩:=h
 refine ⟨hB,A,?_,h2,h3⟩
 unfold Mp
 exact ⟨⟨es,ck,h1.1,he⟩,h1.2⟩
theorem find_born {es:Array MapEntry} {e:MapEntry} (hn:(es.toList.map (·.born)).Nodup) (he:e∈es.toList):es.find? (fun q=>q.born == e.born)=some e:=by
 rw [← Array.find?_toList]
 generalize es.toList=l at *
 induction l with
 | nil=>cases he
 | cons q r ih =>
  simp only [List.map_cons,List.nodup_cons] at hn
  rw [List.find?_cons]
  by_cases h:q.born=e.born
  ·rw [h,beq_self_eq_true]
   rcases List.mem_cons.1 he with rfl | h1
   ·rfl
   ·exact (hn.1 (by rw [h]; exact List.mem_map.2 ⟨e,h1,rfl⟩)).elim
  ·rw [beq_eq_false_iff_ne.2 h]
   rcases List.mem_cons.1 he with rfl | h1
   ·exact (h rfl).elim
   ·exact ih hn.2 h1
theorem ap40:APt Tryz.prog 40 3 1 8 (.int .i64 0):=⟨Tryz.underlying40,by kernel_rfl,rfl,by decide⟩
structure Kst (es:Array MapEntry) (ks:List Int) where
 seen:Array Nat
 done:List Int
 v:Value
 pm:(done++(leftOf es seen).toList.map kI).Perm ks
theorem f149_run {bm:Nat} {kvs:List (Int × Value)} {b o:Nat} (h1:0 < kvs.length) (h2:kvs.length≤999) (hs:Sts W0 w (Mp (ienc .i64) bm kvs::X)) (hcell:∀ w,Sts W0 w X→w.cell? ⟨b,o + 6,none⟩=some (.map (some bm))) :
  Calls Tryz.prog 149 [.pointer (some ⟨b,o,none⟩)].toArray w fun e w'=>∃ (v:Value) (zs:List Int),zs.Perm (kvs.map (·.1))∧Sl zs.length v∧e=.returned v∧Sts W0 w' (Rw 3 1 v zs.length ((zs.mergeSort fun x y=>decide (x≤y)).map (Value.int .i64))::Mp (ienc .i64) bm kvs::X):=by
 obtain ⟨es,ck,hb,hen⟩:=hs.mp .here
 have hs0:Sts W0 w (Hp bm (.map es ck)::X):=mp_hp hs hb
 have hkv:es.toList.map kI=kvs.map (·.1):=by
  have h3:=congrArg (List.map fun q:Value × Value=>kV q.1) hen.kv
  rw [List.map_map,List.map_map] at h3
  exact h3
 have hkey:∀ e∈es.toList,e.key=.int .i64 (kI e):=fun e he=>by
  have:(e.key,e.val)∈kvs.map (fun p=>(ienc .i64 p.1,p.2)):=by rw [← hen.kv]; exact List.mem_map.2 ⟨e,he,rfl⟩
  obtain ⟨p,_,hp⟩:=List.mem_map.1 this
  injection hp with hp1 hp2
  have:e.key=.int .i64 p.1:=hp1.symm
  unfold kI; rw [this]; rfl
 have hlen:es.toList.length=kvs.length:=by have:=congrArg List.length hkv; simpa using this
 have hL0:(leftOf es #[]).toList=es.toList:=by rw [left_list]; simp
 refine calls_of_wp Tryz.func149 rfl ?_
 refine (show GC Tryz.prog W0 Tryz.f149.ntmps [] _ (bodyPost Tryz.prog Tryz.f149 _) (argKn 0 [.pointer (some ⟨b,o,none⟩)]) (Hp bm (.map es ck)::X) from ?_) _ _ (has_enter [_] (Nat.le_of_ble_eq_true rfl)) hs0
 rw [show Tryz.f149.ntmps=21 from Tryz.ntmps149]
 refine GC.seq (GC.region (GL.v_ (EX.assign rfl) rfl rfl rfl (GL.nil (GE.seq ?_))))
 refine GC.seq (GC.region (GL.v_ (EX.assign rfl) rfl rfl rfl (GL.nil (GE.seq ?_))))
 refine GC.seq (GC.seq (GC.region ?_))
 refine GL.v_ (EX.move rfl) rfl rfl rfl ?_
 refine GL.v_ (EX.nilCheck rfl) rfl rfl rfl ?_
 refine GL.v_ (EX.fieldAddr rfl q_fa142_6) rfl rfl rfl ?_
 refine GL.v_ (EX.ldc (v:=.map (some bm)) (b:=b) (o:=o + 6) rfl (fun w h=>hcell w h.tail) (One.of Tryz.underlying138 rfl)) rfl rfl rfl ?_
 refine GL.eff (EF.range rfl Tryz.underlying138 .here) rfl rfl (.free rfl) (fun ri _=>?_)
 refine GL.nil (GE.seq ?_)
 refine GC.turn (fun w h=>h.nilRw 3 1) ?_
 refine GC.block (GC.loop (σ:=Kst es (kvs.map (·.1))) (fun s=>[(9,.pointer (some ⟨ri,0,none⟩)),(3,s.v)]) (fun s=>Hp ri (.mapIter (some bm) ck s.seen ck)::Hp bm (.map es ck)::Rw 3 1 s.v s.done.length (s.done.map (Value.int .i64))::X) (fun s=>(leftOf es s.seen).size) ⟨#[],[],.slice none 0 0,by rw [hL0,hkv]; exact List.Perm.refl _⟩ (fun s=>?_) ?_ ?_)
 ·have hlen2:s.done.length + (leftOf es s.seen).toList.length=kvs.length:=by
   have:=s.pm.length_eq; simpa using this
  refine GC.seq (GC.region ?_)
  refine GL.next rfl rfl hen.born (fun hz=>?_) (fun e he=>?_)
  ·refine GL.v_ (EX.extract rfl rfl) rfl rfl rfl ?_
   refine GL.nil (GE.seq ?_)
   refine GC.seq (GC.condF rfl rfl (GC.exit ?_))
   refine GE.then_exit (GE.then_exit (GE.block_hit (GE.seq ?_)))
   have hnil:(leftOf es s.seen).toList=[]:=List.length_eq_zero_iff.1 (by simpa using hz)
   have hdone:s.done.Perm (kvs.map (·.1)):=by
    have:=s.pm
    rw [hnil] at this
    simpa using this
   rw [hnil] at hlen2
   simp only [List.length_nil,Nat.add_zero] at hlen2
   refine GC.seq (GC.region ?_)
   refine GL.v_ (EX.move rfl) rfl rfl rfl ?_
   refine GL.callE (EC.direct en179 rfl) rfl rfl rfl (fun w h=>sort_sts (zs:=s.done) (by omega) (by omega) h.tail.p1) (fun w h=>h) ?_
   refine GL.nil (GE.seq ?_)
   refine GC.seq (GC.region ?_)
   refine GL.v_ (EX.move rfl) rfl rfl rfl ?_
   refine GL.v_ (EX.assign rfl) rfl rfl rfl ?_
   refine GL.nil (GE.seq ?_)
   refine GC.ret (GE.out rfl rfl (fun w h=>?_))
   obtain ⟨a,c,hv⟩:=h.rwForm .here
   exact ⟨s.v,s.done,hdone,⟨a,c,hv⟩,rfl,(hp_mp h.p1 hen).p1⟩
  ·have he':e∈es.toList:=by rw [left_list] at he; exact (List.mem_filter.1 he).1
   have hpos:0 < (leftOf es s.seen).toList.length:=List.length_pos_of_mem he
   refine GL.v_ (EX.extract rfl rfl) rfl rfl rfl ?_
   refine GL.nil (GE.seq ?_)
   refine GC.seq (GC.condT rfl rfl (GC.skip (GE.seq ?_)))
   refine GC.block (GC.seq (GC.region ?_))
   refine GL.v_ (EX.entry rfl (find_born hen.nodup he')) rfl rfl rfl ?_
   rw [hkey e he']
   refine GL.v_ (EX.extract rfl rfl) rfl rfl rfl ?_
   refine GL.v_ (EX.assign rfl) rfl rfl rfl ?_
   refine GL.nil (GE.seq ?_)
   refine GC.region ?_
   refine GL.v_ (EX.move rfl) rfl rfl rfl ?_
   refine GL.v_ (EX.move rfl) rfl rfl rfl ?_
   refine GL.eff (EF.buildSlice rfl q_bs40 (n:=1) rfl rfl rfl) rfl rfl (.free rfl) (fun b58 _=>?_)
   refine GL.eff (EF.append (e:=3) (size:=1) (n:=s.done.length) (xs:=s.done.map (Value.int .i64)) rfl rfl ap40 (fun v'=>.there (.there (.there .here))) .here rfl rfl (by unfold maxLen; omega) (by omega)) rfl rfl (.free rfl) (fun v' hv'=>?_)
   refine GL.v_ (EX.assign rfl) rfl rfl rfl ?_
   refine GL.nil (GE.block ?_)
   intro a w ha hs
   have hp1:(leftOf es s.seen).toList.Perm (e::(leftOf es (s.seen.push e.born)).toList):=by
    rw [left_list,left_list]
    exact left_perm hen.nodup (by rw [← left_list]; exact he)
   have hpm:((s.done++[kI e])++(leftOf es (s.seen.push e.born)).toList.map kI).Perm (kvs.map (·.1)):=by
    refine List.Perm.trans ?_ s.pm
    rw [List.append_assoc]
    refine List.Perm.append_left _ ?_
    exact (hp1.map kI).symm
   refine ⟨⟨s.seen.push e.born,s.done++[kI e],v',hpm⟩,?_,ha.sub ?_,?_⟩
   ·have:=hp1.length_eq
    simp only [List.length_cons,Array.length_toList] at this
    show (leftOf es (s.seen.push e.born)).size < (leftOf es s.seen).size
    omega
   ·intro p hp
    simp only [List.mem_cons,List.not_mem_nil,or_false] at hp
    rcases hp with rfl | rfl <;> rfl
   ·have:=hs.tail
    simpa [zeros] using this
 ·intro p hp
  simp only [List.mem_cons,List.not_mem_nil,or_false] at hp
  rcases hp with rfl | rfl <;> rfl
 ·exact .take (.there .here) (.take (.there .here) .refl)
end
end
end EV
end Go.Proofs.YtadggjnohohedaaGreatDoor
