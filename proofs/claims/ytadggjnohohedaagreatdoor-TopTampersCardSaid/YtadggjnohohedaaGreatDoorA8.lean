/- TopTampers: for every input the call returns true; part A8 of the proof. -/
import Derived.Test.YtadggjnohohedaaGreatDoorA7
import Derived.KernelRfl
set_option linter.unusedVariables false
set_option linter.unusedSimpArgs false
set_option linter.unusedSectionVars false
namespace Go.Proofs.YtadggjnohohedaaGreatDoor
namespace EV
noncomputable section
open Go.RowKit
def natKeys:List (Int × SV)→Option (List Nat)
 | []=>some []
 | (.ofNat k,_)::r=>match natKeys r with
  | some l=>some (k::l)
  | none=>none
 | _=>none
def insN (a:Nat):List Nat→List Nat
 | []=>[a]
 | b::r=>bif Nat.ble a b then a::b::r else b::insN a r
def sortN:List Nat→List Nat
 | []=>[]
 | a::r=>insN a (sortN r)
def i64L:List Nat→List SV
 | []=>[]
 | a::r=>.i .i64 (.ofNat a)::i64L r
def known149:BI:=fun vs me nx=>match vs with
 | [.p i o]=>match cellsOf me i with
  | some cs=>match nth cs (Nat.add o 6) with
   | some (.m j)=>match T.get j me with
    | some (.m .i64 kvs)=>match natKeys kvs with
     | some ks=>bif and (Nat.ble 1 ks.length) (Nat.ble ks.length 999) then .ret (.sr nx ks.length) (T.put nx (some (.r 3 1 (i64L (sortN ks)))) me) (Pos.succ nx) else .no
     | none=>.no
    | _=>.no
   | _=>.no
  | none=>.no
 | _=>.no
theorem insN_perm (a:Nat):∀ l,(insN a l).Perm (a::l)
 | []=>.refl _
 | b::r=>by
  simp only [insN]
  cases Nat.ble a b with
  | true=>exact .refl _
  | false=>exact ((insN_perm a r).cons b).trans (.swap _ _ _)
theorem sortN_perm:∀ l,(sortN l).Perm l
 | []=>.refl _
 | a::r=>(insN_perm a _).trans ((sortN_perm r).cons a)
theorem insN_sorted (a:Nat):∀ l:List Nat,l.Pairwise (·≤·)→(insN a l).Pairwise (·≤·)
 | [],_=>by simp [insN]
 | b::r,h=>by
  simp only [insN]
  cases hb:Nat.ble a b with
  | true =>
   have hab:=Nat.le_of_ble_eq_true hb
   refine List.Pairwise.cons (fun x hx=>?_) h
   rcases List.mem_cons.1 hx with rfl | hx
   ·exact hab
   ·exact Nat.le_trans hab ((List.pairwise_cons.1 h).1 x hx)
  | false =>
   have hab:b≤a:=by
    rcases Nat.lt_or_ge b a with h1 | h1
    ·omega
    ·rw [Nat.ble_eq_true_of_le h1] at hb; cases hb
   refine List.Pairwise.cons (fun x hx=>?_) (insN_sorted a r (List.pairwise_cons.1 h).2)
   have:=(insN_perm a r).mem_iff.1 hx
   rcases List.mem_cons.1 this with rfl | hx
   ·exact hab
   ·exact (List.pairwise_cons.1 h).1 x hx
theorem sortN_sorted:∀ l,(sortN l).Pairwise (·≤·)
 | []=>List.Pairwise.nil
 | a::r=>insN_sorted a _ (sortN_sorted r)
theorem sort_is {zs:List Int} {ks:List Nat} (h:zs.Perm (ks.map Int.ofNat)):(zs.mergeSort fun x y=>decide (x≤y))=(sortN ks).map Int.ofNat:=by
 have tr:∀ a b c:Int,decide (a≤b)=true→decide (b≤c)=true→decide (a≤c)=true:=fun a b c h1 h2=>by simp only [decide_eq_true_eq] at *; omega
 have to:∀ a b:Int,(decide (a≤b) || decide (b≤a))=true:=fun a b=>by simp only [Bool.or_eq_true,decide_eq_true_eq]; omega
 refine List.Perm.eq_of_pairwise (le:=fun a b=>decide (a≤b)=true) (fun a b _ _ h1 h2=>by simp only [decide_eq_true_eq] at h1 h2; omega) (List.pairwise_mergeSort tr to zs) ?_ (((List.mergeSort_perm zs _).trans h).trans ((sortN_perm ks).map Int.ofNat).symm)
 refine List.pairwise_map.2 ((sortN_sorted ks).imp (fun {a b} hab=>?_))
 simp only [decide_eq_true_eq]
 show (a:Int)≤(b:Int)
 omega
theorem natKeys_spec:∀ {kvs:List (Int × SV)} {ks:List Nat},natKeys kvs=some ks→kvs.map (·.1)=ks.map Int.ofNat
 | [],ks,h=>by simp only [natKeys,Option.some.injEq] at h; subst h; rfl
 | (.ofNat k,x)::r,ks,h=>by
  simp only [natKeys] at h
  cases hr:natKeys r with
  | none=>rw [hr] at h; cases h
  | some l=>rw [hr] at h; injection h with h; subst h; simp [natKeys_spec hr]
 | (.negSucc k,x)::r,ks,h=>by simp [natKeys] at h
theorem i64L_den (g:G):∀ l:List Nat,dens (den1 g) (i64L l)=some ((l.map Int.ofNat).map (Value.int .i64))
 | []=>rfl
 | a::r=>by simp [i64L,dens,den1,den0,i64L_den g r]
theorem known149_ok {W0:World}:BSnd Tryz.prog W0 149 known149:=by
 refine ⟨en149,fun vs me nx v me' nx' h W R g xs hf hx hm=>?_,fun vs me nx v me' nx' h=>?_⟩
 ·unfold known149 at h
  split at h
  ·rename_i i o
   split at h
   ·rename_i cs hc
    split at h
    ·rename_i j hn
     split at h
     ·rename_i kvs hj
      split at h
      ·rename_i ks hks
       cases hb:(and (Nat.ble 1 ks.length) (Nat.ble ks.length 999)) with
       | false=>rw [hb] at h; cases h
       | true =>
        rw [hb] at h
        simp only [Bool.and_eq_true] at hb
        have b1:=Nat.le_of_ble_eq_true hb.1
        have b2:=Nat.le_of_ble_eq_true hb.2
        injection h with h1 h2 h3; subst h1; subst h2; subst h3
        obtain ⟨x,us,d1,d2,rfl⟩:=dens_cons hx
        have:us=[]:=by simpa [dens] using d2.symm
        subst this
        obtain ⟨q,q1,rfl⟩:=den_p d1
        have hne:i≠j:=fun e=>by
         subst e
         unfold cellsOf at hc; rw [hj] at hc; cases hc
        have hc':cellsOf (T.put j none me) i=some cs:=by
         unfold cellsOf at hc ⊢
         rw [T.get_other _ _ _ _ hne]; exact hc
        obtain ⟨y,k1⟩:=(mout hm hj).of_some
        obtain ⟨⟨k2,k3,k4,k5⟩,k6⟩:=k1.of_both.of_fact
        have hks':=natKeys_spec hks
        have hkeys:(y.2.2.2.map (·.1)).Perm (ks.map Int.ofNat):=by
         rw [← hks',← kvDen_keys k3]
         exact k4.map _
        have hlen:y.2.2.2.length=ks.length:=by have:=hkeys.length_eq; simpa using this
        have hcell:∀ w,Sts W0 w (mem g (T.put j none me)++R)→w.cell? ⟨q.1,o + 6,none⟩=some (.map (some y.1)):=by
         intro w hw
         obtain ⟨q',xs,e1,e2,e3⟩:=cells_at hw hc'
         rw [q1] at e1; obtain rfl:=Option.some.inj e1
         refine e3 (o + 6) _ ?_
         obtain ⟨x,f1,f2⟩:=dens_get e2 (show cs[o + 6]?=some (.m j) by rw [← nth_eq]; exact hn)
         rw [f1]
         simp only [den1,den0,k2] at f2
         rw [← f2]; rfl
        refine (f149_run (b:=q.1) (o:=o) (by omega) (by omega) k6 hcell).mono ?_
        rintro e w' ⟨v',zs,z1,⟨av,cv,rfl⟩,rfl,z4⟩
        have hz:zs.Perm (ks.map Int.ofNat):=z1.trans hkeys
        have hzl:zs.length=ks.length:=by have:=hz.length_eq; simpa using this
        rw [sort_is hz,hzl] at z4
        obtain ⟨bb,rfl⟩:=z4.rwSome .here (by omega)
        have s1:Sts W0 w' (OT g j (.m .i64 kvs)::(Rw 3 1 (.slice (some ⟨bb,0,none⟩) ks.length cv) ks.length (((sortN ks).map Int.ofNat).map (Value.int .i64))::(mem g (T.put j none me)++R))):=Sts.to_some y (Sts.to_both (Sts.to_fact ⟨k2,k3,k4,k5⟩ z4.p1))
        have s2:=st_back hj (mback (s1.perm (List.Perm.cons _ (List.perm_middle (l₁:=mem g (T.put j none me)) (a:=Rw 3 1 (.slice (some ⟨bb,0,none⟩) ks.length cv) ks.length (((sortN ks).map Int.ofNat).map (Value.int .i64))) (l₂:=R)).symm)))
        have s3:=s2.perm List.perm_middle
        exact ⟨g.set nx (bb,cv),.slice (some ⟨bb,0,none⟩) ks.length cv,by rw [hzl],G.set_ext _ _ _,G.set_fresh hf _,by rw [Pos.nat_succ]; omega,den_sr (G.set_at g nx _),new_r hf (get_nx hm hf) (i64L_den g _) s3⟩
      ·cases h
     ·cases h
    ·cases h
   ·cases h
  ·cases h
 ·unfold known149 at h
  split at h
  ·split at h
   ·split at h
    ·split at h
     ·split at h
      ·rename_i ks hks
       cases hb:(and (Nat.ble 1 ks.length) (Nat.ble ks.length 999)) with
       | false=>rw [hb] at h; cases h
       | true=>rw [hb] at h; cases h
      ·cases h
     ·cases h
    ·cases h
   ·cases h
  ·cases h
end
noncomputable section
open Go.RowKit
structure FR where
 N:Nat
 base:List Nat
 W:Type
 ev:W→Nat→Value
 fx:List Nat
 th:W→(Nat→Bool)→List Thing
 thC:∀ W f f',(∀ j∈fx,f j=f' j)→th W f=th W f'
def uniqG (base:List Nat):List Oper→Bool
 | []=>true
 | o::r=>(match o.dst with
  | none=>true
  | some d=>!(r.any fun o'=>isD o'.dst d) && !(base.any fun b=>Nat.beq b d)) && uniqG base r
theorem uniqG_base {base:List Nat}:∀ {l:List Oper} {i:Nat} {o:Oper} {d:Nat},uniqG base l=true→l[i]?=some o→o.dst=some d→d∉base
 | [],i,o,d,_,h,_=>by simp at h
 | x::r,i,o,d,hu,hi,hd=>by
  simp only [uniqG,Bool.and_eq_true] at hu
  cases i with
  | zero =>
   simp at hi; subst hi
   have:=hu.1
   rw [hd] at this
   simp only [Bool.and_eq_true,Bool.not_eq_true'] at this
   intro hm
   have h2:=this.2
   rw [List.any_eq_false] at h2
   exact h2 d hm (Nat.beq_refl d)
  | succ i=>exact uniqG_base hu.2 (by simpa using hi) hd
def depG (base:List Nat) (opr:Array Oper) (o:Oper) (t:Nat):Bool:=(base.any fun b=>Nat.beq b t) || o.after.toList.any fun e=>Region.binds .any e && (match opr[e.on]? with
 | some o'=>isD o'.dst t
 | none=>false)
structure OkG (S:FR) (opr:Array Oper) (n:Nat):Prop where
 uq:uniqG S.base opr.toList=true
 tp:topoB opr.toList 0=true
 sz:opr.size=n
structure IG (S:FR) (opr:Array Oper) (W0:World) (R:List Thing) (ds:List Deferred) (listed:Array Bool) (a:Act) (w:World):Prop where
 lsz:listed.size=opr.size
 cls:Closed opr listed
 tsz:a.tmps.size=S.N
 dfs:a.defers=ds
 st:∃ W:S.W,(∀ t,t∈S.base→a.tmps[t]?=some (S.ev W t))∧(∀ i o d,opr[i]?=some o→Lst listed i→o.dst=some d→a.tmps[d]?=some (S.ev W d))∧Sts W0 w (S.th W (fun j=>listed.getD j false)++R)
section
variable {P:Program} {S:FR} {opr:Array Oper} {n:Nat} {W0 w:World} {R:List Thing} {ds:List Deferred} {listed:Array Bool} {a:Act} {Q:Exit→Act→World→Prop} {i d:Nat} {o:Oper}
theorem knownG {W:S.W} (hB:∀ t,t∈S.base→a.tmps[t]?=some (S.ev W t)) (hV:∀ i o d,opr[i]?=some o→Lst listed i→o.dst=some d→a.tmps[d]?=some (S.ev W d))
  (hr:i∈Region.ready .any opr listed) (hs:listed.size=opr.size) (ho:opr[i]?=some o) {t:Nat} (ht:depG S.base opr o t=true):a.tmps[t]?=some (S.ev W t):=by
 obtain ⟨o',r⟩:=ready_of hs hr
 obtain rfl:o'=o:=by have:=r.op; rw [ho] at this; exact (Option.some.inj this).symm
 unfold depG at ht
 rw [Bool.or_eq_true] at ht
 rcases ht with h | h
 ·obtain ⟨b,hb,hh⟩:=List.any_eq_true.1 h
  rw [Nat.eq_of_beq_eq_true hh] at hb
  exact hB t hb
 ·obtain ⟨e,he,hh⟩:=List.any_eq_true.1 h
  simp only [Bool.and_eq_true] at hh
  obtain ⟨hb,hd⟩:=hh
  cases ho':opr[e.on]? with
  | none=>rw [ho'] at hd; cases hd
  | some o2=>rw [ho'] at hd; exact hV _ _ _ ho' (r.src e he hb) (isD_eq.1 hd)
theorem evlG {f:Nat→Value} {ks:List Nat} (h:∀ t∈ks,a.tmps[t]?=some (f t)):Ev (ks.map fun t=>(t,f t)) a.eval:=by
 intro x v hx
 cases x with
 | tmp t =>
  have hx':Proofs.YtadggjnohohedaaGreatDoor.lk (ks.map fun t=>(t,f t)) t=some v:=hx
  have key:a.tmps[t]?=some v:=by
   induction ks with
   | nil=>cases hx'
   | cons k r ih =>
    simp only [List.map_cons,Proofs.YtadggjnohohedaaGreatDoor.lk] at hx'
    cases hb:Nat.beq k t with
    | true =>
     rw [hb] at hx'; simp only [cond_true,Option.some.injEq] at hx'
     have:=Nat.eq_of_beq_eq_true hb; subst this; subst hx'
     exact h k (by simp)
    | false=>rw [hb] at hx'; exact ih (fun t ht=>h t (List.mem_cons_of_mem _ ht)) (by simpa [Proofs.YtadggjnohohedaaGreatDoor.ev] using hx') hx'
  simp [Act.eval,Array.getD_eq_getD_getElem?,key]
 | const u=>simpa [Proofs.YtadggjnohohedaaGreatDoor.ev,Act.eval] using hx
 | global g=>simpa [Proofs.YtadggjnohohedaaGreatDoor.ev,Act.eval] using hx
 | func f=>simpa [Proofs.YtadggjnohohedaaGreatDoor.ev,Act.eval] using hx
theorem putG {v:Value} {N:Nat} (hs:a.tmps.size=N) (hd:d < N) (t:Nat):(a.put (some d) v).tmps[t]?=if t=d then some v else a.tmps[t]?:=by
 by_cases h:t=d
 ·subst h; simp [Act.put,hs,hd]
 ·rw [if_neg h]; simp only [Act.put]; rw [Array.getElem?_setIfInBounds_ne (fun e=>h e.symm)]
theorem nextG {W W':S.W} {w':World} (hok:OkG S opr n) (h:IG S opr W0 R ds listed a w) (hr:i∈Region.ready .any opr listed) (ho:opr[i]?=some o) (hd:o.dst=some d) (hl:d < S.N)
  (hB:∀ t,t∈S.base→a.tmps[t]?=some (S.ev W t)) (hV:∀ i o d,opr[i]?=some o→Lst listed i→o.dst=some d→a.tmps[d]?=some (S.ev W d))
  (hB':∀ t,t∈S.base→S.ev W' t=S.ev W t) (hV':∀ i' o' d',opr[i']?=some o'→Lst listed i'→o'.dst=some d'→S.ev W' d'=S.ev W d')
  (hs:Sts W0 w' (S.th W' (fun j=>(listed.setIfInBounds i true).getD j false)++R)) :
  IG S opr W0 R ds (listed.setIfInBounds i true) (a.put (some d) (S.ev W' d)) w':=by
 obtain ⟨o2,r⟩:=ready_of h.lsz hr
 obtain rfl:o2=o:=by have:=r.op; rw [ho] at this; exact (Option.some.inj this).symm
 have hi:i < listed.size:=by rw [h.lsz]; exact r.lt
 have ho':opr.toList[i]?=some o2:=by simpa using ho
 refine ⟨by simp [h.lsz],h.cls.set hr,by simp [Act.put,h.tsz],h.dfs,W',fun t ht=>?_,fun j o' d' hj hl' hd'=>?_,hs⟩
 ·rw [putG h.tsz hl,if_neg (fun e:t=d=>uniqG_base hok.uq ho' hd (e ▸ ht)),hB' t ht]; exact hB t ht
 ·rw [putG h.tsz hl]
  have hj':opr.toList[j]?=some o':=by simpa using hj
  by_cases e:d'=d
  ·rw [if_pos e,e]
  ·rw [if_neg e]
   rcases (lst_set hi).1 hl' with rfl | hl'
   ·rw [ho] at hj; obtain rfl:=Option.some.inj hj; rw [hd] at hd'; exact (e (Option.some.inj hd').symm).elim
   ·rw [hV' j o' d' hj hl' hd']; exact hV j o' d' hj hl' hd'
theorem stepG (hok:OkG S opr n) (ho:opr[i]?=some o) (hd:o.dst=some d) (hg:o.guard=none) (ks:List Nat) (hks:ks.all (depG S.base opr o)=true) (hl:Nat.blt d S.N=true) (hfx:(S.fx.all fun j=>!Nat.beq j i)=true)
  (hx:∀ W f,EX P W0 (ks.map fun t=>(t,S.ev W t)) (S.th W f++R) o (S.ev W d)) (h:IG S opr W0 R ds listed a w) (hr:i∈Region.ready .any opr listed) :
  wpOp P opr Q i (fun a' w'=>IG S opr W0 R ds (listed.setIfInBounds i true) a' w') a w:=by
 obtain ⟨W,hB,hV,hs⟩:=h.st
 have hev:=evlG (a:=a) (f:=S.ev W) (ks:=ks) (fun t ht=>knownG hB hV hr h.lsz ho (List.all_eq_true.1 hks t ht))
 unfold wpOp
 simp only [ho,wanted_none hg,if_true]
 refine .inl (wp_val (hx W _ a.eval w hev hs) ?_)
 rw [hd]
 refine nextG (W:=W) (W':=W) hok h hr ho hd (blt_lt hl) hB hV (fun _ _=>rfl) (fun _ _ _ _ _ _=>rfl) ?_
 rw [S.thC W _ (fun j=>listed.getD j false) (fun j hj=>getD_set_ne false (fun e=>by subst e; have:=List.all_eq_true.1 hfx i hj; simp at this))]
 exact hs
theorem stepN {α:Type} (hok:OkG S opr n) (ho:opr[i]?=some o) (hd:o.dst=some d) (hg:o.guard=none) (ks:List Nat) (hks:ks.all (depG S.base opr o)=true) (hl:Nat.blt d S.N=true)
  {v:α→Value} {T:S.W→α→Thing} {C:α→Prop} (set:S.W→α→S.W) (hx:∀ W f,EF P W0 (ks.map fun t=>(t,S.ev W t)) (S.th W f++R) o v (fun x=>T W x::(S.th W f++R)) C)
  (hown:∀ W x,S.ev (set W x) d=v x) (hB':∀ W x,∀ t∈S.base,S.ev (set W x) t=S.ev W t) (hV':∀ W x i' o' d',opr[i']?=some o'→i'≠i→(o'.after.toList.any fun e=>Region.binds .any e && Nat.beq e.on i)=false→(∃ l:Array Bool,Closed opr l∧¬ Lst l i∧Lst l i')→o'.dst=some d'→S.ev (set W x) d'=S.ev W d')
  (hT:∀ W x (l:Array Bool) (f':Nat→Bool),Closed opr l→¬ Lst l i→f' i=true→(∀ j,j≠i→f' j=l.getD j false)→(T W x::S.th W (fun j=>l.getD j false)).Perm (S.th (set W x) f')) (h:IG S opr W0 R ds listed a w) (hr:i∈Region.ready .any opr listed) :
  wpOp P opr Q i (fun a' w'=>IG S opr W0 R ds (listed.setIfInBounds i true) a' w') a w:=by
 obtain ⟨W,hB,hV,hs⟩:=h.st
 obtain ⟨o2,r⟩:=ready_of h.lsz hr
 have hi:i < listed.size:=by rw [h.lsz]; exact r.lt
 have hev:=evlG (a:=a) (f:=S.ev W) (ks:=ks) (fun t ht=>knownG hB hV hr h.lsz ho (List.all_eq_true.1 hks t ht))
 unfold wpOp
 simp only [ho,wanted_none hg,if_true]
 obtain ⟨x,w',hc,hrun,hs'⟩:=hx W _ a.eval w hev hs
 refine .inl (wp_val hrun ?_)
 rw [hd,← hown W x]
 refine nextG (W:=W) (W':=set W x) hok h hr ho hd (blt_lt hl) hB hV (hB' W x) (fun i' o' d' hi' hl' hd'=>?_) ?_
 ·have hne:i'≠i:=fun e=>by subst e; exact r.not hl'
  refine hV' W x i' o' d' hi' hne ?_ ⟨listed,h.cls,r.not,hl'⟩ hd'
  cases hb:(o'.after.toList.any fun e=>Region.binds .any e && Nat.beq e.on i) with
  | false=>rfl
  | true=>exact (r.not (cl_edge h.cls hi' hb hl')).elim
 ·have:=hT W x listed (fun j=>(listed.setIfInBounds i true).getD j false) h.cls r.not (set_same hi) (fun j hj=>getD_set_ne false (Ne.symm hj))
  exact hs'.perm (List.Perm.append_right R this)
theorem regionG (hmix:P.follows .mixedOrders=true) (hok:OkG S opr n) {W:S.W} (h1:a.tmps.size=S.N) (h2:a.defers=ds) (hB:∀ t,t∈S.base→a.tmps[t]?=some (S.ev W t)) (hs:Sts W0 w (S.th W (fun _=>false)++R))
  (hstep:∀ (i:Nat),i < n→∀ {listed:Array Bool} {a:Act} {w:World},IG S opr W0 R ds listed a w→i∈Region.ready .any opr listed→wpOp P opr Q i (fun a' w'=>IG S opr W0 R ds (listed.setIfInBounds i true) a' w') a w)
  (hQ:∀ a' w' W,a'.tmps.size=S.N→a'.defers=ds→(∀ t,t∈S.base→a'.tmps[t]?=some (S.ev W t))→(∀ (i:Nat) (o:Oper) (d:Nat),opr[i]?=some o→o.dst=some d→a'.tmps[d]?=some (S.ev W d))→(∃ f:Nat→Bool,(∀ i,i < n→f i=true)∧Sts W0 w' (S.th W f++R))→Q .normal a' w') {id:Nat} :
  (Code.region id opr true).wp P Q a w:=by
 have hI:IG S opr W0 R ds (Array.replicate opr.size false) a { w with drawn:=w.drawn + 1 }:=by
  refine ⟨by simp,fun j oj hj hl=>(lst_replicate _ _ hl).elim,h1,h2,W,hB,fun i o d _ hl=>(lst_replicate _ _ hl).elim,?_⟩
  rw [S.thC W _ (fun _=>false) (fun j _=>not_lst (lst_replicate _ _))]
  exact hs.drew
 refine wp_region_any hmix (wpAny_keep (I:=IG S opr W0 R ds) (fun l a w h=>h.lsz) (fun l a w i h hi=>?_) (fun l a w h hr=>?_) _ _ _ _ hI (by unfold left; exact Nat.le_trans List.countP_le_length (by simp)))
 ·obtain ⟨o,r⟩:=ready_of h.lsz hi
  exact hstep i (by have:=r.lt; rw [hok.sz] at this; exact this) h hi
 ·have hall:=all_of_ready h.lsz hok.tp hr
  rw [hok.sz] at hall
  obtain ⟨W,e2,e3,e4⟩:=h.st
  refine hQ a w W h.tsz h.dfs e2 (fun i o d ho hd=>e3 i o d ho (hall i ?_) hd) ⟨_,hall,e4⟩
  have hi:i < opr.size:=by
   rcases Nat.lt_or_ge i opr.size with h' | h'
   ·exact h'
   ·rw [Array.getElem?_eq_none h'] at ho; cases ho
  rw [← hok.sz]; exact hi
end
section
variable {P:Program} {W0 w:World} {L:List Thing} {kn:Kn}
theorem EF.makeSlice {d g T x y ty pos af} {e n:Nat} {i:TypeInfo} {z:Value} (hx:Proofs.YtadggjnohohedaaGreatDoor.ev kn x=some (.int .i64 (n:Nat))) (hy:Proofs.YtadggjnohohedaaGreatDoor.ev kn y=some (.int .i64 (n:Nat))) (hT:P.underlying T=some (.slice e)) (hi:P.info? e=some i) (hz:i.zero=some z) (hb:i.bytes * n≤281474976710656) (hn:n≤1000000) :
  EF P W0 kn L ⟨d,.makeSlice T x y,ty,pos,af,g⟩ (fun b:Nat=>.slice (some ⟨b,0,none⟩) n n) (fun b=>Bk b e (madeCells z.cells (n * i.size)).toList::L) (fun _=>True):=fun ρ w he hs=>by
 have hb':(i.bytes:Int) * (n:Int)≤281474976710656:=by
  have h:((i.bytes * n:Nat):Int)≤281474976710656:=by omega
  rwa [Int.natCast_mul] at h
 have hr:=run_make (P:=P) w T e i z hT hi hz .i64 .i64 n n (by omega) (Int.le_refl _) hb' (by omega)
 simp only [Int.toNat_natCast] at hr
 refine ⟨w.heap.size,w.alloc (.cells (madeCells z.cells (n * i.size)) e),trivial,?_,?_⟩
 ·simp only [execOp,he x _ hx,he y _ hy,Sem.run_bind,hr,Result.andThen_ok]; rfl
 ·exact hs.newBk e (madeCells z.cells (n * i.size)).toList
end
end
noncomputable section
open Go.RowKit
set_option maxRecDepth 100000
theorem bd335:BD Tryz.prog 335 [.slice none 0 0,.slice none 0 0,.slice none 0 0,.slice none 0 0,.map none,.bool false,.bool false] (lp [(0,1),(1,1),(2,1),(3,1),(4,1),(5,2)]):=by
 have h:Tryz.prog.built 335=fun ps=>Instr.fill (fun i=>(#[(0,1),(1,1),(2,1),(3,1),(4,1),(5,2)]:Array (Nat × Nat))[i]?) #[.slice none 0 0,.slice none 0 0,.slice none 0 0,.slice none 0 0,.map none,.bool false,.bool false] ps:=by kernel_rfl
 unfold BD; rw [h]; funext ps; congr 1; funext i; rw [lp_eq]; simp
theorem perm_at1' {α:Type} {x:α} (a r:List α):(x::(a++r)).Perm (a++([x]++r)):=(List.perm_middle (l₁:=a) (a:=x) (l₂:=r)).symm
theorem perm_at2' {α:Type} {x:α} (a b r:List α):(x::(a++(b++r))).Perm (a++(b++([x]++r))):=by
 have:=(List.perm_middle (l₁:=a++b) (a:=x) (l₂:=r)).symm
 simpa [List.append_assoc] using this
theorem perm_at3' {α:Type} {x:α} (a b c r:List α):(x::(a++(b++(c++r)))).Perm (a++(b++(c++([x]++r)))):=by
 have:=(List.perm_middle (l₁:=a++(b++c)) (a:=x) (l₂:=r)).symm
 simpa [List.append_assoc] using this
theorem perm_at4b {α:Type} {x:α} (a b c d:List α):(x::(a++(b++(c++d)))).Perm (a++(b++(c++(d++[x])))):=by
 have:=(List.perm_middle (l₁:=a++(b++(c++d))) (a:=x) (l₂:=[])).symm
 simpa [List.append_assoc] using this
theorem perm_at5b {α:Type} {x:α} (a b c d e:List α):(x::(a++(b++(c++(d++e))))).Perm (a++(b++(c++(d++(e++[x]))))):=by
 have:=(List.perm_middle (l₁:=a++(b++(c++(d++e)))) (a:=x) (l₂:=[])).symm
 simpa [List.append_assoc] using this
structure Wb where
 a:Nat
 b:Nat
 c:Nat
 d:Nat
 m:Nat
 x:Nat
noncomputable def r177:Array Oper:=match Tryz.f177.body with
 | some (.seq _ (.seq _ (.seq (.region _ o _) _)))=>o
 | _=>#[]
theorem dst177 (i:Nat) (o:Oper) (d:Nat) (hi:r177[i]?=some o) (hd:o.dst=some d):(i=0∧d=18)∨(i=1∧d=19)∨(i=2∧d=20)∨(i=3∧d=21)∨(i=4∧d=22)∨(i=5∧d=23)∨(i=6∧d=24)∨(i=7∧d=25)∨(i=8∧d=26)∨(i=9∧d=27)∨(i=10∧d=28)∨(i=11∧d=29)∨(i=12∧d=9):=by
 have hlt:i < 13:=by
  rcases Nat.lt_or_ge i r177.size with h' | h'
  ·exact h'
  ·rw [Array.getElem?_eq_none h'] at hi; cases hi
 rcases (show i=0∨i=1∨i=2∨i=3∨i=4∨i=5∨i=6∨i=7∨i=8∨i=9∨i=10∨i=11∨i=12 by omega) with rfl | rfl | rfl | rfl | rfl | rfl | rfl | rfl | rfl | rfl | rfl | rfl | rfl
 all_goals (obtain rfl:=Option.some.inj (hi.symm.trans (show r177[_]?=some _ from rfl)); injection hd with hd; subst hd; simp)
noncomputable def zv94:List Value:=[.int .i64 0,.string ⟨#[]⟩,.int .u64 0,.int .i64 0,.int .i64 0,.int .i64 0]
noncomputable def cells335 (n:Nat) (f0 f1:Bool) (W:Wb):List Value:=[slc W.a n,slc W.b n,slc W.c n,slc W.d n,.map (some W.m),.bool f0,.bool f1]
noncomputable def tab177 (n b5:Nat) (f0 f1:Bool) (sp kn:Value) (W:Wb):Kn:=[(0,sp),(1,kn),(5,pp b5),(6,.pointer none),(7,.bool false),(8,.int .i64 (n:Nat)),(18,.int .i64 (n:Nat)),(19,slc W.a n),(20,.int .i64 (n:Nat)),(21,slc W.b n),(22,.int .i64 (n:Nat)),(23,slc W.c n),(24,.int .i64 (n:Nat)),(25,slc W.d n),(26,.map (some W.m)),(27,.agg #[.bool f0,.bool f1]),(28,.agg (cells335 n f0 f1 W).toArray),(29,pp W.x),(9,pp W.x)]
noncomputable def th177 (n:Nat) (f0 f1:Bool) (W:Wb) (f:Nat→Bool):List Thing:=(bif f 1 then [Bk W.a 94 (zeros zv94 n)] else [])++((bif f 3 then [Bk W.b 4 (zeros [.bool false] n)] else [])++((bif f 5 then [Bk W.c 3 (zeros [.int .i64 0] n)] else [])++((bif f 7 then [Bk W.d 3 (zeros [.int .i64 0] n)] else [])++((bif f 8 then [Mp (ienc .u16) W.m []] else [])++(bif f 11 then [Bk W.x 335 (cells335 n f0 f1 W)] else [])))))
noncomputable def S177 (n b5:Nat) (f0 f1:Bool) (sp kn:Value):FR where
 N:=103
 base:=[0,1,5,6,7,8]
 W:=Wb
 ev W d:=(Proofs.YtadggjnohohedaaGreatDoor.lk (tab177 n b5 f0 f1 sp kn W) d).getD undef
 fx:=[1,3,5,7,8,11]
 th:=th177 n f0 f1
 thC W f f' h:=by unfold th177; rw [h 1 (by decide),h 3 (by decide),h 5 (by decide),h 7 (by decide),h 8 (by decide),h 11 (by decide)]
theorem zeros_made (zero:List Value) (hz:0 < zero.length) (z:Value) (hc:z.cells=zero.toArray) (n:Nat):(madeCells z.cells (n * zero.length)).toList=zeros zero n:=by
 unfold madeCells
 rw [hc]
 have:=zeros_arr zero hz n
 rw [show (((Array.range (n * zero.length)).map fun i=>zero.toArray[i % zero.toArray.size]!)).toList=zeros zero n by rw [this]]
theorem ms106 {W0:World} {L:List Thing} {kn:Kn} {d g x y ty pos af} {n:Nat} (hx:Proofs.YtadggjnohohedaaGreatDoor.ev kn x=some (.int .i64 (n:Nat))) (hy:Proofs.YtadggjnohohedaaGreatDoor.ev kn y=some (.int .i64 (n:Nat))) (hn:n≤1000000) :
  EF Tryz.prog W0 kn L ⟨d,.makeSlice 106 x y,ty,pos,af,g⟩ (fun b:Nat=>.slice (some ⟨b,0,none⟩) n n) (fun b=>Bk b 94 (zeros zv94 n)::L) (fun _=>True):=by
 obtain ⟨i,hi⟩:∃ i,Tryz.prog.info? 94=some i:=⟨_,rfl⟩
 have h1:i.size=6:=by
  have q:(Tryz.prog.info? 94).map (·.size)=some 6:=by kernel_rfl
  rw [hi] at q; exact Option.some.inj q
 have h2:i.bytes=56:=by
  have q:(Tryz.prog.info? 94).map (·.bytes)=some 56:=by kernel_rfl
  rw [hi] at q; exact Option.some.inj q
 have h3:i.zero=some (.agg zv94.toArray):=by
  have q:(Tryz.prog.info? 94).map (·.zero)=some (some (.agg zv94.toArray)):=by kernel_rfl
  rw [hi] at q; exact Option.some.inj q
 have:=EF.makeSlice (W0:=W0) (L:=L) (d:=d) (g:=g) (ty:=ty) (pos:=pos) (af:=af) hx hy Tryz.underlying106 hi h3 (by rw [h2]; omega) hn
 rw [h1,show n * 6=n * zv94.length from rfl,zeros_made zv94 (by decide) (.agg zv94.toArray) rfl n] at this
 exact this
theorem ms332 {W0:World} {L:List Thing} {kn:Kn} {d g x y ty pos af} {n:Nat} (hx:Proofs.YtadggjnohohedaaGreatDoor.ev kn x=some (.int .i64 (n:Nat))) (hy:Proofs.YtadggjnohohedaaGreatDoor.ev kn y=some (.int .i64 (n:Nat))) (hn:n≤1000000) :
  EF Tryz.prog W0 kn L ⟨d,.makeSlice 332 x y,ty,pos,af,g⟩ (fun b:Nat=>.slice (some ⟨b,0,none⟩) n n) (fun b=>Bk b 4 (zeros [.bool false] n)::L) (fun _=>True):=by
 obtain ⟨i,hi⟩:∃ i,Tryz.prog.info? 4=some i:=⟨_,rfl⟩
 have h1:i.size=1:=by
  have q:(Tryz.prog.info? 4).map (·.size)=some 1:=by kernel_rfl
  rw [hi] at q; exact Option.some.inj q
 have h2:i.bytes=1:=by
  have q:(Tryz.prog.info? 4).map (·.bytes)=some 1:=by kernel_rfl
  rw [hi] at q; exact Option.some.inj q
 have h3:i.zero=some (.bool false):=by
  have q:(Tryz.prog.info? 4).map (·.zero)=some (some (.bool false)):=by kernel_rfl
  rw [hi] at q; exact Option.some.inj q
 have:=EF.makeSlice (W0:=W0) (L:=L) (d:=d) (g:=g) (ty:=ty) (pos:=pos) (af:=af) hx hy Tryz.underlying332 hi h3 (by rw [h2]; omega) hn
 rw [h1,show n * 1=n * ([.bool false]:List Value).length from rfl,zeros_made [.bool false] (by decide) (.bool false) rfl n] at this
 exact this
theorem ms40 {W0:World} {L:List Thing} {kn:Kn} {d g x y ty pos af} {n:Nat} (hx:Proofs.YtadggjnohohedaaGreatDoor.ev kn x=some (.int .i64 (n:Nat))) (hy:Proofs.YtadggjnohohedaaGreatDoor.ev kn y=some (.int .i64 (n:Nat))) (hn:n≤1000000) :
  EF Tryz.prog W0 kn L ⟨d,.makeSlice 40 x y,ty,pos,af,g⟩ (fun b:Nat=>.slice (some ⟨b,0,none⟩) n n) (fun b=>Bk b 3 (zeros [.int .i64 0] n)::L) (fun _=>True):=by
 obtain ⟨i,hi⟩:∃ i,Tryz.prog.info? 3=some i:=⟨_,rfl⟩
 have h1:i.size=1:=by
  have q:(Tryz.prog.info? 3).map (·.size)=some 1:=by kernel_rfl
  rw [hi] at q; exact Option.some.inj q
 have h2:i.bytes=8:=by
  have q:(Tryz.prog.info? 3).map (·.bytes)=some 8:=by kernel_rfl
  rw [hi] at q; exact Option.some.inj q
 have h3:i.zero=some (.int .i64 0):=by
  have q:(Tryz.prog.info? 3).map (·.zero)=some (some (.int .i64 0)):=by kernel_rfl
  rw [hi] at q; exact Option.some.inj q
 have:=EF.makeSlice (W0:=W0) (L:=L) (d:=d) (g:=g) (ty:=ty) (pos:=pos) (af:=af) hx hy Tryz.underlying40 hi h3 (by rw [h2]; omega) hn
 rw [h1,show n * 1=n * ([.int .i64 0]:List Value).length from rfl,zeros_made [.int .i64 0] (by decide) (.int .i64 0) rfl n] at this
 exact this
section
variable {n b5:Nat} {f0 f1:Bool} {sp kn:Value} {W0 w:World} {R:List Thing} {ds:List Deferred} {listed:Array Bool} {a:Act} {Q:Exit→Act→World→Prop}
theorem okG177:OkG (S177 n b5 f0 f1 sp kn) r177 13:=⟨by kernel_rfl,by kernel_rfl,by kernel_rfl⟩
theorem u0 (h:IG (S177 n b5 f0 f1 sp kn) r177 W0 (Bk b5 140 [.bool f0,.bool f1]::R) ds listed a w) (hr:0∈Region.ready .any r177 listed):wpOp Tryz.prog r177 Q 0 (fun a' w'=>IG (S177 n b5 f0 f1 sp kn) r177 W0 (Bk b5 140 [.bool f0,.bool f1]::R) ds (listed.setIfInBounds 0 true) a' w') a w:=stepG okG177 (o:=_) rfl rfl rfl [8] (by kernel_rfl) rfl (by kernel_rfl) (fun W f=>EX.move rfl) h hr
theorem u1 (hn:n≤1000000) (h:IG (S177 n b5 f0 f1 sp kn) r177 W0 (Bk b5 140 [.bool f0,.bool f1]::R) ds listed a w) (hr:1∈Region.ready .any r177 listed):wpOp Tryz.prog r177 Q 1 (fun a' w'=>IG (S177 n b5 f0 f1 sp kn) r177 W0 (Bk b5 140 [.bool f0,.bool f1]::R) ds (listed.setIfInBounds 1 true) a' w') a w:=by
 refine stepN (S:=S177 n b5 f0 f1 sp kn) okG177 (i:=1) (o:=_) rfl rfl rfl [18] (by kernel_rfl) rfl (v:=fun x:Nat=>slc x n) (T:=fun (_:(S177 n b5 f0 f1 sp kn).W)=>fun x:Nat=>Bk x 94 (zeros zv94 n)) (C:=fun _=>True) (fun W x=>{ W with a:=x }) (fun W f=>ms106 rfl rfl hn) (fun _ _=>rfl) (fun W x t ht=>?_) (fun W x i' o' d' hi' hne hed _ hd=>?_) (fun W x l f' hcl hni h1 hf=>?_) h hr
 ·simp only [S177,List.mem_cons,List.not_mem_nil,or_false] at ht
  rcases ht with rfl | rfl | rfl | rfl | rfl | rfl <;> rfl
 ·rcases dst177 i' o' d' hi' hd with ⟨rfl,rfl⟩ | ⟨rfl,rfl⟩ | ⟨rfl,rfl⟩ | ⟨rfl,rfl⟩ | ⟨rfl,rfl⟩ | ⟨rfl,rfl⟩ | ⟨rfl,rfl⟩ | ⟨rfl,rfl⟩ | ⟨rfl,rfl⟩ | ⟨rfl,rfl⟩ | ⟨rfl,rfl⟩ | ⟨rfl,rfl⟩ | ⟨rfl,rfl⟩
  all_goals first | rfl | exact (hne rfl).elim | (obtain rfl:=Option.some.inj (hi'.symm.trans (show r177[_]?=some _ from rfl)); exact absurd hed (by decide))
 ·have h0:=not_lst hni
  have h11:l.getD 11 false=false:=not_lst (fun hl=>hni (cl_edge hcl (show r177[10]?=some _ from rfl) (k:=1) (by kernel_rfl) (cl_edge hcl (show r177[11]?=some _ from rfl) (k:=10) (by kernel_rfl) hl)))
  simp only [S177,th177,h0,h11,h1,hf 3 (by decide),hf 5 (by decide),hf 7 (by decide),hf 8 (by decide),hf 11 (by decide),cond_true,cond_false,List.nil_append,List.append_nil]
  exact .refl _
theorem u2 (h:IG (S177 n b5 f0 f1 sp kn) r177 W0 (Bk b5 140 [.bool f0,.bool f1]::R) ds listed a w) (hr:2∈Region.ready .any r177 listed):wpOp Tryz.prog r177 Q 2 (fun a' w'=>IG (S177 n b5 f0 f1 sp kn) r177 W0 (Bk b5 140 [.bool f0,.bool f1]::R) ds (listed.setIfInBounds 2 true) a' w') a w:=stepG okG177 (o:=_) rfl rfl rfl [8] (by kernel_rfl) rfl (by kernel_rfl) (fun W f=>EX.move rfl) h hr
theorem u3 (hn:n≤1000000) (h:IG (S177 n b5 f0 f1 sp kn) r177 W0 (Bk b5 140 [.bool f0,.bool f1]::R) ds listed a w) (hr:3∈Region.ready .any r177 listed):wpOp Tryz.prog r177 Q 3 (fun a' w'=>IG (S177 n b5 f0 f1 sp kn) r177 W0 (Bk b5 140 [.bool f0,.bool f1]::R) ds (listed.setIfInBounds 3 true) a' w') a w:=by
 refine stepN (S:=S177 n b5 f0 f1 sp kn) okG177 (i:=3) (o:=_) rfl rfl rfl [20] (by kernel_rfl) rfl (v:=fun x:Nat=>slc x n) (T:=fun (_:(S177 n b5 f0 f1 sp kn).W)=>fun x:Nat=>Bk x 4 (zeros [.bool false] n)) (C:=fun _=>True) (fun W x=>{ W with b:=x }) (fun W f=>ms332 rfl rfl hn) (fun _ _=>rfl) (fun W x t ht=>?_) (fun W x i' o' d' hi' hne hed _ hd=>?_) (fun W x l f' hcl hni h1 hf=>?_) h hr
 ·simp only [S177,List.mem_cons,List.not_mem_nil,or_false] at ht
  rcases ht with rfl | rfl | rfl | rfl | rfl | rfl <;> rfl
 ·rcases dst177 i' o' d' hi' hd with ⟨rfl,rfl⟩ | ⟨rfl,rfl⟩ | ⟨rfl,rfl⟩ | ⟨rfl,rfl⟩ | ⟨rfl,rfl⟩ | ⟨rfl,rfl⟩ | ⟨rfl,rfl⟩ | ⟨rfl,rfl⟩ | ⟨rfl,rfl⟩ | ⟨rfl,rfl⟩ | ⟨rfl,rfl⟩ | ⟨rfl,rfl⟩ | ⟨rfl,rfl⟩
  all_goals first | rfl | exact (hne rfl).elim | (obtain rfl:=Option.some.inj (hi'.symm.trans (show r177[_]?=some _ from rfl)); exact absurd hed (by decide))
 ·have h0:=not_lst hni
  have h11:l.getD 11 false=false:=not_lst (fun hl=>hni (cl_edge hcl (show r177[10]?=some _ from rfl) (k:=3) (by kernel_rfl) (cl_edge hcl (show r177[11]?=some _ from rfl) (k:=10) (by kernel_rfl) hl)))
  simp only [S177,th177,h0,h11,h1,hf 1 (by decide),hf 5 (by decide),hf 7 (by decide),hf 8 (by decide),hf 11 (by decide),cond_true,cond_false,List.nil_append,List.append_nil]
  exact perm_at1' _ _
theorem u4 (h:IG (S177 n b5 f0 f1 sp kn) r177 W0 (Bk b5 140 [.bool f0,.bool f1]::R) ds listed a w) (hr:4∈Region.ready .any r177 listed):wpOp Tryz.prog r177 Q 4 (fun a' w'=>IG (S177 n b5 f0 f1 sp kn) r177 W0 (Bk b5 140 [.bool f0,.bool f1]::R) ds (listed.setIfInBounds 4 true) a' w') a w:=stepG okG177 (o:=_) rfl rfl rfl [8] (by kernel_rfl) rfl (by kernel_rfl) (fun W f=>EX.move rfl) h hr
theorem u5 (hn:n≤1000000) (h:IG (S177 n b5 f0 f1 sp kn) r177 W0 (Bk b5 140 [.bool f0,.bool f1]::R) ds listed a w) (hr:5∈Region.ready .any r177 listed):wpOp Tryz.prog r177 Q 5 (fun a' w'=>IG (S177 n b5 f0 f1 sp kn) r177 W0 (Bk b5 140 [.bool f0,.bool f1]::R) ds (listed.setIfInBounds 5 true) a' w') a w:=by
 refine stepN (S:=S177 n b5 f0 f1 sp kn) okG177 (i:=5) (o:=_) rfl rfl rfl [22] (by kernel_rfl) rfl (v:=fun x:Nat=>slc x n) (T:=fun (_:(S177 n b5 f0 f1 sp kn).W)=>fun x:Nat=>Bk x 3 (zeros [.int .i64 0] n)) (C:=fun _=>True) (fun W x=>{ W with c:=x }) (fun W f=>ms40 rfl rfl hn) (fun _ _=>rfl) (fun W x t ht=>?_) (fun W x i' o' d' hi' hne hed _ hd=>?_) (fun W x l f' hcl hni h1 hf=>?_) h hr
 ·simp only [S177,List.mem_cons,List.not_mem_nil,or_false] at ht
  rcases ht with rfl | rfl | rfl | rfl | rfl | rfl <;> rfl
 ·rcases dst177 i' o' d' hi' hd with ⟨rfl,rfl⟩ | ⟨rfl,rfl⟩ | ⟨rfl,rfl⟩ | ⟨rfl,rfl⟩ | ⟨rfl,rfl⟩ | ⟨rfl,rfl⟩ | ⟨rfl,rfl⟩ | ⟨rfl,rfl⟩ | ⟨rfl,rfl⟩ | ⟨rfl,rfl⟩ | ⟨rfl,rfl⟩ | ⟨rfl,rfl⟩ | ⟨rfl,rfl⟩
  all_goals first | rfl | exact (hne rfl).elim | (obtain rfl:=Option.some.inj (hi'.symm.trans (show r177[_]?=some _ from rfl)); exact absurd hed (by decide))
 ·have h0:=not_lst hni
  have h11:l.getD 11 false=false:=not_lst (fun hl=>hni (cl_edge hcl (show r177[10]?=some _ from rfl) (k:=5) (by kernel_rfl) (cl_edge hcl (show r177[11]?=some _ from rfl) (k:=10) (by kernel_rfl) hl)))
  simp only [S177,th177,h0,h11,h1,hf 1 (by decide),hf 3 (by decide),hf 7 (by decide),hf 8 (by decide),hf 11 (by decide),cond_true,cond_false,List.nil_append,List.append_nil]
  exact perm_at2' _ _ _
theorem u6 (h:IG (S177 n b5 f0 f1 sp kn) r177 W0 (Bk b5 140 [.bool f0,.bool f1]::R) ds listed a w) (hr:6∈Region.ready .any r177 listed):wpOp Tryz.prog r177 Q 6 (fun a' w'=>IG (S177 n b5 f0 f1 sp kn) r177 W0 (Bk b5 140 [.bool f0,.bool f1]::R) ds (listed.setIfInBounds 6 true) a' w') a w:=stepG okG177 (o:=_) rfl rfl rfl [8] (by kernel_rfl) rfl (by kernel_rfl) (fun W f=>EX.move rfl) h hr
theorem u7 (hn:n≤1000000) (h:IG (S177 n b5 f0 f1 sp kn) r177 W0 (Bk b5 140 [.bool f0,.bool f1]::R) ds listed a w) (hr:7∈Region.ready .any r177 listed):wpOp Tryz.prog r177 Q 7 (fun a' w'=>IG (S177 n b5 f0 f1 sp kn) r177 W0 (Bk b5 140 [.bool f0,.bool f1]::R) ds (listed.setIfInBounds 7 true) a' w') a w:=by
 refine stepN (S:=S177 n b5 f0 f1 sp kn) okG177 (i:=7) (o:=_) rfl rfl rfl [24] (by kernel_rfl) rfl (v:=fun x:Nat=>slc x n) (T:=fun (_:(S177 n b5 f0 f1 sp kn).W)=>fun x:Nat=>Bk x 3 (zeros [.int .i64 0] n)) (C:=fun _=>True) (fun W x=>{ W with d:=x }) (fun W f=>ms40 rfl rfl hn) (fun _ _=>rfl) (fun W x t ht=>?_) (fun W x i' o' d' hi' hne hed _ hd=>?_) (fun W x l f' hcl hni h1 hf=>?_) h hr
 ·simp only [S177,List.mem_cons,List.not_mem_nil,or_false] at ht
  rcases ht with rfl | rfl | rfl | rfl | rfl | rfl <;> rfl
 ·rcases dst177 i' o' d' hi' hd with ⟨rfl,rfl⟩ | ⟨rfl,rfl⟩ | ⟨rfl,rfl⟩ | ⟨rfl,rfl⟩ | ⟨rfl,rfl⟩ | ⟨rfl,rfl⟩ | ⟨rfl,rfl⟩ | ⟨rfl,rfl⟩ | ⟨rfl,rfl⟩ | ⟨rfl,rfl⟩ | ⟨rfl,rfl⟩ | ⟨rfl,rfl⟩ | ⟨rfl,rfl⟩
  all_goals first | rfl | exact (hne rfl).elim | (obtain rfl:=Option.some.inj (hi'.symm.trans (show r177[_]?=some _ from rfl)); exact absurd hed (by decide))
 ·have h0:=not_lst hni
  have h11:l.getD 11 false=false:=not_lst (fun hl=>hni (cl_edge hcl (show r177[10]?=some _ from rfl) (k:=7) (by kernel_rfl) (cl_edge hcl (show r177[11]?=some _ from rfl) (k:=10) (by kernel_rfl) hl)))
  simp only [S177,th177,h0,h11,h1,hf 1 (by decide),hf 3 (by decide),hf 5 (by decide),hf 8 (by decide),hf 11 (by decide),cond_true,cond_false,List.nil_append,List.append_nil]
  exact perm_at3' _ _ _ _
theorem u8 (h:IG (S177 n b5 f0 f1 sp kn) r177 W0 (Bk b5 140 [.bool f0,.bool f1]::R) ds listed a w) (hr:8∈Region.ready .any r177 listed):wpOp Tryz.prog r177 Q 8 (fun a' w'=>IG (S177 n b5 f0 f1 sp kn) r177 W0 (Bk b5 140 [.bool f0,.bool f1]::R) ds (listed.setIfInBounds 8 true) a' w') a w:=by
 refine stepN (S:=S177 n b5 f0 f1 sp kn) okG177 (i:=8) (o:=_) rfl rfl rfl [] (by kernel_rfl) rfl (v:=fun x:Nat=>.map (some x)) (T:=fun (_:(S177 n b5 f0 f1 sp kn).W)=>fun x:Nat=>Mp (ienc .u16) x []) (C:=fun _=>True) (fun W x=>{ W with m:=x }) (fun W f=>EF.makeMap (ienc .u16)) (fun _ _=>rfl) (fun W x t ht=>?_) (fun W x i' o' d' hi' hne hed _ hd=>?_) (fun W x l f' hcl hni h1 hf=>?_) h hr
 ·simp only [S177,List.mem_cons,List.not_mem_nil,or_false] at ht
  rcases ht with rfl | rfl | rfl | rfl | rfl | rfl <;> rfl
 ·rcases dst177 i' o' d' hi' hd with ⟨rfl,rfl⟩ | ⟨rfl,rfl⟩ | ⟨rfl,rfl⟩ | ⟨rfl,rfl⟩ | ⟨rfl,rfl⟩ | ⟨rfl,rfl⟩ | ⟨rfl,rfl⟩ | ⟨rfl,rfl⟩ | ⟨rfl,rfl⟩ | ⟨rfl,rfl⟩ | ⟨rfl,rfl⟩ | ⟨rfl,rfl⟩ | ⟨rfl,rfl⟩
  all_goals first | rfl | exact (hne rfl).elim | (obtain rfl:=Option.some.inj (hi'.symm.trans (show r177[_]?=some _ from rfl)); exact absurd hed (by decide))
 ·have h0:=not_lst hni
  have h11:l.getD 11 false=false:=not_lst (fun hl=>hni (cl_edge hcl (show r177[10]?=some _ from rfl) (k:=8) (by kernel_rfl) (cl_edge hcl (show r177[11]?=some _ from rfl) (k:=10) (by kernel_rfl) hl)))
  simp only [S177,th177,h0,h11,h1,hf 1 (by decide),hf 3 (by decide),hf 5 (by decide),hf 7 (by decide),hf 11 (by decide),cond_true,cond_false,List.nil_append,List.append_nil]
  exact perm_at4b _ _ _ _
theorem u9 (h:IG (S177 n b5 f0 f1 sp kn) r177 W0 (Bk b5 140 [.bool f0,.bool f1]::R) ds listed a w) (hr:9∈Region.ready .any r177 listed):wpOp Tryz.prog r177 Q 9 (fun a' w'=>IG (S177 n b5 f0 f1 sp kn) r177 W0 (Bk b5 140 [.bool f0,.bool f1]::R) ds (listed.setIfInBounds 9 true) a' w') a w:=stepG okG177 (o:=_) rfl rfl rfl [5] (by kernel_rfl) rfl (by kernel_rfl) (fun W f ρ w he hs=>(EX.loadN (n:=2) (cs:=[.bool f0,.bool f1]) (L:=Bk b5 140 [.bool f0,.bool f1]::R) rfl .here (Many.of Tryz.underlying140 rfl (by kernel_rfl)) rfl) ρ w he (drop_mem hs)) h hr
theorem u10 (h:IG (S177 n b5 f0 f1 sp kn) r177 W0 (Bk b5 140 [.bool f0,.bool f1]::R) ds listed a w) (hr:10∈Region.ready .any r177 listed):wpOp Tryz.prog r177 Q 10 (fun a' w'=>IG (S177 n b5 f0 f1 sp kn) r177 W0 (Bk b5 140 [.bool f0,.bool f1]::R) ds (listed.setIfInBounds 10 true) a' w') a w:=stepG okG177 (o:=_) rfl rfl rfl [19,21,23,25,26,27] (by kernel_rfl) rfl (by kernel_rfl) (fun W f=>EX.build rfl bd335 rfl) h hr
theorem u11 (h:IG (S177 n b5 f0 f1 sp kn) r177 W0 (Bk b5 140 [.bool f0,.bool f1]::R) ds listed a w) (hr:11∈Region.ready .any r177 listed):wpOp Tryz.prog r177 Q 11 (fun a' w'=>IG (S177 n b5 f0 f1 sp kn) r177 W0 (Bk b5 140 [.bool f0,.bool f1]::R) ds (listed.setIfInBounds 11 true) a' w') a w:=by
 refine stepN (S:=S177 n b5 f0 f1 sp kn) okG177 (i:=11) (o:=_) rfl rfl rfl [28] (by kernel_rfl) rfl (v:=fun x:Nat=>pp x) (T:=fun (W:Wb) (x:Nat)=>Bk x 335 (cells335 n f0 f1 W)) (C:=fun _=>True) (fun W x=>{ W with x:=x }) (fun W f=>EF.boxA (cs:=(cells335 n f0 f1 W).toArray) rfl) (fun _ _=>rfl) (fun W x t ht=>?_) (fun W x i' o' d' hi' hne hed _ hd=>?_) (fun W x l f' hcl hni h1 hf=>?_) h hr
 ·simp only [S177,List.mem_cons,List.not_mem_nil,or_false] at ht
  rcases ht with rfl | rfl | rfl | rfl | rfl | rfl <;> rfl
 ·rcases dst177 i' o' d' hi' hd with ⟨rfl,rfl⟩ | ⟨rfl,rfl⟩ | ⟨rfl,rfl⟩ | ⟨rfl,rfl⟩ | ⟨rfl,rfl⟩ | ⟨rfl,rfl⟩ | ⟨rfl,rfl⟩ | ⟨rfl,rfl⟩ | ⟨rfl,rfl⟩ | ⟨rfl,rfl⟩ | ⟨rfl,rfl⟩ | ⟨rfl,rfl⟩ | ⟨rfl,rfl⟩
  all_goals first | rfl | exact (hne rfl).elim | (obtain rfl:=Option.some.inj (hi'.symm.trans (show r177[_]?=some _ from rfl)); exact absurd hed (by decide))
 ·have h0:=not_lst hni
  simp only [S177,th177,h0,h1,hf 1 (by decide),hf 3 (by decide),hf 5 (by decide),hf 7 (by decide),hf 8 (by decide),cond_true,cond_false,List.append_nil]
  exact perm_at5b _ _ _ _ _
theorem u12 (h:IG (S177 n b5 f0 f1 sp kn) r177 W0 (Bk b5 140 [.bool f0,.bool f1]::R) ds listed a w) (hr:12∈Region.ready .any r177 listed):wpOp Tryz.prog r177 Q 12 (fun a' w'=>IG (S177 n b5 f0 f1 sp kn) r177 W0 (Bk b5 140 [.bool f0,.bool f1]::R) ds (listed.setIfInBounds 12 true) a' w') a w:=stepG okG177 (o:=_) rfl rfl rfl [29] (by kernel_rfl) rfl (by kernel_rfl) (fun W f=>EX.assign rfl) h hr
end
end
noncomputable section
open Go.RowKit
set_option maxRecDepth 100000
def cc177:CC:=(.seq (.seq (.ops [.v none (.mv (.c (.i .i64 1))) 0] [(p11,0)]) (.block 0 (.loop (.seq (.seq (.ops [.v none (.mv (.t p11)) 0,.v none (.mv (.t p9)) 0,.v none (.ar .lss .o (.l 1) (.l 0)) 0] [(p33,0)]) (.cond (.t p33) .skip (.exit 0))) (.seq (.block 1 (.seq (.ops [.v none (.mv (.t p1)) 0,.v none (.mv (.t p11)) 0,.c none p148 [(.l 1),(.l 0)],.v none (.mv (.l 0)) 0,.v none (.ext (.l 0) 0) 0,.v none (.ext (.l 1) 1) 0,.e none (.al 94 z94),.e none (.st 6 (.l 0) (.l 2)),.v none (.mv (.l 2)) 0] [(p12,2)]) (.seq (.drw [0,1,2,3,4,5,6,7] [.v none (.mv (.t p10)) 0,.v none (.nc (.l 0)) 0,.v none (.fa 0 (.l 0)) 0,.v none (.ld (.l 0)) 0,.v none (.mv (.t p11)) 0,.v none (.ldn 6 (.t p12)) 0,.v none (.ia 6 (.l 2) (.l 1)) 0,.e none (.st 6 (.l 0) (.l 1))] []) (.seq (.ops [.v none (.fa 0 (.t p12)) 0,.v none (.ld (.l 0)) 0] [(p50,0)]) (.block 2 (.seq (.ops [.v none (.ar .eql .o (.t p50) (.c (.i .i64 3))) 0,.v none (.mv (.l 0)) 0] [(p51,0)]) (.cond (.t p51) (.drw [0,1,2,3,4,5,6,7,8] [.v none (.mv (.t p10)) 0,.v none (.nc (.l 0)) 0,.v none (.fa 2 (.l 0)) 0,.v none (.ld (.l 0)) 0,.v none (.fa 3 (.t p12)) 0,.v none (.ld (.l 0)) 0,.v none (.mv (.t p11)) 0,.v none (.ia 1 (.l 3) (.l 1)) 0,.e none (.st 1 (.l 0) (.l 1))] []) (.seq (.ops [.v none (.ar .eql .o (.t p50) (.c (.i .i64 5))) 0,.v none (.mv (.l 0)) 0] [(p61,0)]) (.cond (.t p61) (.drw [0,1,2,3,4,5,6,7,8] [.v none (.mv (.t p10)) 0,.v none (.nc (.l 0)) 0,.v none (.fa 3 (.l 0)) 0,.v none (.ld (.l 0)) 0,.v none (.fa 3 (.t p12)) 0,.v none (.ld (.l 0)) 0,.v none (.mv (.t p11)) 0,.v none (.ia 1 (.l 3) (.l 1)) 0,.e none (.st 1 (.l 0) (.l 1))] []) (.seq (.ops [.v none (.ar .eql .o (.t p50) (.c (.i .i64 6))) 0,.v none (.mv (.l 0)) 0] [(p71,0)]) (.cond (.t p71) (.drw [0,1,2,3,4,5,6,7,8,9,10] [.v none (.mv (.t p10)) 0,.v none (.nc (.l 0)) 0,.v none (.fa 4 (.l 0)) 0,.v none (.ld (.l 0)) 0,.v none (.fa 3 (.t p12)) 0,.v none (.ld (.l 0)) 0,.v none (.fa 4 (.t p12)) 0,.v none (.ld (.l 0)) 0,.v none (.bld z62 [(0,1,(.l 2)),(1,1,(.l 0))]) 0,.v none (.mv (.t p11)) 0,.e none (.mu .u16 (.l 6) (.l 1) (.l 0))] []) .skip))))))))))) (.ops [.v none (.mv (.t p11)) 0,.v none (.ar .add .o (.l 0) (.c (.i .i64 1))) 0,.v none (.mv (.l 0)) 0] [(p11,0)])))))) (.seq (.seq (.ops [.v none (.mv (.t p2)) 0,.v none (.ln .l (.l 0)) 0,.v none (.mv (.c (.i .i64 0))) 0] [(p83,2),(p84,1),(p85,0)]) (.block 3 (.loop (.seq (.ops [.v none (.ar .lss .o (.t p85) (.t p84)) 0] [(p86,0)]) (.seq (.cond (.t p86) .skip (.exit 3)) (.seq (.block 4 (.seq (.ops [.v none (.ia 1 (.t p83) (.t p85)) 0,.v none (.ld (.l 0)) 0,.v none (.mv (.l 0)) 0] [(p15,0)]) (.seq (.seq (.ops [.v none (.mv (.t p15)) 0,.v none (.ar .lss .o (.l 0) (.c (.i .i64 1))) 0,.v none (.mv (.l 0)) 0,.v (some (.l 0,false)) (.mv (.t p15)) 0,.v (some (.l 1,false)) (.mv (.t p9)) 0,.v (some (.l 2,false)) (.ar .geq .o (.l 1) (.l 0)) 0,.v none (.pick (.l 3) (.c (.b true)) (.l 0)) 0] [(p95,0)]) (.cond (.t p95) (.seq (.ops [.v none (.mv (.c .pn)) 0,.v none (.mv (.c (.b false))) 0] [(p7,1),(p8,0)]) .ret) .skip)) (.ops [.v none (.mv (.t p10)) 0,.v none (.nc (.l 0)) 0,.v none (.fa 1 (.l 0)) 0,.v none (.ld (.l 0)) 0,.v none (.mv (.t p15)) 0,.v none (.ia 1 (.l 1) (.l 0)) 0,.e none (.st 1 (.l 0) (.c (.b true)))] [])))) (.ops [.v none (.ar .add .o (.t p85) (.c (.i .i64 1))) 0,.v none (.mv (.l 0)) 0] [(p85,0)]))))))) (.seq (.ops [.v none (.mv (.t p10)) 0,.v none (.mv (.l 0)) 0,.v none (.mv (.c (.b true))) 0] [(p7,1),(p8,0)]) .ret)))
def K177:Nat:=19879577359489193225041760231
noncomputable def c177:Code:=match Tryz.f177.body with
 | some (.seq _ (.seq _ (.seq _ c)))=>c
 | _=>.skip
theorem ck177:chkC1 ftab0 103 K177 c177 cc177=true:=by kernel_rfl
theorem crs177:chkRs ftab0 Tryz.f177.results.toList [.t p7,.t p8]=true:=by kernel_rfl
def repC (z:List SV) (n:Nat):List SV:=Nat.rec [] (fun _ ih=>app z ih) n
def tmC6:List SV:=[.i .i64 0,.s 0 0,.i .u64 0,.i .i64 0,.i .i64 0,.i .i64 0]
def q1 (p:Pos):Pos:=Pos.succ p
def q2 (p:Pos):Pos:=Pos.succ (q1 p)
def q3 (p:Pos):Pos:=Pos.succ (q2 p)
def q4 (p:Pos):Pos:=Pos.succ (q3 p)
def q5 (p:Pos):Pos:=Pos.succ (q4 p)
def q6 (p:Pos):Pos:=Pos.succ (q5 p)
def me177 (n:Nat) (f0 f1:Bool) (me:T Ob) (nx:Pos):T Ob:=T.put (q5 nx) (some (.c 335 [.sl nx 0 n n,.sl (q1 nx) 0 n n,.sl (q2 nx) 0 n n,.sl (q3 nx) 0 n n,.m (q4 nx),.b f0,.b f1])) (T.put (q4 nx) (some (.m .u16 [])) (T.put (q3 nx) (some (.c 3 (repC [.i .i64 0] n))) (T.put (q2 nx) (some (.c 3 (repC [.i .i64 0] n))) (T.put (q1 nx) (some (.c 4 (repC [.b false] n))) (T.put nx (some (.c 94 (repC tmC6 n))) me)))))
def fr177 (i:Pos) (kn:SV) (nx:Pos) (n:Nat):T SV:=T.put p10 (some (.p (q5 nx) 0)) (T.put p9 (some (.i .i64 (.ofNat n))) (T.put p8 (some (.b false)) (T.put p7 (some .pn) (T.put p2 (some kn) (T.put p1 (some (.p i 0)) .e)))))
def begin177:BI:=fun vs me nx=>match vs with
 | [.p i 0,kn,.a [.b f0,.b f1]]=>match T.get i me with
  | some (.st m rev most F)=>bif Nat.ble m 65536 then leave [.t p7,.t p8] (code (runF biS 3) cc177 (fr177 i kn nx (Nat.succ m)) (me177 (Nat.succ m) f0 f1 me nx) (q6 nx) []) else .no
  | _=>.no
 | _=>.no
theorem repC_den {g:G} {z:List SV} {zs:List Value} (h:dens (den1 g) z=some zs):∀ n,dens (den1 g) (repC z n)=some (zeros zs n)
 | 0=>rfl
 | n + 1=>by
  have:repC z (n + 1)=app z (repC z n):=rfl
  rw [this,app_eq]
  exact dens_app h (repC_den h n)
theorem new_m {W0 w':World} {g:G} {nx:Pos} {me:T Ob} {R:List Thing} {bb:Nat} {k:IntKind} (hf:g.fresh nx) (hn:T.get nx me=none) (h:Sts W0 w' (Mp (ienc k) bb []::(mem g me++R))):Sts W0 w' (mem (g.set nx (bb,0)) (T.put nx (some (.m k [])) me)++R):=by
 have hle:=(G.set_ext g nx (bb,0)).le hf
 have h2:Sts W0 w' (OT (g.set nx (bb,0)) nx (.m k [])::(mem g me++R)):=Sts.to_some (bb,0,[],[]) (Sts.to_both (Sts.to_fact ⟨G.set_at g nx _,rfl,List.Perm.refl _,by simp⟩ h))
 have h3:Sts W0 w' (mem g me++(OT (g.set nx (bb,0)) nx (.m k [])::R)):=h2.perm List.perm_middle.symm
 exact minto ((mem_mono hle h3).perm List.perm_middle) hn
section
variable {W0 W w:World} {R:List Thing} {g:G} {me:T Ob} {nx:Pos}
def gW (g:G) (nx:Pos) (n:Nat) (W:Wb):G:=(((((g.set nx (W.a,0)).set (q1 nx) (W.b,0)).set (q2 nx) (W.c,0)).set (q3 nx) (W.d,0)).set (q4 nx) (W.m,0)).set (q5 nx) (W.x,0)
theorem permT {α:Type} (A B C:List α):(A++(B++C)).Perm (B++(A++C)):=by
 rw [← List.append_assoc,← List.append_assoc]
 exact (List.perm_append_comm (l₁:=A) (l₂:=B)).append_right C
theorem step_m {k:IntKind} {bb:Nat} (hf:g.fresh nx) (h:Sts W0 w (mem g me++(Mp (ienc k) bb []::R))):Sts W0 w (mem (g.set nx (bb,0)) (T.put nx (some (.m k [])) me)++R):=new_m hf (get_nx h hf) (h.perm List.perm_middle)
theorem step_c {t bb:Nat} {cs:List SV} {xs:List Value} (hf:g.fresh nx) (h:Sts W0 w (mem g me++(Bk bb t xs::R))) (hd:dens (den1 g) cs=some xs):Sts W0 w (mem (g.set nx (bb,0)) (T.put nx (some (.c t cs)) me)++R):=by
 have h2:=h.perm List.perm_middle
 exact new_c hf h2.tail hd h2
theorem set_old {i p:Pos} {x:Nat × Nat} (h:i≠p):(g.set p x).rho i=g.rho i:=if_neg h
theorem q_ne (p:Pos):(q1 p).nat=p.nat + 1∧(q2 p).nat=p.nat + 2∧(q3 p).nat=p.nat + 3∧(q4 p).nat=p.nat + 4∧(q5 p).nat=p.nat + 5∧(q6 p).nat=p.nat + 6:=by
 have a1:(q1 p).nat=p.nat + 1:=Pos.nat_succ p
 have a2:(q2 p).nat=(q1 p).nat + 1:=Pos.nat_succ _
 have a3:(q3 p).nat=(q2 p).nat + 1:=Pos.nat_succ _
 have a4:(q4 p).nat=(q3 p).nat + 1:=Pos.nat_succ _
 have a5:(q5 p).nat=(q4 p).nat + 1:=Pos.nat_succ _
 have a6:(q6 p).nat=(q5 p).nat + 1:=Pos.nat_succ _
 omega
theorem lay177 {n:Nat} {f0 f1:Bool} {W:Wb} (hf:g.fresh nx)
  (h:Sts W0 w (Bk W.a 94 (zeros zv94 n)::Bk W.b 4 (zeros [.bool false] n)::Bk W.c 3 (zeros [.int .i64 0] n)::Bk W.d 3 (zeros [.int .i64 0] n)::Mp (ienc .u16) W.m []::Bk W.x 335 (cells335 n f0 f1 W)::(mem g me++R))) :
  (gW g nx n W).fresh (q6 nx)∧g.ext (gW g nx n W) nx∧Sts W0 w (mem (gW g nx n W) (me177 n f0 f1 me nx)++R):=by
 have f1':=G.set_fresh hf (W.a,0)
 have f2':=G.set_fresh (nx:=q1 nx) f1' (W.b,0)
 have f3':=G.set_fresh (nx:=q2 nx) f2' (W.c,0)
 have f4':=G.set_fresh (nx:=q3 nx) f3' (W.d,0)
 have f5':=G.set_fresh (nx:=q4 nx) f4' (W.m,0)
 have f6':=G.set_fresh (nx:=q5 nx) f5' (W.x,0)
 have hp:Sts W0 w (mem g me++(Bk W.a 94 (zeros zv94 n)::Bk W.b 4 (zeros [.bool false] n)::Bk W.c 3 (zeros [.int .i64 0] n)::Bk W.d 3 (zeros [.int .i64 0] n)::Mp (ienc .u16) W.m []::Bk W.x 335 (cells335 n f0 f1 W)::R)) :=
  h.perm (permT [_,_,_,_,_,_] (mem g me) R)
 have s1:=step_c hf hp (repC_den (z:=tmC6) (zs:=zv94) (by simp [tmC6,zv94,dens,den1,den0,byt,byts]) n)
 have s2:=step_c (nx:=q1 nx) f1' s1 (repC_den (z:=[.b false]) (zs:=[.bool false]) rfl n)
 have s3:=step_c (nx:=q2 nx) f2' s2 (repC_den (z:=[.i .i64 0]) (zs:=[.int .i64 0]) rfl n)
 have s4:=step_c (nx:=q3 nx) f3' s3 (repC_den (z:=[.i .i64 0]) (zs:=[.int .i64 0]) rfl n)
 have s5:=step_m (nx:=q4 nx) f4' s4
 obtain ⟨e1,e2,e3,e4,e5,e6⟩:=q_ne nx
 have ne:∀ {p q:Pos},p.nat≠q.nat→p≠q:=fun h e=>h (by rw [e])
 have hcells:dens (den1 (((((g.set nx (W.a,0)).set (q1 nx) (W.b,0)).set (q2 nx) (W.c,0)).set (q3 nx) (W.d,0)).set (q4 nx) (W.m,0))) [.sl nx 0 n n,.sl (q1 nx) 0 n n,.sl (q2 nx) 0 n n,.sl (q3 nx) 0 n n,.m (q4 nx),.b f0,.b f1]=some (cells335 n f0 f1 W):=by
  have ha:(((((g.set nx (W.a,0)).set (q1 nx) (W.b,0)).set (q2 nx) (W.c,0)).set (q3 nx) (W.d,0)).set (q4 nx) (W.m,0)).rho nx=some (W.a,0):=by
   rw [set_old (ne (by omega)),set_old (ne (by omega)),set_old (ne (by omega)),set_old (ne (by omega)),G.set_at]
  have hb:(((((g.set nx (W.a,0)).set (q1 nx) (W.b,0)).set (q2 nx) (W.c,0)).set (q3 nx) (W.d,0)).set (q4 nx) (W.m,0)).rho (q1 nx)=some (W.b,0):=by
   rw [set_old (ne (by omega)),set_old (ne (by omega)),set_old (ne (by omega)),G.set_at]
  have hc:(((((g.set nx (W.a,0)).set (q1 nx) (W.b,0)).set (q2 nx) (W.c,0)).set (q3 nx) (W.d,0)).set (q4 nx) (W.m,0)).rho (q2 nx)=some (W.c,0):=by
   rw [set_old (ne (by omega)),set_old (ne (by omega)),G.set_at]
  have hd:(((((g.set nx (W.a,0)).set (q1 nx) (W.b,0)).set (q2 nx) (W.c,0)).set (q3 nx) (W.d,0)).set (q4 nx) (W.m,0)).rho (q3 nx)=some (W.d,0):=by
   rw [set_old (ne (by omega)),G.set_at]
  have he:(((((g.set nx (W.a,0)).set (q1 nx) (W.b,0)).set (q2 nx) (W.c,0)).set (q3 nx) (W.d,0)).set (q4 nx) (W.m,0)).rho (q4 nx)=some (W.m,0):=G.set_at _ _ _
  simp only [dens,den1,den0,ha,hb,hc,hd,he,Option.map_some,cells335,slc]
 have s6:=step_c (nx:=q5 nx) f5' s5 hcells
 refine ⟨f6',⟨rfl,rfl,fun i hi=>?_⟩,s6⟩
 show (gW g nx n W).rho i=g.rho i
 unfold gW
 rw [set_old (ne (by omega)),set_old (ne (by omega)),set_old (ne (by omega)),set_old (ne (by omega)),set_old (ne (by omega)),set_old (ne (by omega))]
theorem permS {α:Type} (x s:α) (A M C:List α):(A++(x::s::(M++C))).Perm (s::(M++(x::(A++C)))):=by
 refine (permT A [x,s] (M++C)).trans ?_
 refine (List.Perm.append_left [x,s] (permT A M C)).trans ?_
 exact (List.Perm.swap s x (M++(A++C))).trans (List.Perm.cons s List.perm_middle.symm)
theorem put_get {p q:Pos} {v u:SV} {t:T SV} (h:T.get q (T.put p (some v) t)=some u):(q=p∧u=v)∨(q≠p∧T.get q t=some u):=by
 by_cases e:q=p
 ·subst e; rw [T.get_same] at h; exact .inl ⟨rfl,(Option.some.inj h).symm⟩
 ·rw [T.get_other _ _ _ _ e] at h; exact .inr ⟨e,h⟩
theorem begin177_run (hF:ftab0.Ok Tryz.prog W0) (hmix:Tryz.prog.follows .mixedOrders=true) {vs:List SV} {r:RF} (hr:begin177 vs me nx=r) (hne:r≠.no) (xs:List Value) (hf:g.fresh nx) (hd:dens (den g) vs=some xs) (hm:Sts W0 W (mem g me++R)) {Rr:Ending→World→Prop}
  (hret:∀ v me' nx',r=.ret v me' nx'→∀ g' x w',g.ext g' nx→g'.fresh nx'→nx.nat≤nx'.nat→den g' v=some x→Sts W0 w' (mem g' me'++R)→Rr (.returned x) w')
  (hpan:∀ v me' nx',r=.pan v me' nx'→∀ g' x w',g.ext g' nx→g'.fresh nx'→nx.nat≤nx'.nat→den g' v=some x→Sts W0 w' (mem g' me'++R)→Rr (.panicked (chain x)) w'):Calls Tryz.prog 177 xs.toArray W Rr:=by
 unfold begin177 at hr
 split at hr
 ·rename_i i kn f0 f1
  split at hr
  ·rename_i m rev most F hg
   cases hb:Nat.ble m 65536 with
   | false=>rw [hb] at hr; exact (hne hr.symm).elim
   | true =>
    rw [hb] at hr
    simp only [cond_true] at hr
    have hml:=Nat.le_of_ble_eq_true hb
    obtain ⟨x1,us,d1,d2,rfl⟩:=dens_cons hd
    obtain ⟨xk,us,d3,d4,rfl⟩:=dens_cons d2
    obtain ⟨x3,us,d5,d6,rfl⟩:=dens_cons d4
    have:us=[]:=by simpa [dens] using d6.symm
    subst this
    obtain ⟨q,q1',rfl⟩:=den_p d1
    have hx3:x3=.agg #[.bool f0,.bool f1]:=by
     have:den g (.a [.b f0,.b f1])=some (.agg #[.bool f0,.bool f1]):=rfl
     rw [this] at d5; exact (Option.some.inj d5).symm
    subst hx3
    obtain ⟨b,o,l,r1,r2,r3,r4,r5⟩:=st_out hm hg
    obtain rfl:q=(b,o):=by rw [q1'] at r1; exact Option.some.inj r1
    refine calls_of_wp_defers Tryz.func177 rfl ?_
    refine (show GC Tryz.prog W0 Tryz.f177.ntmps [] _ (bodyPostD Tryz.prog Tryz.f177 Rr) (argKn 0 [.pointer (some ⟨b,0,none⟩),xk,.agg #[.bool f0,.bool f1]]) (Go.Proofs.YtadggjnohohedaaGreatDoor.St b l most::(mem g (T.put i none me)++R)) from ?_) _ _ (has_enter [_,_,_] (Nat.le_of_ble_eq_true rfl)) r5
    rw [show Tryz.f177.ntmps=103 from Tryz.ntmps177]
    refine GC.seq (GC.region ?_)
    refine GL.eff (EF.boxA rfl) rfl rfl (.free rfl) (fun b5 _=>?_)
    refine GL.v_ (EX.assign rfl) rfl rfl rfl ?_
    refine GL.v_ (EX.assign rfl) rfl rfl rfl ?_
    refine GL.nil (GE.seq ?_)
    refine GC.seq (GC.region ?_)
    refine GL.v_ (EX.move rfl) rfl rfl rfl ?_
    refine GL.call (EC.direct en9 rfl) (len_fn b l most) (.cons (.there .here) .nil) rfl rfl (.free rfl) ?_
    have hadd:IntKind.i64.wrap ((l.length:Int) + 1)=((m + 1:Nat):Int):=by
     rw [IntWalk.i64_in _ ⟨by omega,by omega⟩,r3]; push_cast; rfl
    refine GL.v_ (EX.add rfl rfl hadd) rfl rfl rfl ?_
    refine GL.v_ (EX.assign rfl) rfl rfl rfl ?_
    refine GL.nil (GE.seq ?_)
    refine GC.seq ?_
    intro a w ha hs
    have hs':Sts W0 w (Bk b5 140 [.bool f0,.bool f1]::Go.Proofs.YtadggjnohohedaaGreatDoor.St b l most::(mem g (T.put i none me)++R)):=hs.p1
    refine regionG (S:=S177 (m + 1) b5 f0 f1 (.pointer (some ⟨b,0,none⟩)) xk) (opr:=r177) (n:=13) (W0:=W0) (R:=Bk b5 140 [.bool f0,.bool f1]::Go.Proofs.YtadggjnohohedaaGreatDoor.St b l most::(mem g (T.put i none me)++R)) (ds:=[]) hmix okG177 (W:=(⟨0,0,0,0,0,0⟩:Wb)) ha.size ha.defers (fun t ht=>?_) ?_ (fun j hj=>?_) ?_
    ·simp only [S177,List.mem_cons,List.not_mem_nil,or_false] at ht
     rcases ht with rfl | rfl | rfl | rfl | rfl | rfl
     ·exact ha.known 0 _ rfl
     ·exact ha.known 1 _ rfl
     ·exact ha.known 5 _ rfl
     ·exact ha.known 6 _ rfl
     ·exact ha.known 7 _ rfl
     ·exact ha.known 8 _ rfl
    ·simp only [S177,th177,cond_false,List.nil_append]; exact hs'
    ·intro listed a w h hr
     have hn:m + 1≤1000000:=by omega
     match j,hj with
     | 0,_=>exact u0 h hr
     | 1,_=>exact u1 hn h hr
     | 2,_=>exact u2 h hr
     | 3,_=>exact u3 hn h hr
     | 4,_=>exact u4 h hr
     | 5,_=>exact u5 hn h hr
     | 6,_=>exact u6 h hr
     | 7,_=>exact u7 hn h hr
     | 8,_=>exact u8 h hr
     | 9,_=>exact u9 h hr
     | 10,_=>exact u10 h hr
     | 11,_=>exact u11 h hr
     | 12,_=>exact u12 h hr
    ·intro a' w' V h1 h2 hB hV hff
     obtain ⟨f,hff,h6⟩:=hff
     have h9:=hV 12 _ 9 (show r177[12]?=some _ from rfl) rfl
     simp only [S177,th177,hff 1 (by decide),hff 3 (by decide),hff 5 (by decide),hff 7 (by decide),hff 8 (by decide),hff 11 (by decide),cond_true] at h6
     have s1:=h6.perm (permS _ _ [_,_,_,_,_,_] (mem g (T.put i none me)) R)
     have s2:=st_back hg (st_in q1' r2 r3 r4 s1)
     have s3:=((s2.perm List.perm_middle).tail).perm (permT (mem g me) [_,_,_,_,_,_] R)
     obtain ⟨t1,t2,t3⟩:=lay177 hf s3
     obtain ⟨e1,e2,e3,e4,e5,e6⟩:=q_ne nx
     have hle:g.le (gW g nx (m + 1) V):=t2.le hf
     have hS:Stt W0 R 103 K177 (gW g nx (m + 1) V) (fr177 i kn nx (Nat.succ m)) (me177 (Nat.succ m) f0 f1 me nx) (q6 nx) [] a' w':=by
      have key:∀ p v,T.get p (fr177 i kn nx (Nat.succ m))=some v→(∃ x,den (gW g nx (m + 1) V) v=some x∧a'.tmps[p.nat - 1]?=some x)∧K177.testBit (p.nat - 1)=true:=by
       intro p v hp
       unfold fr177 at hp
       rcases put_get hp with ⟨rfl,rfl⟩ | ⟨_,hp⟩
       ·refine ⟨⟨pp V.x,?_,h9⟩,by decide⟩
        have:(gW g nx (m + 1) V).rho (q5 nx)=some (V.x,0):=G.set_at _ _ _
        simp [den,den2,den1,den0,this,pp]
       rcases put_get hp with ⟨rfl,rfl⟩ | ⟨_,hp⟩
       ·exact ⟨⟨_,rfl,hB 8 (by simp [S177])⟩,by decide⟩
       rcases put_get hp with ⟨rfl,rfl⟩ | ⟨_,hp⟩
       ·exact ⟨⟨_,rfl,hB 7 (by simp [S177])⟩,by decide⟩
       rcases put_get hp with ⟨rfl,rfl⟩ | ⟨_,hp⟩
       ·exact ⟨⟨_,rfl,hB 6 (by simp [S177])⟩,by decide⟩
       rcases put_get hp with ⟨rfl,rfl⟩ | ⟨_,hp⟩
       ·exact ⟨⟨xk,den_mono hle _ _ d3,hB 1 (by simp [S177])⟩,by decide⟩
       rcases put_get hp with ⟨rfl,rfl⟩ | ⟨_,hp⟩
       ·exact ⟨⟨_,den_mono hle _ _ d1,hB 0 (by simp [S177])⟩,by decide⟩
       rw [T.get_e] at hp; cases hp
      exact ⟨fun p v hp=>(key p v hp).1,fun p v hp=>(key p v hp).2,h1,h2,t1,t3⟩
     show Code.wp Tryz.prog c177 (bodyPostD Tryz.prog Tryz.f177 Rr) a' w'
     cases hcd:code (runF biS 3) cc177 (fr177 i kn nx (Nat.succ m)) (me177 (Nat.succ m) f0 f1 me nx) (q6 nx) [] with
     | no=>rw [hcd] at hr; exact (hne hr.symm).elim
     | ok e fr1 me1 nx1 dl1 =>
      rw [hcd] at hr
      refine code_sound1 (runS_sound hF hmix 3) hF hmix K177 c177 cc177 ck177 _ _ _ _ _ a' w' e fr1 me1 nx1 dl1 _ hS hcd (fun g' E a2 w2 hX k1 k2 hS'=>?_)
      have hex:g.ext g' nx:=t2.trans k1 (by omega)
      exact leave_sound hF endd crs177 hS' hX hr hne (fun v m' n' e1' x w' z2 z3 z4=>hret v m' n' e1' g' x w' hex (z2 ▸ hS'.fresh) (by rw [z2]; omega) z3 z4) (fun v m' n' e1' x w' z2 z3 z4=>hpan v m' n' e1' g' x w' hex (z2 ▸ hS'.fresh) (by rw [z2]; omega) z3 z4)
  ·exact (hne hr.symm).elim
 ·exact (hne hr.symm).elim
theorem begin177_ok (hF:ftab0.Ok Tryz.prog W0) (hmix:Tryz.prog.follows .mixedOrders=true):BSnd Tryz.prog W0 177 begin177:=by
 refine ⟨en177,fun vs me nx v me' nx' h W R g xs hf hx hm=>?_,fun vs me nx v me' nx' h W R g xs hf hx hm=>?_⟩
 ·refine begin177_run hF hmix h (by intro e; cases e) xs hf hx hm (fun v2 m2 n2 e g' x w' k1 k2 k3 k4 k5=>?_) (fun v2 m2 n2 e=>by cases e)
  injection e with e1 e2 e3; subst e1; subst e2; subst e3
  exact ⟨g',x,rfl,k1,k2,k3,k4,k5⟩
 ·refine begin177_run hF hmix h (by intro e; cases e) xs hf hx hm (fun v2 m2 n2 e=>by cases e) (fun v2 m2 n2 e g' x w' k1 k2 k3 k4 k5=>?_)
  injection e with e1 e2 e3; subst e1; subst e2; subst e3
  exact ⟨g',x,rfl,k1,k2,k3,k4,k5⟩
end
end
noncomputable section
open Go.RowKit
set_option maxRecDepth 1000000
def biA:T BI:=T.put p150 (some known149) (T.put p178 (some begin177) (T.put p74 (some fields73) (T.put p69 (some cut68) biS)))
theorem biA_ok {W0:World} (hF:ftab0.Ok Tryz.prog W0) (hmix:Tryz.prog.follows .mixedOrders=true):AllT (fun p b=>BSnd Tryz.prog W0 (p.nat - 1) b) biA :=
 AllT_put p150 _ _ _ (AllT_put p178 _ _ _ (AllT_put p74 _ _ _ (AllT_put p69 _ _ _ (biS_ok hF hmix) cut68_ok) (fields73_ok hF hmix)) (begin177_ok hF hmix)) known149_ok
theorem runA_sound {W0:World} (hF:ftab0.Ok Tryz.prog W0) (hmix:Tryz.prog.follows .mixedOrders=true) (n:Nat):SndF Tryz.prog W0 (runF biA n):=runF_sound (biA_ok hF hmix) fs_ok hF hmix endd n
theorem fixed_run:retOf (runF biA 100 p14 [] .e p1)=some (.b true):=by kernel_rfl
theorem retOf_ret {r:RF} {v:SV} (h:retOf r=some v):∃ me nx,r=.ret v me nx:=by
 cases r with
 | no=>cases h
 | pan e me nx=>cases h
 | ret u me nx=>exact ⟨me,nx,by rw [show u=v from Option.some.inj h]⟩
def g00:G:=⟨fun _=>none,0,0,by decide,by decide⟩
theorem fixed_calls {W0 W:World} {L:List Thing} (hF:ftab0.Ok Tryz.prog W0) (hmix:Tryz.prog.follows .mixedOrders=true) (hs:Sts W0 W L):Calls Tryz.prog 13 #[] W fun e w'=>e=.returned (.bool true)∧Sts W0 w' L:=by
 obtain ⟨me,nx,hr⟩:=retOf_ret fixed_run
 refine ((runA_sound hF hmix 100).1 p14 [] .e p1 _ _ _ hr W L g00 [] (fun _ _=>rfl) rfl hs).mono ?_
 rintro e w' ⟨g',x,rfl,k1,k2,k3,k4,k5⟩
 have:x=.bool true:=(Option.some.inj (show some (Value.bool true)=some x from k4)).symm
 subst this
 exact ⟨rfl,drop_mem k5⟩
end
noncomputable section
open Go.RowKit
def eqS1 (x y:SV):Bool:=match x,y with
 | .f p us cs,.f q vs ds=>and (Nat.beq p.nat q.nat) (and (allA us vs) (allA cs ds))
 | x,y=>eqA x y
def all1 (l m:List SV):Bool :=
 List.rec (motive:=fun _=>List SV→Bool) (fun m=>List.rec true (fun _ _ _=>false) m) (fun x _ ih m=>List.rec false (fun y r _=>and (eqS1 x y) (ih r)) m) l m
def eqS2 (x y:SV):Bool:=match x,y with
 | .a l,.a m=>all1 l m
 | x,y=>eqS1 x y
def allK (l m:List (Int × SV)):Bool :=
 List.rec (motive:=fun _=>List (Int × SV)→Bool) (fun m=>List.rec true (fun _ _ _=>false) m) (fun x _ ih m=>List.rec false (fun y r _=>and (and (ieq x.1 y.1) (eqS2 x.2 y.2)) (ih r)) m) l m
def eqOb (x y:Ob):Bool:=match x,y with
 | .c t cs,.c u ds=>and (Nat.beq t u) (all1 cs ds)
 | .r t z cs,.r u y ds=>and (Nat.beq t u) (and (Nat.beq z y) (all1 cs ds))
 | .ro t cs,.ro u ds=>and (Nat.beq t u) (all1 cs ds)
 | .m k kvs,.m j lvs=>and (keq k j) (allK kvs lvs)
 | _,_=>false
theorem eqS1_eq:∀ x y,eqS1 x y=true→x=y:=by
 intro x y h
 unfold eqS1 at h
 split at h
 ·simp only [Bool.and_eq_true] at h
  rw [nat_inj (Nat.eq_of_beq_eq_true h.1),allA_eq eqA_eq h.2.1,allA_eq eqA_eq h.2.2]
 ·exact eqA_eq _ _ h
theorem all1_eq:∀ {l m:List SV},all1 l m=true→l=m
 | [],[],_=>rfl
 | x::l,y::m,h=>by
  have h':(and (eqS1 x y) (all1 l m))=true:=h
  simp only [Bool.and_eq_true] at h'
  rw [eqS1_eq x y h'.1,all1_eq h'.2]
 | [],_::_,h=>by cases h
 | _::_,[],h=>by cases h
theorem eqS2_eq:∀ x y,eqS2 x y=true→x=y:=by
 intro x y h
 unfold eqS2 at h
 split at h
 ·rw [all1_eq h]
 ·exact eqS1_eq _ _ h
theorem allK_eq:∀ {l m:List (Int × SV)},allK l m=true→l=m
 | [],[],_=>rfl
 | (a,x)::l,(b,y)::m,h=>by
  have h':(and (and (ieq a b) (eqS2 x y)) (allK l m))=true:=h
  simp only [Bool.and_eq_true] at h'
  rw [ieq_of h'.1.1,eqS2_eq x y h'.1.2,allK_eq h'.2]
 | [],_::_,h=>by cases h
 | _::_,[],h=>by cases h
theorem eqOb_eq:∀ x y,eqOb x y=true→x=y:=by
 intro x y h
 unfold eqOb at h
 split at h
 ·simp only [Bool.and_eq_true] at h; rw [Nat.eq_of_beq_eq_true h.1,all1_eq h.2]
 ·simp only [Bool.and_eq_true] at h; rw [Nat.eq_of_beq_eq_true h.1,Nat.eq_of_beq_eq_true h.2.1,all1_eq h.2.2]
 ·simp only [Bool.and_eq_true] at h; rw [Nat.eq_of_beq_eq_true h.1,all1_eq h.2]
 ·simp only [Bool.and_eq_true] at h; rw [keq_eq h.1,allK_eq h.2]
 ·cases h
theorem memC_mem {c:Nat}:∀ {l:List Nat},memC c l=true↔c∈l
 | []=>by simp [memC]
 | x::r=>by
  have h:memC c (x::r)=bif Nat.beq x c then true else memC c r:=rfl
  rw [h]
  cases hb:Nat.beq x c with
  | true=>have:=Nat.eq_of_beq_eq_true hb; subst this; simp
  | false =>
   have hne:c≠x:=fun e=>by subst e; rw [Nat.beq_refl] at hb; cases hb
   simp only [cond_false,List.mem_cons,hne,false_or]
   exact memC_mem
theorem Codes.less {F':Option (List Nat)} {Fc:List Nat} (hF:F'=none∨F'=some Fc):∀ {rev:List Nat} {l:List Tm},Codes F' rev l→Codes (some Fc) rev l
 | _,_,.nil=>.nil
 | _,_,.known h hs=>.known h (Codes.less hF hs)
 | _,_,.junk (L:=L) e h hs=>by
  rcases hF with rfl | rfl
  ·cases e
  ·injection e with e; subst e; exact .junk rfl h (Codes.less (.inr rfl) hs)
def headE {α:Type} (v:Option α):List (Pos × α):=match v with
 | some x=>[(Pos.h,x)]
 | none=>[]
theorem headE_h {α:Type} (v:Option α):∀ x∈List.map (fun q:Pos × α=>q.1) (headE v),x=Pos.h:=by
 intro x hx; cases v <;> simp [headE] at hx; exact hx
theorem headE_n {α:Type} (v:Option α):(List.map (fun q:Pos × α=>q.1) (headE v)).Nodup:=by cases v <;> simp [headE]
theorem T.ents_nodup {α:Type}:∀ (t:T α),(t.ents.map (·.1)).Nodup
 | .e=>List.nodup_nil
 | .n l v r=>by
  have hl:=T.ents_nodup l
  have hr:=T.ents_nodup r
  have e:(T.n l v r).ents=(headE v++(l.ents.map fun q=>(Pos.o q.1,q.2)))++(r.ents.map fun q=>(Pos.i q.1,q.2)):=rfl
  have ho:List.map (fun q:Pos × α=>q.1) (l.ents.map fun q=>(Pos.o q.1,q.2))=List.map Pos.o (l.ents.map fun q=>q.1):=by simp [List.map_map,Function.comp_def]
  have hi:List.map (fun q:Pos × α=>q.1) (r.ents.map fun q=>(Pos.i q.1,q.2))=List.map Pos.i (r.ents.map fun q=>q.1):=by simp [List.map_map,Function.comp_def]
  have hv:=headE_h v
  have hvn:=headE_n v
  rw [e,List.map_append,List.map_append,ho,hi]
  refine List.nodup_append.2 ⟨List.nodup_append.2 ⟨hvn,?_,?_⟩,?_,?_⟩
  ·exact (List.pairwise_map.2 (hl.imp (fun {a b} (h:a≠b) (e:Pos.o a=Pos.o b)=>h (by injection e))))
  ·intro a ha b hb e
   rw [hv a ha] at e
   obtain ⟨p,_,rfl⟩:=List.mem_map.1 hb
   cases e
  ·exact (List.pairwise_map.2 (hr.imp (fun {a b} (h:a≠b) (e:Pos.i a=Pos.i b)=>h (by injection e))))
  ·intro a ha b hb e
   obtain ⟨p,_,rfl⟩:=List.mem_map.1 hb
   rcases List.mem_append.1 ha with ha | ha
   ·rw [hv a ha] at e; cases e
   ·obtain ⟨q,_,rfl⟩:=List.mem_map.1 ha; cases e
section
variable {W0 W w':World} {R:List Thing} {g g':G} {me me':T Ob} {nx:Pos}
theorem pick_all:∀ (L:List (Pos × Ob)) (me':T Ob) (X:List Thing),(L.map (·.1)).Nodup →
  (∀ q∈L,∃ ob',T.get q.1 me'=some ob'∧∀ Y,Sts W0 w' (OT g' q.1 ob'::Y)→Sts W0 w' (OT g q.1 q.2::Y))→Sts W0 w' (mem g' me'++X)→Sts W0 w' (L.map (fun q=>OT g q.1 q.2)++X)
 | [],me',X,_,_,hs=>drop_mem hs
 | (i,ob)::L,me',X,hn,hall,hs=>by
  simp only [List.map_cons,List.nodup_cons] at hn
  obtain ⟨ob',h1,h2⟩:=hall (i,ob) (by simp)
  have h3:=h2 _ (mout hs h1)
  have h4:=h3.perm (List.perm_middle (l₁:=mem g' (T.put i none me')) (a:=OT g i ob) (l₂:=X)).symm
  have h5:=pick_all L (T.put i none me') (OT g i ob::X) hn.2 (fun q hq=>by
   obtain ⟨o2,k1,k2⟩:=hall q (List.mem_cons_of_mem _ hq)
   refine ⟨o2,?_,k2⟩
   rw [T.get_other _ _ _ _ (fun e=>hn.1 (by rw [← e]; exact List.mem_map.2 ⟨q,hq,rfl⟩))]
   exact k1) h4
  exact h5.perm List.perm_middle
theorem conv_c {i:Pos} {t:Nat} {cs:List SV} (hle:g.le g') (h:T.get i me=some (.c t cs)) (hold:Sts W0 W (mem g me++R)) {Y:List Thing} (hn:Sts W0 w' (OT g' i (.c t cs)::Y)):Sts W0 w' (OT g i (.c t cs)::Y):=by
 obtain ⟨x,k⟩:=(mout hold h).of_some
 obtain ⟨⟨a1,a2⟩,_⟩:=k.of_both.of_fact
 obtain ⟨y,k'⟩:=hn.of_some
 obtain ⟨⟨b1,b2⟩,b3⟩:=k'.of_both.of_fact
 have e1:=hle.2.2 _ _ a1
 rw [b1] at e1
 have e2:=dens_mono (den1_mono hle) a2
 rw [b2] at e2
 refine Sts.to_some y (Sts.to_both (Sts.to_fact ⟨?_,?_⟩ b3))
 ·rw [a1,← e1]
 ·rw [a2,← e2]
theorem conv_r {i:Pos} {t z:Nat} {cs:List SV} (hle:g.le g') (h:T.get i me=some (.r t z cs)) (hold:Sts W0 W (mem g me++R)) {Y:List Thing} (hn:Sts W0 w' (OT g' i (.r t z cs)::Y)):Sts W0 w' (OT g i (.r t z cs)::Y):=by
 obtain ⟨x,k⟩:=(mout hold h).of_some
 obtain ⟨⟨a1,a2⟩,_⟩:=k.of_both.of_fact
 obtain ⟨y,k'⟩:=hn.of_some
 obtain ⟨⟨b1,b2⟩,b3⟩:=k'.of_both.of_fact
 have e1:=hle.2.2 _ _ a1
 rw [b1] at e1
 have e2:=dens_mono (den1_mono hle) a2
 rw [b2] at e2
 refine Sts.to_some y (Sts.to_both (Sts.to_fact ⟨?_,?_⟩ b3))
 ·rw [a1,← e1]
 ·rw [a2,← e2]
theorem conv_ro {i:Pos} {t:Nat} {cs:List SV} (hle:g.le g') (h:T.get i me=some (.ro t cs)) (hold:Sts W0 W (mem g me++R)) {Y:List Thing} (hn:Sts W0 w' (OT g' i (.ro t cs)::Y)):Sts W0 w' (OT g i (.ro t cs)::Y):=by
 obtain ⟨x,k⟩:=(mout hold h).of_some
 obtain ⟨⟨a1,a2⟩,_⟩:=k.of_both.of_fact
 obtain ⟨y,k'⟩:=hn.of_some
 obtain ⟨⟨b1,b2⟩,b3⟩:=k'.of_both.of_fact
 have e1:=hle.2.2 _ _ a1
 rw [b1] at e1
 have e2:=dens_mono (den1_mono hle) a2
 rw [b2] at e2
 refine Sts.to_some y (Sts.to_both (Sts.to_fact ⟨?_,?_⟩ b3))
 ·rw [a1,← e1]
 ·rw [a2,← e2]
theorem conv_m {i:Pos} {k:IntKind} {kvs:List (Int × SV)} (hle:g.le g') (h:T.get i me=some (.m k kvs)) (hold:Sts W0 W (mem g me++R)) {Y:List Thing} (hn:Sts W0 w' (OT g' i (.m k kvs)::Y)):Sts W0 w' (OT g i (.m k kvs)::Y):=by
 obtain ⟨x,q⟩:=(mout hold h).of_some
 obtain ⟨⟨a1,a2,a3,a4⟩,_⟩:=q.of_both.of_fact
 obtain ⟨y,q'⟩:=hn.of_some
 obtain ⟨⟨b1,b2,b4,b5⟩,b3⟩:=q'.of_both.of_fact
 have e1:=hle.2.2 _ _ a1
 rw [b1] at e1
 have e2:=kvDen_mono hle a2
 rw [b2] at e2
 refine Sts.to_some y (Sts.to_both (Sts.to_fact ⟨?_,?_,b4,b5⟩ b3))
 ·rw [a1,← e1]
 ·rw [a2,← e2]
end
end
noncomputable section
open Go.RowKit
def pl0 (v:SV):Bool:=match v with
 | .i _ _=>true
 | .b _=>true
 | .s _ _=>true
 | .pn=>true
 | .sn=>true
 | .mn=>true
 | .fn=>true
 | .ni=>true
 | .w _ _ _=>true
 | .y _=>true
 | .z _ _=>true
 | _=>false
def pl0s (l:List SV):Bool:=List.rec (motive:=fun _=>Bool) true (fun x _ ih=>and (pl0 x) ih) l
def pl1 (v:SV):Bool:=match v with
 | .a l=>pl0s l
 | v=>pl0 v
def pl1s (l:List SV):Bool:=List.rec (motive:=fun _=>Bool) true (fun x _ ih=>and (pl1 x) ih) l
def plV (v:SV):Bool:=match v with
 | .t l=>pl1s l
 | v=>pl1 v
def plVs (l:List SV):Bool:=List.rec (motive:=fun _=>Bool) true (fun x _ ih=>and (plV x) ih) l
section
variable {g g':G}
theorem pl0_den0 (hw:g'.w=g.w) (hn:g'.n=g.n) {v:SV} (h:pl0 v=true):den0 g' v=den0 g v:=by
 cases v <;> first | rfl | (simp only [den0,G.modz,hw,hn]; done) | cases h
theorem pl0_den1 (hw:g'.w=g.w) (hn:g'.n=g.n) {v:SV} (h:pl0 v=true):den1 g' v=den1 g v:=by
 cases v <;> first | exact pl0_den0 hw hn h | cases h
theorem pl0_den2 (hw:g'.w=g.w) (hn:g'.n=g.n) {v:SV} (h:pl0 v=true):den2 g' v=den2 g v:=by
 cases v <;> first | exact pl0_den0 hw hn h | cases h
theorem pl0s_dens (hw:g'.w=g.w) (hn:g'.n=g.n):∀ {l:List SV},pl0s l=true→dens (den1 g') l=dens (den1 g) l
 | [],_=>rfl
 | x::r,h=>by
  have h':(and (pl0 x) (pl0s r))=true:=h
  simp only [Bool.and_eq_true] at h'
  simp only [dens,pl0_den1 hw hn h'.1,pl0s_dens hw hn h'.2]
theorem pl1_den2 (hw:g'.w=g.w) (hn:g'.n=g.n) {v:SV} (h:pl1 v=true):den2 g' v=den2 g v:=by
 cases v with
 | a l=>simp only [den2,pl0s_dens hw hn (show pl0s l=true from h)]
 | _=>first | exact pl0_den2 hw hn h | cases h
theorem pl1_den (hw:g'.w=g.w) (hn:g'.n=g.n) {v:SV} (h:pl1 v=true):den g' v=den g v:=by
 cases v with
 | t l=>cases h
 | _=>exact pl1_den2 hw hn h
theorem pl1s_dens (hw:g'.w=g.w) (hn:g'.n=g.n):∀ {l:List SV},pl1s l=true→dens (den2 g') l=dens (den2 g) l
 | [],_=>rfl
 | x::r,h=>by
  have h':(and (pl1 x) (pl1s r))=true:=h
  simp only [Bool.and_eq_true] at h'
  simp only [dens,pl1_den2 hw hn h'.1,pl1s_dens hw hn h'.2]
theorem plV_den (hw:g'.w=g.w) (hn:g'.n=g.n) {v:SV} (h:plV v=true):den g' v=den g v:=by
 cases v with
 | t l=>simp only [den,pl1s_dens hw hn (show pl1s l=true from h)]
 | _=>exact pl1_den hw hn h
theorem plVs_dens (hw:g'.w=g.w) (hn:g'.n=g.n):∀ {l:List SV},plVs l=true→dens (den g') l=dens (den g) l
 | [],_=>rfl
 | x::r,h=>by
  have h':(and (plV x) (plVs r))=true:=h
  simp only [Bool.and_eq_true] at h'
  simp only [dens,plV_den hw hn h'.1,plVs_dens hw hn h'.2]
end
def gw (g:G):G:=⟨fun _=>none,g.w,g.n,g.hw,g.hn⟩
section
variable {W0:World}
def eqV (x y:SV):Bool:=match x,y with
 | .w k a b,.w j c d=>and (keq k j) (and (Nat.beq a c) (Nat.beq b d))
 | x,y=>eqS2 x y
def eqNs (l m:List Nat):Bool :=
 List.rec (motive:=fun _=>List Nat→Bool) (fun m=>List.rec true (fun _ _ _=>false) m) (fun x _ ih m=>List.rec false (fun y r _=>and (Nat.beq x y) (ih r)) m) l m
def eqF (x y:Option (List Nat)):Bool:=match x,y with
 | none,none=>true
 | some l,some m=>eqNs l m
 | _,_=>false
def eqOx (x y:Ob):Bool:=match x,y with
 | .st n l m F,.st n' l' m' F'=>and (and (Nat.beq n n') (Nat.beq m m')) (and (eqNs l l') (eqF F F'))
 | x,y=>eqOb x y
def eqOo (x y:Option Ob):Bool:=match x,y with
 | none,none=>true
 | some a,some b=>eqOx a b
 | _,_=>false
theorem eqV_eq:∀ x y,eqV x y=true→x=y:=by
 intro x y h
 unfold eqV at h
 split at h
 ·simp only [Bool.and_eq_true] at h
  rw [keq_eq h.1,Nat.eq_of_beq_eq_true h.2.1,Nat.eq_of_beq_eq_true h.2.2]
 ·exact eqS2_eq _ _ h
theorem eqNs_eq:∀ {l m:List Nat},eqNs l m=true→l=m
 | [],[],_=>rfl
 | x::l,y::m,h=>by
  have h':(and (Nat.beq x y) (eqNs l m))=true:=h
  simp only [Bool.and_eq_true] at h'
  rw [Nat.eq_of_beq_eq_true h'.1,eqNs_eq h'.2]
 | [],_::_,h=>by cases h
 | _::_,[],h=>by cases h
theorem eqOx_eq:∀ x y,eqOx x y=true→x=y:=by
 intro x y h
 unfold eqOx at h
 split at h
 ·rename_i n l m F n' l' m' F'
  simp only [Bool.and_eq_true] at h
  obtain ⟨⟨h1,h2⟩,h3,h4⟩:=h
  have hF:F=F':=by
   unfold eqF at h4
   split at h4
   ·rfl
   ·rw [eqNs_eq h4]
   ·cases h4
  rw [Nat.eq_of_beq_eq_true h1,Nat.eq_of_beq_eq_true h2,eqNs_eq h3,hF]
 ·exact eqOb_eq _ _ h
structure Row where
 vs:List SV
 me:T Ob
 nx:Pos
 v:SV
 me':T Ob
 nx':Pos
end
end
noncomputable section
open Go.RowKit
def sO (v v':Option Ob):Bool:=match v with | none=>true | some _=>eqOo v v'
def mO (v v':Option Ob):Option Ob:=match v with | none=>v' | some _=>none
def uO (v v':Option Ob):Option Ob:=match v' with | none=>v | some o=>some o
def subT (t:T Ob):T Ob→Bool :=
 T.rec (motive:=fun _=>T Ob→Bool) (fun _=>true) (fun _ v _ ihl ihr m=>match m with
  | .e=>false
  | .n l' v' r'=>and (sO v v') (and (ihl l') (ihr r'))) t
def minusT (t:T Ob):T Ob→T Ob :=
 T.rec (motive:=fun _=>T Ob→T Ob) (fun m=>m) (fun _ v _ ihl ihr m=>match m with
  | .e=>.e
  | .n l' v' r'=>.n (ihl l') (mO v v') (ihr r')) t
def unionT (a:T Ob):T Ob→T Ob :=
 T.rec (motive:=fun _=>T Ob→T Ob) (fun b=>b) (fun l v r ihl ihr b=>match b with
  | .e=>.n l v r
  | .n l' v' r'=>.n (ihl l') (uO v v') (ihr r')) a
theorem eqOo_eq {x y:Option Ob} (h:eqOo x y=true):x=y:=by
 unfold eqOo at h
 split at h
 ·rfl
 ·rw [eqOx_eq _ _ h]
 ·cases h
theorem subT_get:∀ {t m:T Ob} {i:Pos} {o:Ob},subT t m=true→T.get i t=some o→T.get i m=some o
 | .e,m,i,o,_,h=>by rw [T.get_e] at h; cases h
 | .n l v r,.e,i,o,hs,_=>by cases hs
 | .n l v r,.n l' v' r',.h,o,hs,h=>by
  have h':(and (sO v v') (and (subT l l') (subT r r')))=true:=hs
  simp only [Bool.and_eq_true] at h'
  have hv:v=some o:=h
  subst hv
  have:=eqOo_eq (x:=some o) (y:=v') h'.1
  show v'=some o
  exact this.symm
 | .n l v r,.n l' v' r',.o p,o,hs,h=>by
  have h':(and (sO v v') (and (subT l l') (subT r r')))=true:=hs
  simp only [Bool.and_eq_true] at h'
  exact subT_get (t:=l) (m:=l') (i:=p) h'.2.1 h
 | .n l v r,.n l' v' r',.i p,o,hs,h=>by
  have h':(and (sO v v') (and (subT l l') (subT r r')))=true:=hs
  simp only [Bool.and_eq_true] at h'
  exact subT_get (t:=r) (m:=r') (i:=p) h'.2.2 h
theorem minusT_get:∀ (t m:T Ob) (i:Pos),T.get i (minusT t m)=mO (T.get i t) (T.get i m)
 | .e,m,i=>by
  have:minusT .e m=m:=rfl
  rw [this,T.get_e]; rfl
 | .n l v r,.e,i=>by
  have:minusT (.n l v r) .e=.e:=rfl
  rw [this,T.get_e]
  cases T.get i (T.n l v r) <;> rfl
 | .n l v r,.n l' v' r',.h=>rfl
 | .n l v r,.n l' v' r',.o p=>minusT_get l l' p
 | .n l v r,.n l' v' r',.i p=>minusT_get r r' p
theorem unionT_get:∀ (a b:T Ob) (i:Pos),T.get i (unionT a b)=uO (T.get i a) (T.get i b)
 | .e,b,i=>by
  have:unionT .e b=b:=rfl
  rw [this,T.get_e]
  cases T.get i b <;> rfl
 | .n l v r,.e,i=>by
  have:unionT (.n l v r) .e=.n l v r:=rfl
  rw [this,T.get_e]; rfl
 | .n l v r,.n l' v' r',.h=>rfl
 | .n l v r,.n l' v' r',.o p=>unionT_get l l' p
 | .n l v r,.n l' v' r',.i p=>unionT_get r r' p
theorem T.ents_of_get {α:Type} {p:Pos} {t:T α} {x:α} (h:T.get p t=some x):(p,x)∈t.ents:=(T.ents_get h).mem_iff.2 (by simp)
section
variable {W0 W w':World} {R:List Thing} {g g':G} {me:T Ob} {nx:Pos}
theorem sub_sts:∀ (L S:List (Pos × Ob)) (X:List Thing),(L.map (·.1)).Nodup→(∀ q∈L,q∈S)→Sts W0 w' (S.map (fun q=>OT g q.1 q.2)++X)→Sts W0 w' (L.map (fun q=>OT g q.1 q.2)++X)
 | [],S,X,_,_,hs=>drop_mem hs
 | q::L,S,X,hn,hall,hs=>by
  simp only [List.map_cons,List.nodup_cons] at hn
  obtain ⟨s,t,rfl⟩:=List.append_of_mem (hall q (by simp))
  have h1:Sts W0 w' ((s++t).map (fun q=>OT g q.1 q.2)++(OT g q.1 q.2::X)):=by
   refine hs.perm ?_
   simp only [List.map_append,List.map_cons,List.append_assoc,List.cons_append]
   have e:=(List.perm_middle (l₁:=s.map (fun q=>OT g q.1 q.2)++t.map (fun q=>OT g q.1 q.2)) (a:=OT g q.1 q.2) (l₂:=X)).symm
   simp only [List.append_assoc] at e
   exact List.perm_middle.trans e
  have h2:=sub_sts L (s++t) (OT g q.1 q.2::X) hn.2 (fun p hp=>by
   have:=hall p (List.mem_cons_of_mem _ hp)
   rcases List.mem_append.1 this with h | h
   ·exact List.mem_append.2 (.inl h)
   ·rcases List.mem_cons.1 h with rfl | h
    ·exact (hn.1 (List.mem_map.2 ⟨p,hp,rfl⟩)).elim
    ·exact List.mem_append.2 (.inr h)) h1
  exact h2.perm List.perm_middle
theorem part_sts {t:T Ob} (h:subT t me=true) (hm:Sts W0 w' (mem g me++R)):Sts W0 w' (mem g t++(mem g (minusT t me)++R)):=by
 have hn:((t.ents++(minusT t me).ents).map (·.1)).Nodup:=by
  rw [List.map_append]
  refine List.nodup_append.2 ⟨T.ents_nodup _,T.ents_nodup _,fun a ha b hb e=>?_⟩
  subst e
  obtain ⟨q,hq,rfl⟩:=List.mem_map.1 ha
  obtain ⟨p,hp,e⟩:=List.mem_map.1 hb
  have h1:=T.mem_ents (p:=q.1) (x:=q.2) hq
  have h2:=T.mem_ents (p:=p.1) (x:=p.2) hp
  rw [minusT_get,e,h1] at h2
  cases h2
 have:=sub_sts (g:=g) (W0:=W0) (w':=w') (t.ents++(minusT t me).ents) me.ents R hn (fun q hq=>by
  rcases List.mem_append.1 hq with hq | hq
  ·exact T.ents_of_get (p:=q.1) (x:=q.2) (subT_get h (T.mem_ents (p:=q.1) (x:=q.2) hq))
  ·have h2:=T.mem_ents (p:=q.1) (x:=q.2) hq
   rw [minusT_get] at h2
   unfold mO at h2
   split at h2
   ·exact T.ents_of_get (p:=q.1) (x:=q.2) h2
   ·cases h2) hm
 rw [List.map_append,List.append_assoc] at this
 exact this
theorem union_sts {a b:T Ob} (hm:Sts W0 w' (mem g b++(mem g a++R))):Sts W0 w' (mem g (unionT a b)++R):=by
 refine sub_sts (g:=g) (unionT a b).ents (b.ents++a.ents) R (T.ents_nodup _) (fun q hq=>?_) (by rw [List.map_append,List.append_assoc]; exact hm)
 have h:=T.mem_ents (p:=q.1) (x:=q.2) hq
 rw [unionT_get] at h
 unfold uO at h
 split at h
 ·exact List.mem_append.2 (.inr (T.ents_of_get (p:=q.1) (x:=q.2) h))
 ·rename_i o ho
  injection h with h; subst h
  exact List.mem_append.2 (.inl (T.ents_of_get (p:=q.1) (x:=q.2) ho))
theorem sub_drop {t:T Ob} (h:subT t me=true) (hm:Sts W0 w' (mem g me++R)):Sts W0 w' (mem g t++R):=by
 have h1:=(part_sts h hm).perm (permT (mem g t) (mem g (minusT t me)) R)
 exact drop_mem h1
end
def all2 (l m:List SV):Bool :=
 List.rec (motive:=fun _=>List SV→Bool) (fun m=>List.rec true (fun _ _ _=>false) m) (fun x _ ih m=>List.rec false (fun y r _=>and (eqS2 x y) (ih r)) m) l m
def eqR (x y:SV):Bool:=match x,y with
 | .t l,.t m=>all2 l m
 | x,y=>eqS2 x y
theorem all2_eq:∀ {l m:List SV},all2 l m=true→l=m
 | [],[],_=>rfl
 | x::l,y::m,h=>by
  have h':(and (eqS2 x y) (all2 l m))=true:=h
  simp only [Bool.and_eq_true] at h'
  rw [eqS2_eq x y h'.1,all2_eq h'.2]
 | [],_::_,h=>by cases h
 | _::_,[],h=>by cases h
theorem eqR_eq:∀ x y,eqR x y=true→x=y:=by
 intro x y h
 unfold eqR at h
 split at h
 ·rw [all2_eq h]
 ·exact eqS2_eq _ _ h
def stepB (r:RF) (v:SV) (me':T Ob) (nx':Pos):Bool:=match r with
 | .ret v2 me2 nx2=>and (eqR v v2) (and (Nat.ble nx2.nat nx'.nat) (subT me' me2))
 | _=>false
theorem step_calls {W0:World} {cl:CL} (hcl:SndF Tryz.prog W0 cl) {f:Pos} {vs:List SV} {me me':T Ob} {nx nx':Pos} {v:SV} (h:stepB (cl f vs me nx) v me' nx'=true) {W:World} {R:List Thing} {g:G} {xs:List Value} (hf:g.fresh nx) (hx:dens (den g) vs=some xs) (hm:Sts W0 W (mem g me++R)) :
  Calls Tryz.prog (f.nat - 1) xs.toArray W fun e w'=>∃ g' x,e=.returned x∧g.ext g' nx∧g'.fresh nx'∧nx.nat≤nx'.nat∧den g' v=some x∧Sts W0 w' (mem g' me'++R):=by
 unfold stepB at h
 split at h
 ·rename_i v2 me2 nx2 hr
  simp only [Bool.and_eq_true] at h
  have e1:=eqR_eq _ _ h.1
  have e2:=Nat.le_of_ble_eq_true h.2.1
  subst e1
  refine (hcl.1 f vs me nx _ _ _ hr W R g xs hf hx hm).mono ?_
  rintro e w' ⟨g',x,rfl,k1,k2,k3,k4,k5⟩
  exact ⟨g',x,rfl,k1,k2.mono e2,Nat.le_trans k3 e2,k4,sub_drop h.2.2 k5⟩
 ·cases h
end
noncomputable section
open Go.RowKit
def matV (p v:SV):Bool:=match p,v with
 | .w k a b,.w j c d=>and (keq k j) (and (or (Nat.beq a 7) (Nat.beq a c)) (or (Nat.beq b 4) (Nat.beq b d)))
 | p,v=>eqV p v
def matVs (l m:List SV):Bool :=
 List.rec (motive:=fun _=>List SV→Bool) (fun m=>List.rec true (fun _ _ _=>false) m) (fun x _ ih m=>List.rec false (fun y r _=>and (matV x y) (ih r)) m) l m
theorem matV_den {g:G} {p v:SV} {x:Value} (h:matV p v=true) (hv:den g v=some x):den g p=some x:=by
 unfold matV at h
 split at h
 ·rename_i k a b j c d
  simp only [Bool.and_eq_true,Bool.or_eq_true] at h
  obtain ⟨h1,h2,h3⟩:=h
  have:=keq_eq h1; subst this
  have hv':(if (c=7∨g.w % 7=c)∧(d=4∨g.w % 4=d) then some (Value.int k g.w) else none)=some x:=hv
  show (if (a=7∨g.w % 7=a)∧(b=4∨g.w % 4=b) then some (Value.int k g.w) else none)=some x
  split at hv'
  ·rename_i hc
   have ha:a=7∨g.w % 7=a:=by
    rcases h2 with h2 | h2
    ·exact .inl (Nat.eq_of_beq_eq_true h2)
    ·have:=Nat.eq_of_beq_eq_true h2; subst this; exact hc.1
   have hb:b=4∨g.w % 4=b:=by
    rcases h3 with h3 | h3
    ·exact .inl (Nat.eq_of_beq_eq_true h3)
    ·have:=Nat.eq_of_beq_eq_true h3; subst this; exact hc.2
   rw [if_pos ⟨ha,hb⟩]; exact hv'
  ·cases hv'
 ·rw [eqV_eq _ _ h]; exact hv
theorem matVs_den {g:G}:∀ {l m:List SV} {xs:List Value},matVs l m=true→dens (den g) m=some xs→dens (den g) l=some xs
 | [],[],xs,_,h=>h
 | x::l,y::m,xs,h,hx=>by
  have h':(and (matV x y) (matVs l m))=true:=h
  simp only [Bool.and_eq_true] at h'
  have hx':(match den g y,dens (den g) m with
   | some v,some vs=>some (v::vs)
   | _,_=>none)=some xs:=hx
  cases e1:den g y with
  | none=>rw [e1] at hx'; cases hx'
  | some v =>
   rw [e1] at hx'
   cases e2:dens (den g) m with
   | none=>rw [e2] at hx'; cases hx'
   | some vs =>
    rw [e2] at hx'
    show (match den g x,dens (den g) l with
     | some v,some vs=>some (v::vs)
     | _,_=>none)=some xs
    rw [matV_den h'.1 e1,matVs_den h'.2 e2]
    exact hx'
 | [],_::_,xs,h,_=>by cases h
 | _::_,[],xs,h,_=>by cases h
def RowOk (W0:World) (f:Pos) (r:Row):Prop:=∀ (W:World) (R:List Thing) (g:G) (xs:List Value),g.fresh r.nx→dens (den g) r.vs=some xs→Sts W0 W (mem g r.me++R) →
 Calls Tryz.prog (f.nat - 1) xs.toArray W fun e w'=>∃ g' x,e=.returned x∧g.ext g' r.nx∧g'.fresh r.nx'∧r.nx.nat≤r.nx'.nat∧den g' r.v=some x∧Sts W0 w' (mem g' r.me'++R)
def rowS (bi:T BI) (f:Pos) (r:Row):Bool:=stepB (runF bi 100 f r.vs r.me r.nx) r.v r.me' r.nx'
def rowsS (bi:T BI) (f:Pos) (l:List Row):Bool:=List.rec (motive:=fun _=>Bool) true (fun r _ ih=>and (rowS bi f r) ih) l
theorem rowOk_of {W0:World} {bi:T BI} {f:Pos} {r:Row} (hs:SndF Tryz.prog W0 (runF bi 100)) (h:rowS bi f r=true):RowOk W0 f r :=
 fun W R g xs hf hx hm=>step_calls hs h hf hx hm
theorem rowsOk_of {W0:World} {bi:T BI} {f:Pos} (hs:SndF Tryz.prog W0 (runF bi 100)):∀ {l:List Row},rowsS bi f l=true→∀ r∈l,RowOk W0 f r
 | [],_,r,hr=>by cases hr
 | q::l,h,r,hr=>by
  have h':(and (rowS bi f q) (rowsS bi f l))=true:=h
  simp only [Bool.and_eq_true] at h'
  rcases List.mem_cons.1 hr with rfl | hr
  ·exact rowOk_of hs h'.1
  ·exact rowsOk_of hs h'.2 r hr
end
noncomputable section
open Go.RowKit
section
variable {R:Type}
def fKd (k:IntKind) (K:IntKind→R):R:=match k with
 | .i8=>K .i8
 | .i16=>K .i16
 | .i32=>K .i32
 | .i64=>K .i64
 | .u8=>K .u8
 | .u16=>K .u16
 | .u32=>K .u32
 | .u64=>K .u64
theorem fKd_eq (k:IntKind) (K:IntKind→R):fKd k K=K k:=by cases k <;> rfl
def fI (n:Int) (K:Int→R):R:=match n with
 | .ofNat m=>fN m fun m=>K (.ofNat m)
 | .negSucc m=>fN m fun m=>K (.negSucc m)
theorem fI_eq (n:Int) (K:Int→R):fI n K=K n:=by cases n <;> simp only [fI,fN_eq]
def force0 (v:SV) (K:SV→R):R:=match v with
 | .i k n=>fKd k fun k=>fI n fun n=>K (.i k n)
 | .b x=>(match x with
  | true=>K (.b true)
  | false=>K (.b false))
 | .s n v=>fN n fun n=>fN v fun v=>K (.s n v)
 | .pn=>K .pn
 | .sn=>K .sn
 | .mn=>K .mn
 | .fn=>K .fn
 | .ni=>K .ni
 | .w k a b=>fKd k fun k=>fN a fun a=>fN b fun b=>K (.w k a b)
 | .z a b=>fN a fun a=>fN b fun b=>K (.z a b)
 | v=>K v
theorem force0_eq (v:SV) (K:SV→R):force0 v K=K v:=by
 cases v with
 | i k n=>simp only [force0,fKd_eq,fI_eq]
 | b x=>cases x <;> rfl
 | s n v=>simp only [force0,fN_eq]
 | w k a b=>simp only [force0,fKd_eq,fN_eq]
 | z a b=>simp only [force0,fN_eq]
 | _=>rfl
def forceL (f:SV→(SV→R)→R) (l:List SV):(List SV→R)→R :=
 List.rec (motive:=fun _=>(List SV→R)→R) (fun K=>K []) (fun x _ ih K=>f x fun x=>ih fun r=>K (x::r)) l
theorem forceL_eq {f:SV→(SV→R)→R} (hf:∀ v K,f v K=K v):∀ (l:List SV) (K:List SV→R),forceL f l K=K l
 | [],K=>rfl
 | x::l,K=>by
  show f x (fun x=>forceL f l fun r=>K (x::r))=K (x::l)
  rw [hf,forceL_eq hf l]
def force1 (v:SV) (K:SV→R):R:=match v with
 | .a l=>forceL force0 l fun l=>K (.a l)
 | v=>force0 v K
theorem force1_eq (v:SV) (K:SV→R):force1 v K=K v:=by
 unfold force1
 split
 ·exact forceL_eq force0_eq _ _
 ·exact force0_eq _ _
def force2 (v:SV) (K:SV→R):R:=match v with
 | .t l=>forceL force1 l fun l=>K (.t l)
 | v=>force1 v K
theorem force2_eq (v:SV) (K:SV→R):force2 v K=K v:=by
 unfold force2
 split
 ·exact forceL_eq force1_eq _ _
 ·exact force1_eq _ _
def forceVs (l:List SV) (K:List SV→R):R:=forceL force2 l K
theorem forceVs_eq (l:List SV) (K:List SV→R):forceVs l K=K l:=forceL_eq force2_eq _ _
end
def pureC (cl:CL) (f:Pos):BI:=fun vs me nx=>bif plVs vs then (match cl f vs .e p1 with
 | .ret v _ _=>bif plV v then .ret v me nx else .no
 | _=>.no) else .no
section
variable {W0:World}
theorem pureC_ok {cl:CL} (hs:SndF Tryz.prog W0 cl) {f:Pos} (he:Enters Tryz.prog (f.nat - 1)):BSnd Tryz.prog W0 (f.nat - 1) (pureC cl f):=by
 refine ⟨he,fun vs me nx v me' nx' h W R g xs hf hx hm=>?_,fun vs me nx v me' nx' h=>?_⟩
 ·unfold pureC at h
  cases hp:plVs vs with
  | false=>rw [hp] at h; cases h
  | true =>
   rw [hp] at h
   simp only [cond_true] at h
   cases hr:cl f vs .e p1 with
   | no=>rw [hr] at h; cases h
   | pan e m n=>rw [hr] at h; cases h
   | ret u m n =>
    rw [hr] at h
    simp only at h
    cases hv:plV u with
    | false=>rw [hv] at h; cases h
    | true =>
     rw [hv] at h
     injection h with h1 h2 h3; subst h1; subst h2; subst h3
     have hx':dens (den (gw g)) vs=some xs:=by rw [plVs_dens (g:=g) (g':=gw g) rfl rfl hp]; exact hx
     refine (hs.1 f vs .e p1 _ _ _ hr W (mem g me++R) (gw g) xs (fun _ _=>rfl) hx' hm).mono ?_
     rintro e w' ⟨g',x,rfl,k1,k2,k3,k4,k5⟩
     refine ⟨g,x,rfl,G.ext.refl _ _,hf,Nat.le_refl _,?_,drop_mem k5⟩
     rw [← k4]
     exact (plV_den (g:=g) (g':=g') k1.1 k1.2.1 hv).symm
 ·unfold pureC at h
  cases hp:plVs vs with
  | false=>rw [hp] at h; cases h
  | true =>
   rw [hp] at h
   simp only [cond_true] at h
   cases hr:cl f vs .e p1 with
   | no=>rw [hr] at h; cases h
   | pan e m n=>rw [hr] at h; cases h
   | ret u m n =>
    rw [hr] at h
    simp only at h
    cases hv:plV u with
    | false=>rw [hv] at h; cases h
    | true=>rw [hv] at h; cases h
def plainB (b:BI):BI:=fun vs me nx=>forceVs vs fun vs=>match b vs me nx with
 | .ret v me nx=>force2 v fun v=>.ret v me nx
 | .pan v me nx=>.pan v me nx
 | .no=>.no
theorem plainB_eq (b:BI):plainB b=b:=by
 funext vs me nx
 unfold plainB
 rw [forceVs_eq]
 cases b vs me nx with
 | ret v me nx=>exact force2_eq _ _
 | pan=>rfl
 | no=>rfl
def pureG (cl:CL) (f:Pos):BI:=plainB (pureC cl f)
theorem pureG_ok {cl:CL} (hs:SndF Tryz.prog W0 cl) {f:Pos} (he:Enters Tryz.prog (f.nat - 1)):BSnd Tryz.prog W0 (f.nat - 1) (pureG cl f):=by
 unfold pureG
 rw [plainB_eq]
 exact pureC_ok hs he
end
def bi1:T BI:=T.put p68 (some (pureG (runF biA 100) p68)) (T.put p53 (some (pureG (runF biA 100) p53)) (T.put p114 (some (pureG (runF biA 100) p114)) biA))
def bi2:T BI:=T.put p27 (some (pureG (runF bi1 100) p27)) (T.put p28 (some (pureG (runF bi1 100) p28)) (T.put p29 (some (pureG (runF bi1 100) p29)) (T.put p30 (some (pureG (runF bi1 100) p30)) (T.put p32 (some (pureG (runF bi1 100) p32)) bi1))))
section
variable {W0:World}
theorem bi1_ok (hF:ftab0.Ok Tryz.prog W0) (hmix:Tryz.prog.follows .mixedOrders=true):AllT (fun f b=>BSnd Tryz.prog W0 (f.nat - 1) b) bi1 :=
 AllT_put p68 _ _ _ (AllT_put p53 _ _ _ (AllT_put p114 _ _ _ (biA_ok hF hmix) (pureG_ok (f:=p114) (runA_sound hF hmix 100) en113)) (pureG_ok (f:=p53) (runA_sound hF hmix 100) en52)) (pureG_ok (f:=p68) (runA_sound hF hmix 100) en67)
theorem run1_sound (hF:ftab0.Ok Tryz.prog W0) (hmix:Tryz.prog.follows .mixedOrders=true) (n:Nat):SndF Tryz.prog W0 (runF bi1 n):=runF_sound (bi1_ok hF hmix) fs_ok hF hmix endd n
theorem bi2_ok (hF:ftab0.Ok Tryz.prog W0) (hmix:Tryz.prog.follows .mixedOrders=true):AllT (fun f b=>BSnd Tryz.prog W0 (f.nat - 1) b) bi2 :=
 AllT_put p27 _ _ _ (AllT_put p28 _ _ _ (AllT_put p29 _ _ _ (AllT_put p30 _ _ _ (AllT_put p32 _ _ _ (bi1_ok hF hmix)
  (pureG_ok (f:=p32) (run1_sound hF hmix 100) en31)) (pureG_ok (f:=p30) (run1_sound hF hmix 100) en29)) (pureG_ok (f:=p29) (run1_sound hF hmix 100) en28)) (pureG_ok (f:=p28) (run1_sound hF hmix 100) en27)) (pureG_ok (f:=p27) (run1_sound hF hmix 100) en26)
theorem run2_sound (hF:ftab0.Ok Tryz.prog W0) (hmix:Tryz.prog.follows .mixedOrders=true) (n:Nat):SndF Tryz.prog W0 (runF bi2 n):=runF_sound (bi2_ok hF hmix) fs_ok hF hmix endd n
end
end
noncomputable section
open Go.RowKit
def wkC (Fc:List Nat) (l:List Nat):List Nat→Bool :=
 List.rec (motive:=fun _=>List Nat→Bool) (fun m=>List.rec true (fun _ _ _=>false) m) (fun c _ ih m=>List.rec false (fun d r _=>and (bif Nat.beq c d then true else and (Nat.beq c 0) (not (memC d Fc))) (ih r)) m) l
def inC (Fc f:List Nat):Bool:=List.rec (motive:=fun _=>Bool) true (fun c _ ih=>and (memC c f) ih) Fc
def wkF (Fc:List Nat) (F:Option (List Nat)):Bool:=match F with
 | none=>true
 | some f=>inC Fc f
theorem inC_mem:∀ {Fc f:List Nat},inC Fc f=true→∀ c∈Fc,c∈f
 | [],f,_,c,hc=>by cases hc
 | d::Fc,f,h,c,hc=>by
  have h':(and (memC d f) (inC Fc f))=true:=h
  simp only [Bool.and_eq_true] at h'
  rcases List.mem_cons.1 hc with rfl | hc
  ·exact memC_mem.1 h'.1
  ·exact inC_mem h'.2 c hc
theorem Codes.weak {F':Option (List Nat)} {Fc:List Nat} (hF:wkF Fc F'=true) {rev':List Nat} {l:List Tm} (hs:Codes F' rev' l):∀ {rev:List Nat},wkC Fc rev rev'=true→Codes (some Fc) rev l:=by
 induction hs with
 | nil =>
  intro rev h
  cases rev with
  | nil=>exact .nil
  | cons=>cases h
 | @known d t r l hc hs ih =>
  intro rev h
  cases rev with
  | nil=>cases h
  | cons c rev =>
   have h':(and (bif Nat.beq c d then true else and (Nat.beq c 0) (not (memC d Fc))) (wkC Fc rev r))=true:=h
   simp only [Bool.and_eq_true] at h'
   have ih:=ih h'.2
   cases hb:Nat.beq c d with
   | true=>have:=Nat.eq_of_beq_eq_true hb; subst this; exact .known hc ih
   | false =>
    have h1:=h'.1
    rw [hb] at h1
    simp only [cond_false,Bool.and_eq_true,Bool.not_eq_true'] at h1
    have:=Nat.eq_of_beq_eq_true h1.1; subst this
    refine .junk rfl (fun e he hce=>?_) ih
    have:=codeT_fun hc hce; subst this
    rw [memC_mem.2 he] at h1; cases h1.2
 | @junk t r l L e hj hs ih =>
  intro rev h
  cases rev with
  | nil=>cases h
  | cons c rev =>
   have h':(and (bif Nat.beq c 0 then true else and (Nat.beq c 0) (not (memC 0 Fc))) (wkC Fc rev r))=true:=h
   simp only [Bool.and_eq_true] at h'
   have ih:=ih h'.2
   have hc:c=0:=by
    cases hb:Nat.beq c 0 with
    | true=>exact Nat.eq_of_beq_eq_true hb
    | false =>
     have h1:=h'.1
     rw [hb] at h1
     simp at h1
   subst hc
   refine .junk rfl (fun d hd=>?_) ih
   subst e
   exact hj d (inC_mem hF d hd)
def sW (v v':Option Ob):Bool:=match v,v' with
 | none,_=>true
 | some (.st n l most (some Fc)),some (.st n' l' most' F')=>and (Nat.beq n n') (and (Nat.beq most most') (and (wkC Fc l l') (wkF Fc F')))
 | v,v'=>eqOo v v'
def kO (v v':Option Ob):Option Ob:=match v with
 | none=>none
 | some _=>v'
def subW (t:T Ob):T Ob→Bool :=
 T.rec (motive:=fun _=>T Ob→Bool) (fun _=>true) (fun _ v _ ihl ihr m=>match m with
  | .e=>false
  | .n l' v' r'=>and (sW v v') (and (ihl l') (ihr r'))) t
def selT (t:T Ob):T Ob→T Ob :=
 T.rec (motive:=fun _=>T Ob→T Ob) (fun _=>.e) (fun _ v _ ihl ihr m=>match m with
  | .e=>.e
  | .n l' v' r'=>.n (ihl l') (kO v v') (ihr r')) t
theorem selT_get:∀ (t m:T Ob) (i:Pos),T.get i (selT t m)=kO (T.get i t) (T.get i m)
 | .e,m,i=>by
  have:selT .e m=.e:=rfl
  rw [this,T.get_e]; rfl
 | .n l v r,.e,i=>by
  have:selT (.n l v r) .e=.e:=rfl
  rw [this,T.get_e]
  cases T.get i (T.n l v r) <;> rfl
 | .n l v r,.n l' v' r',.h=>rfl
 | .n l v r,.n l' v' r',.o p=>selT_get l l' p
 | .n l v r,.n l' v' r',.i p=>selT_get r r' p
theorem subW_get:∀ {t m:T Ob} {i:Pos} {o:Ob},subW t m=true→T.get i t=some o→sW (some o) (T.get i m)=true
 | .e,m,i,o,_,h=>by rw [T.get_e] at h; cases h
 | .n l v r,.e,i,o,hs,_=>by cases hs
 | .n l v r,.n l' v' r',.h,o,hs,h=>by
  have h':(and (sW v v') (and (subW l l') (subW r r')))=true:=hs
  simp only [Bool.and_eq_true] at h'
  have hv:v=some o:=h
  subst hv
  exact h'.1
 | .n l v r,.n l' v' r',.o p,o,hs,h=>by
  have h':(and (sW v v') (and (subW l l') (subW r r')))=true:=hs
  simp only [Bool.and_eq_true] at h'
  exact subW_get (t:=l) (m:=l') (i:=p) h'.2.1 h
 | .n l v r,.n l' v' r',.i p,o,hs,h=>by
  have h':(and (sW v v') (and (subW l l') (subW r r')))=true:=hs
  simp only [Bool.and_eq_true] at h'
  exact subW_get (t:=r) (m:=r') (i:=p) h'.2.2 h
section
variable {W0 W w':World} {R:List Thing} {g g':G} {me me':T Ob} {nx:Pos}
theorem part_sts' {t:T Ob} (h:∀ i o,T.get i t=some o→T.get i me=some o) (hm:Sts W0 w' (mem g me++R)):Sts W0 w' (mem g t++(mem g (minusT t me)++R)):=by
 have hn:((t.ents++(minusT t me).ents).map (·.1)).Nodup:=by
  rw [List.map_append]
  refine List.nodup_append.2 ⟨T.ents_nodup _,T.ents_nodup _,fun a ha b hb e=>?_⟩
  subst e
  obtain ⟨q,hq,rfl⟩:=List.mem_map.1 ha
  obtain ⟨p,hp,e⟩:=List.mem_map.1 hb
  have h1:=T.mem_ents (p:=q.1) (x:=q.2) hq
  have h2:=T.mem_ents (p:=p.1) (x:=p.2) hp
  rw [minusT_get,e,h1] at h2
  cases h2
 have:=sub_sts (g:=g) (W0:=W0) (w':=w') (t.ents++(minusT t me).ents) me.ents R hn (fun q hq=>by
  rcases List.mem_append.1 hq with hq | hq
  ·exact T.ents_of_get (p:=q.1) (x:=q.2) (h _ _ (T.mem_ents (p:=q.1) (x:=q.2) hq))
  ·have h2:=T.mem_ents (p:=q.1) (x:=q.2) hq
   rw [minusT_get] at h2
   unfold mO at h2
   split at h2
   ·exact T.ents_of_get (p:=q.1) (x:=q.2) h2
   ·cases h2) hm
 rw [List.map_append,List.append_assoc] at this
 exact this
theorem weak_st {i:Pos} {n n' most most':Nat} {rev rev':List Nat} {F':Option (List Nat)} {Fc:List Nat} (h1:n=n') (h2:most=most') (h3:wkC Fc rev rev'=true) (h4:wkF Fc F'=true) {Y:List Thing} (hn:Sts W0 w' (OT g i (.st n' rev' most' F')::Y)):Sts W0 w' (OT g i (.st n rev most (some Fc))::Y):=by
 subst h1; subst h2
 obtain ⟨y,q'⟩:=hn.of_some
 obtain ⟨⟨b1,b2,b4,b5⟩,b3⟩:=q'.of_both.of_fact
 exact Sts.to_some y (Sts.to_both (Sts.to_fact ⟨b1,Codes.weak h4 b2 h3,b4,b5⟩ b3))
theorem partW_sts {t:T Ob} (h:subW t me=true) (hm:Sts W0 w' (mem g me++R)):Sts W0 w' (mem g t++(mem g (minusT (selT t me) me)++R)):=by
 have h1:=part_sts' (t:=selT t me) (fun i o hi=>by
  rw [selT_get] at hi
  unfold kO at hi
  split at hi
  ·cases hi
  ·exact hi) hm
 refine pick_all (g:=g) (g':=g) t.ents (selT t me) _ (T.ents_nodup _) (fun q hq=>?_) h1
 have h2:=T.mem_ents (p:=q.1) (x:=q.2) hq
 have h3:=subW_get h h2
 have h4:=selT_get t me q.1
 rw [h2] at h4
 have h4':T.get q.1 (selT t me)=T.get q.1 me:=h4
 rw [h4']
 unfold sW at h3
 split at h3
 ·rename_i e; cases e
 ·rename_i n l most Fc n' l' most' F' e1 e2
  simp only [Bool.and_eq_true] at h3
  obtain ⟨k1,k2,k3,k4⟩:=h3
  injection e1 with e1
  refine ⟨_,e2,fun Y hY=>?_⟩
  rw [e1]
  exact weak_st (Nat.eq_of_beq_eq_true k1) (Nat.eq_of_beq_eq_true k2) k3 k4 hY
 ·have:=eqOo_eq h3
  exact ⟨q.2,this.symm,fun Y hY=>hY⟩
end
def tkW (tb:List Row) (alt:BI):BI:=fun vs me nx =>
 List.rec (motive:=fun _=>RF) (alt vs me nx) (fun r _ ih=>bif and (Nat.beq r.nx.nat nx.nat) (and (matVs r.vs vs) (subW r.me me)) then .ret r.v (unionT (minusT (selT r.me me) me) r.me') r.nx' else ih) tb
theorem tkW_ok {W0:World} {alt:BI} {f:Pos} (he:Enters Tryz.prog (f.nat - 1)) (ha:BSnd Tryz.prog W0 (f.nat - 1) alt):∀ (tb:List Row),(∀ r∈tb,RowOk W0 f r)→BSnd Tryz.prog W0 (f.nat - 1) (tkW tb alt)
 | [],_=>ha
 | r::tb,hall=>by
  have ih:=tkW_ok he ha tb (fun q hq=>hall q (List.mem_cons_of_mem _ hq))
  have hr:=hall r (by simp)
  have hd:∀ vs me nx,tkW (r::tb) alt vs me nx=bif and (Nat.beq r.nx.nat nx.nat) (and (matVs r.vs vs) (subW r.me me)) then .ret r.v (unionT (minusT (selT r.me me) me) r.me') r.nx' else tkW tb alt vs me nx:=fun _ _ _=>rfl
  refine ⟨he,fun vs me nx v me' nx' h=>?_,fun vs me nx v me' nx' h=>?_⟩
  ·rw [hd] at h
   cases hb:(and (Nat.beq r.nx.nat nx.nat) (and (matVs r.vs vs) (subW r.me me))) with
   | false=>rw [hb] at h; exact ih.ret vs me nx v me' nx' h
   | true =>
    rw [hb] at h
    simp only [Bool.and_eq_true] at hb
    have e1:=nat_inj (Nat.eq_of_beq_eq_true hb.1)
    injection h with h1 h2 h3; subst h1; subst h2; subst h3
    intro W R g xs hf hx hm
    have hx':=matVs_den (g:=g) hb.2.1 hx
    rw [← e1] at hf
    have hp:=partW_sts hb.2.2 hm
    refine (hr W _ g xs hf hx' hp).mono ?_
    rintro e w' ⟨g',x,rfl,k1,k2,k3,k4,k5⟩
    refine ⟨g',x,rfl,by rw [← e1]; exact k1,k2,by rw [← e1]; exact k3,k4,?_⟩
    have h6:=(mem_mono (me:=minusT (selT r.me me) me) (k1.le hf) (k5.perm (permT _ _ R))).perm (permT _ _ R)
    exact union_sts h6
  ·rw [hd] at h
   cases hb:(and (Nat.beq r.nx.nat nx.nat) (and (matVs r.vs vs) (subW r.me me))) with
   | false=>rw [hb] at h; exact ih.pan vs me nx v me' nx' h
   | true=>rw [hb] at h; cases h
def keepOb (v v':Option Ob):Option Ob:=match v,v' with
 | some (.st n rev most F),some (.st n' rev' most' F')=>some (.st n' rev' most' F')
 | some a,some b=>bif eqOb a b then some a else none
 | _,_=>none
def keepT (t:T Ob):T Ob→T Ob :=
 T.rec (motive:=fun _=>T Ob→T Ob) (fun _=>.e) (fun _ v _ ihl ihr t'=>match t' with
  | .e=>.e
  | .n l' v' r'=>.n (ihl l') (keepOb v v') (ihr r')) t
theorem keepOb_none (v:Option Ob):keepOb v none=none:=by
 unfold keepOb; split <;> first | rfl | (rename_i h; cases h) | skip
 all_goals (rename_i h1 h2; cases h2)
theorem keep_get:∀ (t t':T Ob) (i:Pos),T.get i (keepT t t')=keepOb (T.get i t) (T.get i t')
 | .e,t',i=>by
  have:keepT .e t'=.e:=rfl
  rw [this,T.get_e]
  cases T.get i t' <;> rfl
 | .n l v r,.e,i=>by
  have:keepT (.n l v r) .e=.e:=rfl
  rw [this,T.get_e,keepOb_none]
 | .n l v r,.n l' v' r',.h=>rfl
 | .n l v r,.n l' v' r',.o p=>keep_get l l' p
 | .n l v r,.n l' v' r',.i p=>keep_get r r' p
section
variable {W0 W w':World} {R:List Thing} {g g':G} {me me':T Ob} {nx:Pos}
theorem keep_st {i:Pos} {n m most most':Nat} {rev rev':List Nat} {F F':Option (List Nat)} (hle:g.le g') (h:T.get i me=some (.st n rev most F)) (hold:Sts W0 W (mem g me++R)) {Y:List Thing} (hn:Sts W0 w' (OT g' i (.st m rev' most' F')::Y)):Sts W0 w' (OT g i (.st m rev' most' F')::Y):=by
 obtain ⟨x,q⟩:=(mout hold h).of_some
 obtain ⟨⟨a1,_⟩,_⟩:=q.of_both.of_fact
 obtain ⟨y,q'⟩:=hn.of_some
 obtain ⟨⟨b1,b2,b4,b5⟩,b3⟩:=q'.of_both.of_fact
 have e1:=hle.2.2 _ _ a1
 rw [b1] at e1
 exact Sts.to_some y (Sts.to_both (Sts.to_fact ⟨by rw [a1,← e1],b2,b4,b5⟩ b3))
theorem keepT_sts (hf:g.fresh nx) (hext:g.ext g' nx) (hold:Sts W0 W (mem g me++R)) (hnew:Sts W0 w' (mem g' me'++R)):Sts W0 w' (mem g (keepT me me')++R):=by
 have hle:=hext.le hf
 refine pick_all (g':=g') (keepT me me').ents me' R (T.ents_nodup _) (fun q hq=>?_) hnew
 have h1:=T.mem_ents (p:=q.1) (x:=q.2) hq
 rw [keep_get] at h1
 unfold keepOb at h1
 split at h1
 ·rename_i n rev most F n' rev' most' F' e1 e2
  injection h1 with h1
  refine ⟨_,e2,fun Y hY=>?_⟩
  rw [← h1]
  exact keep_st hle e1 hold hY
 ·rename_i a b _ e1 e2
  cases hb:eqOb a b with
  | false=>rw [hb] at h1; cases h1
  | true =>
   rw [hb] at h1
   injection h1 with h1
   have hab:=eqOb_eq _ _ hb
   subst hab
   refine ⟨a,e2,fun Y hY=>?_⟩
   rw [← h1]
   cases a with
   | c t cs=>exact conv_c hle e1 hold hY
   | r t z cs=>exact conv_r hle e1 hold hY
   | ro t cs=>exact conv_ro hle e1 hold hY
   | m k kvs=>exact conv_m hle e1 hold hY
   | _=>unfold eqOb at hb; cases hb
 ·cases h1
end
section
variable {W0:World}
def tkK (cl:CL):BI:=fun vs me nx=>match cl p31 vs me nx with
 | .ret (.t [got,.i .i64 (.ofNat e)]) me' nx'=>bif Nat.beq e 0 then .ret (.t [got,.i .i64 (.ofNat e)]) me' nx' else (bif pl1 got then .ret (.t [got,.i .i64 (.ofNat e)]) (keepT me me') nx else .no)
 | _=>.no
theorem tkK_ok {cl:CL} (hs0:SndF Tryz.prog W0 cl):BSnd Tryz.prog W0 30 (tkK cl):=by
 refine ⟨en30,fun vs me nx v me' nx' h W R g xs hf hx hm=>?_,fun vs me nx v me' nx' h=>?_⟩
 ·unfold tkK at h
  split at h
  ·rename_i got e m1 n1 hr
   have hs:=hs0.1 p31 vs me nx _ _ _ hr W R g xs hf hx hm
   cases he:Nat.beq e 0 with
   | true =>
    rw [he] at h
    injection h with h1 h2 h3; subst h1; subst h2; subst h3
    exact hs
   | false =>
    rw [he] at h
    simp only [cond_false] at h
    cases hp:pl1 got with
    | false=>rw [hp] at h; cases h
    | true =>
     rw [hp] at h
     injection h with h1 h2 h3; subst h1; subst h2; subst h3
     refine hs.mono ?_
     rintro e2 w' ⟨g',x,rfl,k1,k2,k3,k4,k5⟩
     refine ⟨g,x,rfl,G.ext.refl _ _,hf,Nat.le_refl _,?_,keepT_sts hf k1 hm k5⟩
     rw [← k4]
     refine (plV_den (g:=g) (g':=g') k1.1 k1.2.1 ?_).symm
     show (and (pl1 got) (and (pl1 (.i .i64 (.ofNat e))) true))=true
     rw [hp]; rfl
  ·cases h
 ·unfold tkK at h
  split at h
  ·rename_i got e m1 n1 hr
   cases he:Nat.beq e 0 with
   | true=>rw [he] at h; cases h
   | false =>
    rw [he] at h
    simp only [cond_false] at h
    cases hp:pl1 got with
    | false=>rw [hp] at h; cases h
    | true=>rw [hp] at h; cases h
  ·cases h
end
def biK (tb:List Row):T BI:=T.put p31 (some (tkW tb (tkK (runF bi2 100)))) bi2
theorem runK_sound {W0:World} (hF:ftab0.Ok Tryz.prog W0) (hmix:Tryz.prog.follows .mixedOrders=true) {tb:List Row} (htb:∀ r∈tb,RowOk W0 p31 r) (n:Nat):SndF Tryz.prog W0 (runF (biK tb) n) :=
 runF_sound (AllT_put p31 _ _ _ (bi2_ok hF hmix) (tkW_ok (f:=p31) en30 (tkK_ok (run2_sound hF hmix 100)) tb htb)) fs_ok hF hmix endd n
end
noncomputable section
open Go.RowKit
set_option maxRecDepth 100000
section
variable {P:Program} {W0 W w:World} {L L' R X:List Thing} {kn:Kn} {N:Nat} {ds:List Deferred} {Q:Exit→Act→World→Prop} {ops:Array Oper} {r:List Oper} {F:Fence} {n:Nat}
theorem GL.callL {α:Type} {o:Oper} {f:FuncId} {args:List Value} {v:α→Value} {T:α→List Thing} {C:α→Prop} {d:Nat} (hx:EC P kn o f args) (hc:∀ w,Sts W0 w L→Calls P f args.toArray w fun e w'=>∃ x,C x∧e=.returned (v x)∧Sts W0 w' (T x)) (hd:o.dst=some d)
  (hN:Nat.blt d N=true) (hon:On ops kn o) (h:∀ x,C x→GL P W0 N ds ops Q r ((d,v x)::kn) (T x)):GL P W0 N ds ops Q (o::r) kn L:=by
 intro a w ha hs
 simp only [wpL,hon N ds a ha,if_true]
 refine .inl ?_
 simp only [Oper.wp,hx a.eval w ha.ev,Oper.upon]
 refine (hc w hs).mono ?_
 rintro e w' ⟨x,hx,rfl,h'⟩
 show wpL P ops Q r (a.put o.dst (v x)) w'
 rw [hd]; exact h x hx _ _ (ha.put d (v x) hN) h'
theorem GLI.on {o:Oper} {v:Value} {d:Nat} (hF:∀ f,F.fn f) (hnd:∀ c,o.op≠.defer c) (hx:EX P W0 kn L o v) (hd:o.dst=some d) (hN:Nat.blt d N=true) (hon:On ops kn o) (h:GLI F n P W0 N ds ops Q r ((d,v)::kn) L):GLI F n P W0 N ds ops Q (o::r) kn L:=by
 intro a w ha hs
 refine ⟨hon N ds a ha,fun f _=>hF f,?_⟩
 rw [Oper.semAt_eq _ _ _ hnd,hx a.eval w ha.ev hs]
 show wpLI F n P ops Q r (a.put o.dst v) w
 rw [hd]; exact h _ _ (ha.put d v hN) hs
theorem GLI.yieldG {σ:Type} {C:σ→Prop} {d t l:Nat} {xs:List Operand} {tys:Array TypeId} {ty ps af} {gd:Option (Nat × Bool)} {vs:List Value} {T:σ→List Thing} {v:Value} (hF:∀ f,F.fn f) (hdp:F.depth=none) (ht:Proofs.YtadggjnohohedaaGreatDoor.lk kn t=some (.func (.yield l) #[] #[])) (hx:evs kn xs=some vs) (hN:Nat.blt d N=true)
  (hon:On ops kn ⟨some d,.call { callee:=.value (.tmp t),args:=xs.toArray,argTypes:=tys },ty,ps,af,gd⟩)
  (hY:∀ w,Sts W0 w L→YieldAt F (n - 1) P l vs.toArray w fun e w'=>∃ x,C x∧e=.returned v∧Sts W0 w' (T x)) (h:∀ x,C x→GLI F n P W0 N ds ops Q r ((d,v)::kn) (T x)):GLI F n P W0 N ds ops Q (⟨some d,.call { callee:=.value (.tmp t),args:=xs.toArray,argTypes:=tys },ty,ps,af,gd⟩::r) kn L:=by
 intro a w ha hs
 refine ⟨hon N ds a ha,fun f _=>hF f,?_⟩
 obtain ⟨fn,tmps,assign,body,h1,h2⟩:=hY w hs
 have e1:xs.toArray.map a.eval=vs.toArray:=by rw [← evs_spec ha.ev hx]; simp
 have e0:a.eval (.tmp t)=.func (.yield l) #[] #[]:=ha.ev _ _ ht
 rw [Oper.semAt_eq _ _ _ (fun c hc=>by cases hc)]
 have hr:(execOp a.eval ⟨some d,.call { callee:=.value (.tmp t),args:=xs.toArray,argTypes:=tys },ty,ps,af,gd⟩).run P w=.ok (.round l fn tmps assign body) w:=by
  simp only [execOp,resolve,e0,e1,Deferred.ofValue,Sem.run_bind,Sem.run_pure,Result.andThen_ok,invoke,Array.empty_append,Array.append_empty,h1]
 rw [hr]
 refine ⟨fun hd=>(by rw [hdp] at hd; cases hd),h2.mono ?_⟩
 rintro e w' ⟨x,hx,rfl,hs'⟩
 exact h x hx _ _ (ha.put d v hN) hs'
def chv (k e:Int):Value:=.agg #[.int .i64 k,.int .i64 e]
theorem q201:EqT Tryz.prog 201 [.i .i64 0,.i .i64 0]:=by
 have hS:Tryz.prog.underlying 201=some (.struct (Tryz.prog.fieldsOf 201)):=by kernel_rfl
 refine eqT_of hS ?_ (by kernel_rfl) (by kernel_rfl)
 simp only [Program.fieldsOf,Tryz.underlying201]
 exact ⟨rfl,rfl,Tryz.underlying3,⟨rfl,rfl,Tryz.underlying3,trivial⟩⟩
theorem EX.ne201 {d g ty' x y ty ps af} {k e k' e':Nat} (hx:Proofs.YtadggjnohohedaaGreatDoor.ev kn x=some (chv k e)) (hy:Proofs.YtadggjnohohedaaGreatDoor.ev kn y=some (chv k' e')) (hne:(Nat.beq k k' && Nat.beq e e')=false):EX Tryz.prog W0 kn L ⟨d,.binOp .eql 201 x y ty',ty,ps,af,g⟩ (.bool false):=fun ρ w he hs=>by
 have hq:eqs [.i .i64 (.ofNat k),.i .i64 (.ofNat e)] [.i .i64 (.ofNat k'),.i .i64 (.ofNat e')]=some false:=by
  have:eqs [.i .i64 (.ofNat k),.i .i64 (.ofNat e)] [.i .i64 (.ofNat k'),.i .i64 (.ofNat e')]=some (bif Nat.beq k k' then (bif Nat.beq e e' then true else false) else false):=rfl
  rw [this]
  cases h1:Nat.beq k k' <;> cases h2:Nat.beq e e' <;> first | rfl | (rw [h1,h2] at hne; cases hne)
 obtain ⟨v,h1,h2⟩:=q201 ⟨fun _=>none,0,0,by decide,by decide⟩ [.i .i64 (.ofNat k),.i .i64 (.ofNat e)] [.i .i64 (.ofNat k'),.i .i64 (.ofNat e')] [.int .i64 k,.int .i64 e] [.int .i64 k',.int .i64 e'] false w ρ x y ty' .eql (.b false) rfl rfl rfl (he x _ hx) (he y _ hy) (by rw [hq]; rfl)
 have:v=.bool false:=(Option.some.inj h1).symm
 subst this
 exact h2 _ _ _ _ _
theorem q_sz201:SZ Tryz.prog 201 2:=by unfold SZ; kernel_rfl
def bc2 (b:Nat) (k e:Nat):Thing:=Bk b 201 [.int .i64 k,.int .i64 e]
theorem f268_run {σ α β:Type} {C:σ→Prop} {X':σ→List Thing} {C1:α→Prop} {T0:Thing} {T1:α→Thing} {C2:α→β→Prop} {T2:α→β→Thing} {l m bm bc bs k ep key k2 e2:Nat} {st:Value}
  (hS:∀ w R,Sts W0 w (T0::R)→Calls Tryz.prog 80 [chv k ep,st].toArray w fun e w'=>∃ x,C1 x∧e=.returned (.tuple #[.int .i64 key,.int .i64 0])∧Sts W0 w' (T1 x::R))
  (hN:∀ x,C1 x→∀ w R,Sts W0 w (T1 x::R)→Calls Tryz.prog 129 [chv k ep,st].toArray w fun e w'=>∃ y,C2 x y∧e=.returned (.tuple #[chv k2 e2,.int .i64 0])∧Sts W0 w' (T2 x y::R))
  (e80:Enters Tryz.prog 80) (e129:Enters Tryz.prog 129) (hne:(Nat.beq k k2 && Nat.beq ep e2)=false)
  (hY:∀ x y w b8,C1 x→C2 x y→Sts W0 w (bc2 b8 k2 e2::T2 x y::Bk bm 3 [.int .i64 1]::bc2 bc k ep::Bk bs 22 [st]::X)→YieldAt Fence.wide m Tryz.prog l [.int .i64 key,chv k2 e2].toArray w fun e w'=>∃ z,C z∧e=.returned (.bool true)∧Sts W0 w' (bc2 b8 k2 e2::T2 x y::Bk bm 3 [.int .i64 1]::bc2 bc k ep::Bk bs 22 [st]::X' z))
  (hs:Sts W0 w (T0::Bk bm 3 [.int .i64 1]::bc2 bc k ep::Bk bs 22 [st]::X)) :
  Calls Tryz.prog 268 [.func (.yield l) #[] #[],pp bm,pp bc,pp bs].toArray w fun e w'=>∃ x y z,C1 x∧C2 x y∧C z∧e=.returned (.int .i64 0)∧Sts W0 w' (T2 x y::X' z):=by
 unfold bc2 at *
 refine calls_of_wp Tryz.func268 rfl ?_
 refine (show GC Tryz.prog W0 Tryz.f268.ntmps [] _ (bodyPost Tryz.prog Tryz.f268 _) (argKn 0 [.func (.yield l) #[] #[],pp bm,pp bc,pp bs]) _ from ?_) _ _ (has_enter [_,_,_,_] (Nat.le_of_ble_eq_true rfl)) hs
 rw [show Tryz.f268.ntmps=42 from Tryz.ntmps268]
 refine GC.seq (GC.region (GL.v_ (EX.assign rfl) rfl rfl rfl (GL.nil (GE.seq ?_))))
 refine GC.seq (GC.seq (GC.region ?_))
 refine GL.v_ (EX.ld rfl rfl (One.of Tryz.underlying3 rfl)) rfl rfl rfl ?_
 refine GL.v_ (EX.move rfl) rfl rfl rfl ?_
 refine GL.nil (GE.seq ?_)
 refine GC.block (GC.loop2 ?_)
 refine GC.seq (GC.region ?_)
 refine GL.v_ (EX.lss rfl rfl) rfl rfl rfl ?_
 refine GL.nil (GE.seq ?_)
 refine GC.seq (GC.condT rfl (by decide) (GC.skip (GE.seq ?_)))
 refine GC.seq (GC.block (GC.seq (GC.region ?_)))
 refine GL.v_ (EX.ldN rfl q_many201 rfl) rfl rfl rfl ?_
 refine GL.v_ (EX.ld rfl rfl (One.of Tryz.underlying22 rfl)) rfl rfl rfl ?_
 refine GL.callL (EC.direct e80 rfl) (fun w h=>hS w _ h) rfl rfl (.free rfl) (fun x hx=>?_)
 refine GL.v_ (EX.move rfl) rfl rfl rfl ?_
 refine GL.v_ (EX.extract rfl rfl) rfl rfl rfl ?_
 refine GL.v_ (EX.extract rfl rfl) rfl rfl rfl ?_
 refine GL.v_ (EX.assign rfl) rfl rfl rfl ?_
 refine GL.v_ (EX.assign rfl) rfl rfl rfl ?_
 refine GL.nil (GE.seq ?_)
 refine GC.seq (GC.seq (GC.region ?_))
 refine GL.v_ (EX.move rfl) rfl rfl rfl ?_
 refine GL.v_ (EX.neq rfl rfl) rfl rfl rfl ?_
 refine GL.nil (GE.seq ?_)
 refine GC.condF rfl (by decide) (GC.skip (GE.seq ?_))
 refine GC.seq (GC.region ?_)
 refine GL.v_ (EX.ldN rfl q_many201 rfl) rfl rfl rfl ?_
 refine GL.v_ (EX.ld rfl rfl (One.of Tryz.underlying22 rfl)) rfl rfl rfl ?_
 refine GL.callL (EC.direct e129 rfl) (fun w h=>hN x hx w _ h) rfl rfl (.free rfl) (fun y hy=>?_)
 refine GL.v_ (EX.move rfl) rfl rfl rfl ?_
 refine GL.v_ (EX.extract rfl rfl) rfl rfl rfl ?_
 refine GL.v_ (EX.extract rfl rfl) rfl rfl rfl ?_
 refine GL.eff (EF.alloc q_al201) rfl rfl (.free rfl) (fun b8 _=>?_)
 refine GL.u_ (EU.st rfl rfl q_sz201 rfl rfl rfl) rfl rfl ?_
 refine GL.v_ (EX.assign rfl) rfl rfl rfl ?_
 refine GL.nil (GE.seq ?_)
 refine GC.seq (GC.seq (GC.region ?_))
 refine GL.v_ (EX.move rfl) rfl rfl rfl ?_
 refine GL.v_ (EX.neq rfl rfl) rfl rfl rfl ?_
 refine GL.nil (GE.seq ?_)
 refine GC.condF rfl (by decide) (GC.skip (GE.seq ?_))
 refine GC.seq (GC.seq ?_)
 intro a w ha hs
 refine (wpIn_wide (n:=m + 1)).1 (wpIn_region_L ?_)
 refine (show GLI Fence.wide (m + 1) Tryz.prog W0 42 [] _ _ _ _ _ from ?_) a w ha hs
 have hF:∀ f,Fence.wide.fn f:=fun _=>trivial
 refine GLI.val hF (fun c hc=>by cases hc) (EX.ldN rfl q_many201 rfl) rfl rfl rfl ?_
 refine GLI.val hF (fun c hc=>by cases hc) (EX.ldN rfl q_many201 rfl) rfl rfl rfl ?_
 refine GLI.val hF (fun c hc=>by cases hc) (EX.ne201 rfl rfl hne) rfl rfl rfl ?_
 refine GLI.val hF (fun c hc=>by cases hc) (EX.move rfl) rfl rfl rfl ?_
 refine GLI.on hF (fun c hc=>by cases hc) (EX.move rfl) rfl rfl (.guard rfl rfl rfl rfl rfl) ?_
 refine GLI.on hF (fun c hc=>by cases hc) (EX.move rfl) rfl rfl (.guard rfl rfl rfl rfl rfl) ?_
 refine GLI.on hF (fun c hc=>by cases hc) (EX.ldN rfl q_many201 rfl) rfl rfl (.guard rfl rfl rfl rfl rfl) ?_
 refine GLI.yieldG (vs:=[.int .i64 key,chv k2 e2]) (l:=l) hF rfl rfl rfl rfl (.guard rfl rfl rfl rfl rfl) (fun w h=>hY x y w b8 hx hy h) (fun z hz=>?_)
 refine GLI.on hF (fun c hc=>by cases hc) (EX.not rfl) rfl rfl (.guard rfl rfl rfl rfl rfl) ?_
 refine GLI.val hF (fun c hc=>by cases hc) (EX.pickF rfl rfl rfl) rfl rfl rfl ?_
 refine GLI.nil ?_
 intro a w ha hs
 refine (show GC Tryz.prog W0 42 [] _ _ _ _ from ?_) a w ha hs
 refine GC.condF rfl rfl (GC.skip (GE.seq ?_))
 refine GC.region ?_
 refine GL.v_ (EX.ldN rfl q_many201 rfl) rfl rfl rfl ?_
 refine GL.u_ (EU.st rfl rfl q_sz201 rfl rfl rfl) rfl rfl ?_
 refine GL.nil (GE.block (GE.seq ?_))
 refine GC.region ?_
 refine GL.v_ (EX.add rfl rfl rfl) rfl rfl rfl ?_
 refine GL.v_ (EX.move rfl) rfl rfl rfl ?_
 refine GL.nil (GE.again ?_)
 refine GC.seq (GC.region ?_)
 refine GL.v_ (EX.lss rfl rfl) rfl rfl rfl ?_
 refine GL.nil (GE.seq ?_)
 refine GC.seq (GC.condF rfl (by decide) (GC.exit ?_))
 refine GE.then_exit (GE.then_exit (GE.block_hit (GE.seq ?_)))
 refine GC.seq (GC.region ?_)
 refine GL.v_ (EX.assign rfl) rfl rfl rfl ?_
 refine GL.nil (GE.seq ?_)
 exact GC.ret (GE.out rfl rfl (fun w h=>⟨x,y,z,hx,hy,hz,rfl,h.tail.p1.tail.p1.tail.p1.tail⟩))
theorem q_sz27:SZ Tryz.prog 27 1:=by unfold SZ; kernel_rfl
theorem f252_fn (k ep:Nat) (many:Int) (st:Value) (hst:vc st=[st]):FnX Tryz.prog 252 [chv k ep,st,.int .i64 many] [] (fun x:Nat × Nat × Nat=>.func (.func 268) #[] #[pp x.1,pp x.2.1,pp x.2.2]) (fun x=>[Bk x.1 3 [.int .i64 many],Bk x.2.1 201 [.int .i64 k,.int .i64 ep],Bk x.2.2 22 [st]]) (fun _=>True):=by
 refine Fn.go Tryz.func252 rfl Tryz.ntmps252 rfl (fun W0 R=>?_)
 refine GC.app .a0 ?_
 refine GC.seq (GC.region ?_)
 refine GL.eff (EF.boxA rfl) rfl rfl (.free rfl) (fun b3 _=>?_)
 refine GL.eff (EF.box rfl) rfl rfl (.free rfl) (fun b4 _=>?_)
 refine GL.eff (EF.box rfl) rfl rfl (.free rfl) (fun b5 _=>?_)
 refine GL.v_ (EX.assign rfl) rfl rfl rfl ?_
 refine GL.nil (GE.seq ?_)
 refine GC.seq (GC.region ?_)
 refine GL.v_ (EX.makeFunc (us:=[]) (vs:=[pp b5,pp b3,pp b4]) rfl rfl) rfl rfl rfl ?_
 refine GL.v_ (EX.assign rfl) rfl rfl rfl ?_
 refine GL.nil (GE.seq ?_)
 refine GC.ret (GE.out rfl rfl (fun w h=>?_))
 rw [hst] at h
 exact ⟨(b5,b3,b4),trivial,rfl,h.perm (List.Perm.cons _ (List.Perm.swap _ _ _))⟩
theorem f251_run {σ α β:Type} {C:σ→Prop} {X':σ→List Thing} {C1:α→Prop} {T0:Thing} {T1:α→Thing} {C2:α→β→Prop} {T2:α→β→Thing} {l m b3 b4 b5 b10 k ep key k2 e2 epoch:Nat} {st:Value} (hst:vc st=[st])
  (hS:∀ w R,Sts W0 w (T0::R)→Calls Tryz.prog 80 [chv k ep,st].toArray w fun e w'=>∃ x,C1 x∧e=.returned (.tuple #[.int .i64 key,.int .i64 0])∧Sts W0 w' (T1 x::R))
  (hN:∀ x,C1 x→∀ w R,Sts W0 w (T1 x::R)→Calls Tryz.prog 129 [chv k ep,st].toArray w fun e w'=>∃ y,C2 x y∧e=.returned (.tuple #[chv k2 e2,.int .i64 0])∧Sts W0 w' (T2 x y::R))
  (e80:Enters Tryz.prog 80) (e129:Enters Tryz.prog 129) (e252:Enters Tryz.prog 252) (e268:Enters Tryz.prog 268) (hne:(Nat.beq k k2 && Nat.beq ep e2)=false) (hm:IntKind.i64.wrap ((epoch:Int) - (ep:Int))=1)
  (hY:∀ x y w b8 bm bc bs,C1 x→C2 x y→Sts W0 w (bc2 b8 k2 e2::T2 x y::Bk bm 3 [.int .i64 1]::bc2 bc k ep::Bk bs 22 [st]::bc2 b3 k ep::Bk b4 22 [st]::Bk b5 3 [.int .i64 epoch]::Bk b10 27 [.int .i64 0]::X)→YieldAt Fence.wide m Tryz.prog l [.int .i64 key,chv k2 e2].toArray w fun e w'=>∃ z,C z∧e=.returned (.bool true)∧Sts W0 w' (bc2 b8 k2 e2::T2 x y::Bk bm 3 [.int .i64 1]::bc2 bc k ep::Bk bs 22 [st]::bc2 b3 k ep::Bk b4 22 [st]::Bk b5 3 [.int .i64 epoch]::Bk b10 27 [.int .i64 0]::X' z))
  (hs:Sts W0 w (T0::bc2 b3 k ep::Bk b4 22 [st]::Bk b5 3 [.int .i64 epoch]::Bk b10 27 [.int .i64 0]::X)) :
  Calls Tryz.prog 251 [.func (.yield l) #[] #[],pp b3,pp b4,pp b5,pp b10].toArray w fun e w'=>∃ q:α × β × σ,(C1 q.1∧C2 q.1 q.2.1∧C q.2.2)∧e=.returned (.tuple #[])∧Sts W0 w' (T2 q.1 q.2.1::Bk b10 27 [.int .i64 0]::X' q.2.2):=by
 unfold bc2 at *
 refine calls_of_wp Tryz.func251 rfl ?_
 refine (show GC Tryz.prog W0 Tryz.f251.ntmps [] _ (bodyPost Tryz.prog Tryz.f251 _) (argKn 0 [.func (.yield l) #[] #[],pp b3,pp b4,pp b5,pp b10]) _ from ?_) _ _ (has_enter [_,_,_,_,_] (Nat.le_of_ble_eq_true rfl)) hs
 rw [show Tryz.f251.ntmps=15 from Tryz.ntmps251]
 refine GC.region ?_
 refine GL.v_ (EX.ldN rfl q_many201 rfl) rfl rfl rfl ?_
 refine GL.v_ (EX.ld rfl rfl (One.of Tryz.underlying22 rfl)) rfl rfl rfl ?_
 refine GL.v_ (EX.ld rfl rfl (One.of Tryz.underlying3 rfl)) rfl rfl rfl ?_
 refine GL.v_ (EX.fieldAddr rfl q_fa201_1) rfl rfl rfl ?_
 refine GL.v_ (EX.ld rfl rfl (One.of Tryz.underlying3 rfl)) rfl rfl rfl ?_
 refine GL.v_ (EX.sub rfl rfl hm) rfl rfl rfl ?_
 refine GL.callX (EC.direct e252 rfl) (f252_fn k ep 1 st hst) (.nil) rfl rfl (.free rfl) (fun x _=>?_)
 obtain ⟨bm,bc,bs⟩:=x
 refine GL.v_ (EX.move rfl) rfl rfl rfl ?_
 refine GL.turn (L':=T0::Bk bm 3 [.int .i64 1]::Bk bc 201 [.int .i64 k,.int .i64 ep]::Bk bs 22 [st]::Bk b3 201 [.int .i64 k,.int .i64 ep]::Bk b4 22 [st]::Bk b5 3 [.int .i64 epoch]::Bk b10 27 [.int .i64 0]::X) (fun w h=>h.p3) ?_
 refine GL.callL (EC.closure rfl e268 rfl) (C:=fun q:α × β × σ=>C1 q.1∧C2 q.1 q.2.1∧C q.2.2) (T:=fun q=>T2 q.1 q.2.1::Bk b3 201 [.int .i64 k,.int .i64 ep]::Bk b4 22 [st]::Bk b5 3 [.int .i64 epoch]::Bk b10 27 [.int .i64 0]::X' q.2.2) (v:=fun _=>.int .i64 0)
  (fun w h=>(f268_run (C:=C) (X:=Bk b3 201 [.int .i64 k,.int .i64 ep]::Bk b4 22 [st]::Bk b5 3 [.int .i64 epoch]::Bk b10 27 [.int .i64 0]::X) (X':=fun z=>Bk b3 201 [.int .i64 k,.int .i64 ep]::Bk b4 22 [st]::Bk b5 3 [.int .i64 epoch]::Bk b10 27 [.int .i64 0]::X' z) (m:=m) hS hN e80 e129 hne (fun x y w b8 hx hy h=>hY x y w b8 bm bc bs hx hy h) h).mono (by
   rintro e w' ⟨x,y,z,hx,hy,hz,rfl,h2⟩
   exact ⟨(x,y,z),⟨hx,hy,hz⟩,rfl,h2⟩)) rfl rfl (.free rfl) (fun q hq=>?_)
 refine GL.u_ (EU.st rfl rfl q_sz27 rfl rfl rfl) rfl rfl ?_
 refine GL.nil ?_
 exact (GE.out0n rfl (fun w h=>⟨q,hq,rfl,h.p1.tail.p1.tail.p1.tail⟩))
end
end
noncomputable section
open Go.RowKit
set_option maxRecDepth 100000
section
variable {P:Program} {W0 W w:World} {L L' R X:List Thing} {kn:Kn} {N:Nat} {ds:List Deferred} {Q:Exit→Act→World→Prop} {ops:Array Oper} {r:List Oper} {F:Fence} {n:Nat}
theorem ap40r:APt Tryz.prog 40 3 1 8 (.int .i64 0):=⟨Tryz.underlying40,by kernel_rfl,rfl,by decide⟩
theorem q_sz40':SZ Tryz.prog 40 1:=by unfold SZ; kernel_rfl
noncomputable def r12:Array Oper:=match Tryz.f215.body with
 | some (.seq _ (.seq _ (.seq _ (.seq _ (.seq _ (.seq _ (.seq (.seq _ (.block _ (.rangeFunc _ _ _ (.block _ (.region _ o _))))) _)))))))=>o
 | _=>#[]
def GDI (F:Fence) (n:Nat) (P:Program) (W0:World) (N:Nat) (ds:List Deferred) (ops:Array Oper) (Q:Exit→Act→World→Prop) (fuel:Nat) (listed:Array Bool) (kn:Kn) (L:List Thing):Prop :=
 ∀ a w,Has N ds kn a→Sts W0 w L→wpAnyIn F n P .any ops Q fuel listed a w
section
variable {fuel i d:Nat} {listed:Array Bool} {o:Oper} {v:Value}
def OPI (F:Fence) (n:Nat) (P:Program) (W0:World) (N:Nat) (ds:List Deferred) (ops:Array Oper) (Q:Exit→Act→World→Prop) (fuel:Nat) (listed:Array Bool) (i:Nat) (kn:Kn) (L:List Thing):Prop :=
 ∀ a w,Has N ds kn a→Sts W0 w L→wpOpIn F n P ops Q i (wpAnyIn F n P .any ops Q fuel listed) a w
theorem GDI.step {is:List Nat} (hr:Region.ready .any ops listed=is) (hne:is.isEmpty=false) (h:∀ i∈is,OPI F n P W0 N ds ops Q fuel (listed.setIfInBounds i true) i kn L):GDI F n P W0 N ds ops Q (fuel + 1) listed kn L:=by
 intro a w ha hs
 refine ⟨fun e=>(by rw [hr] at e; subst e; cases hne),fun i hi=>?_⟩
 rw [hr] at hi
 exact h i hi a w ha hs
theorem GDI.done (hr:Region.ready .any ops listed=[]) (h:∀ a w,Has N ds kn a→Sts W0 w L→Q .normal a w):GDI F n P W0 N ds ops Q 0 listed kn L:=fun a w ha hs=>⟨hr,h a w ha hs⟩
theorem GDI.less {kn':Kn} (h:GDI F n P W0 N ds ops Q fuel listed kn' L') (hk:∀ p∈kn',Proofs.YtadggjnohohedaaGreatDoor.lk kn p.1=some p.2) (hL:∀ w,Sts W0 w L→Sts W0 w L'):GDI F n P W0 N ds ops Q fuel listed kn L:=fun a w ha hs=>h a w (ha.sub hk) (hL w hs)
theorem OPI.val (hi:ops[i]?=some o) (hF:∀ f,F.fn f) (hnd:∀ c,o.op≠.defer c) (hx:EX P W0 kn L o v) (hd:o.dst=some d) (hN:Nat.blt d N=true) (hg:o.guard=none) (h:GDI F n P W0 N ds ops Q fuel listed ((d,v)::kn) L):OPI F n P W0 N ds ops Q fuel listed i kn L:=by
 intro a w ha hs
 unfold wpOpIn
 simp only [hi]
 rw [if_pos (wanted_none hg _)]
 refine ⟨fun f _=>hF f,?_⟩
 rw [Oper.semAt_eq _ _ _ hnd,hx a.eval w ha.ev hs]
 show wpAnyIn F n P .any ops Q fuel listed (a.put o.dst v) w
 rw [hd]; exact h _ _ (ha.put d v hN) hs
theorem OPI.eff {α:Type} {u:α→Value} {T:α→List Thing} {C:α→Prop} (hi:ops[i]?=some o) (hF:∀ f,F.fn f) (hnd:∀ c,o.op≠.defer c) (hx:EF P W0 kn L o u T C) (hd:o.dst=some d) (hN:Nat.blt d N=true) (hg:o.guard=none)
  (h:∀ x,C x→GDI F n P W0 N ds ops Q fuel listed ((d,u x)::kn) (T x)):OPI F n P W0 N ds ops Q fuel listed i kn L:=by
 intro a w ha hs
 unfold wpOpIn
 simp only [hi]
 rw [if_pos (wanted_none hg _)]
 refine ⟨fun f _=>hF f,?_⟩
 obtain ⟨x,w',h1,h2,h3⟩:=hx a.eval w ha.ev hs
 rw [Oper.semAt_eq _ _ _ hnd,h2]
 show wpAnyIn F n P .any ops Q fuel listed (a.put o.dst (u x)) w'
 rw [hd]; exact h x h1 _ _ (ha.put d _ hN) h3
theorem OPI.do {T:List Thing} (hi:ops[i]?=some o) (hF:∀ f,F.fn f) (hnd:∀ c,o.op≠.defer c) (hx:EU P W0 kn L o T) (hd:o.dst=none) (hg:o.guard=none) (h:GDI F n P W0 N ds ops Q fuel listed kn T):OPI F n P W0 N ds ops Q fuel listed i kn L:=by
 intro a w ha hs
 unfold wpOpIn
 simp only [hi]
 rw [if_pos (wanted_none hg _)]
 refine ⟨fun f _=>hF f,?_⟩
 obtain ⟨w',h2,h3⟩:=hx a.eval w ha.ev hs
 rw [Oper.semAt_eq _ _ _ hnd,h2]
 show wpAnyIn F n P .any ops Q fuel listed (a.put o.dst undef) w'
 rw [hd]; exact h _ _ (ha.put0 _) h3
theorem OPI.turn (hL:∀ w,Sts W0 w L→Sts W0 w L') (h:OPI F n P W0 N ds ops Q fuel listed i kn L'):OPI F n P W0 N ds ops Q fuel listed i kn L:=fun a w ha hs=>h a w ha (hL w hs)
theorem rdy1 {p:Nat→Prop} {a:Nat} (h:p a):∀ i∈[a],p i:=by simpa using h
theorem rdy2 {p:Nat→Prop} {a b:Nat} (h:p a) (h2:p b):∀ i∈[a,b],p i:=by simpa using ⟨h,h2⟩
theorem rdy3 {p:Nat→Prop} {a b c:Nat} (h:p a) (h2:p b) (h3:p c):∀ i∈[a,b,c],p i:=by simpa using ⟨h,h2,h3⟩
end
section
variable {Z:List Thing} {b9 b11 b14 k ep key k2 e2:Nat}
def Q12 (W0:World) (b9 b11 b14 k2 e2 key:Nat) (Z:List Thing) (e:Exit) (a:Act) (w:World):Prop:=e=.normal∧∃ av cv,Sts W0 w (Rw 3 1 (.slice av 1 cv) 1 [.int .i64 key]::Bk b9 40 [.slice av 1 cv]::Bk b11 201 [.int .i64 k2,.int .i64 e2]::Bk b14 201 [.int .i64 k2,.int .i64 e2]::Z)
theorem y12_0123456 (hF:∀ f,F.fn f) (b2:Nat) (av:Option Addr) (cv:Nat):GDI F n Tryz.prog W0 46 ds r12 (Q12 W0 b9 b11 b14 k2 e2 key Z) 0 #[true,true,true,true,true,true,true] [(35,.slice none 0 0),(36,.int .i64 key),(37,slc b2 1),(38,.slice av 1 cv),(39,chv k2 e2),(9,pp b9),(11,pp b11),(13,.int .i64 key),(14,pp b14)] (Rw 3 1 (.slice av 1 cv) 1 [.int .i64 key]::Bk b9 40 [.slice av 1 cv]::Bk b11 201 [.int .i64 k2,.int .i64 e2]::Bk b14 201 [.int .i64 k2,.int .i64 e2]::Z):=by
 exact GDI.done (by kernel_rfl) (fun a w ha hs=>⟨rfl,av,cv,hs⟩)
theorem y12_012345 (hF:∀ f,F.fn f) (b2:Nat) (av:Option Addr) (cv:Nat):GDI F n Tryz.prog W0 46 ds r12 (Q12 W0 b9 b11 b14 k2 e2 key Z) 1 #[true,true,true,true,true,true,false] [(35,.slice none 0 0),(36,.int .i64 key),(37,slc b2 1),(38,.slice av 1 cv),(39,chv k2 e2),(9,pp b9),(11,pp b11),(13,.int .i64 key),(14,pp b14)] (Rw 3 1 (.slice av 1 cv) 1 [.int .i64 key]::Bk b9 40 [.slice av 1 cv]::Bk b11 201 [.int .i64 k,.int .i64 ep]::Bk b14 201 [.int .i64 k2,.int .i64 e2]::Z):=by
 refine GDI.step (is:=[6]) (by kernel_rfl) rfl (rdy1 ?_)
 ·exact OPI.do rfl hF (fun c hc=>by cases hc) (EU.st rfl rfl q_sz201 rfl rfl rfl) rfl rfl (GDI.less (y12_0123456 hF b2 av cv) (by intro p hp; simp only [List.mem_cons,List.not_mem_nil,or_false] at hp; rcases hp with rfl | rfl | rfl | rfl | rfl | rfl | rfl | rfl | rfl <;> rfl) (fun w h=>h))
theorem y12_01234 (hF:∀ f,F.fn f) (b2:Nat) (av:Option Addr) (cv:Nat):GDI F n Tryz.prog W0 46 ds r12 (Q12 W0 b9 b11 b14 k2 e2 key Z) 2 #[true,true,true,true,true,false,false] [(35,.slice none 0 0),(36,.int .i64 key),(37,slc b2 1),(38,.slice av 1 cv),(39,chv k2 e2),(9,pp b9),(11,pp b11),(13,.int .i64 key),(14,pp b14)] (Rw 3 1 (.slice av 1 cv) 1 [.int .i64 key]::Bk b9 40 [.slice none 0 0]::Bk b11 201 [.int .i64 k,.int .i64 ep]::Bk b14 201 [.int .i64 k2,.int .i64 e2]::Z):=by
 refine GDI.step (is:=[5]) (by kernel_rfl) rfl (rdy1 ?_)
 ·exact OPI.do rfl hF (fun c hc=>by cases hc) (EU.st rfl rfl q_sz40' rfl rfl rfl) rfl rfl (GDI.less (y12_012345 hF b2 av cv) (by intro p hp; simp only [List.mem_cons,List.not_mem_nil,or_false] at hp; rcases hp with rfl | rfl | rfl | rfl | rfl | rfl | rfl | rfl | rfl <;> rfl) (fun w h=>h))
theorem y12_01235 (hF:∀ f,F.fn f) (b2:Nat) (av:Option Addr) (cv:Nat):GDI F n Tryz.prog W0 46 ds r12 (Q12 W0 b9 b11 b14 k2 e2 key Z) 2 #[true,true,true,true,false,true,false] [(35,.slice none 0 0),(36,.int .i64 key),(37,slc b2 1),(38,.slice av 1 cv),(9,pp b9),(11,pp b11),(13,.int .i64 key),(14,pp b14)] (Rw 3 1 (.slice av 1 cv) 1 [.int .i64 key]::Bk b9 40 [.slice av 1 cv]::Bk b11 201 [.int .i64 k,.int .i64 ep]::Bk b14 201 [.int .i64 k2,.int .i64 e2]::Z):=by
 refine GDI.step (is:=[4]) (by kernel_rfl) rfl (rdy1 ?_)
 ·exact OPI.val rfl hF (fun c hc=>by cases hc) (EX.ldN rfl q_many201 rfl) rfl rfl rfl (GDI.less (y12_012345 hF b2 av cv) (by intro p hp; simp only [List.mem_cons,List.not_mem_nil,or_false] at hp; rcases hp with rfl | rfl | rfl | rfl | rfl | rfl | rfl | rfl | rfl <;> rfl) (fun w h=>h))
theorem y12_0123 (hF:∀ f,F.fn f) (b2:Nat) (av:Option Addr) (cv:Nat):GDI F n Tryz.prog W0 46 ds r12 (Q12 W0 b9 b11 b14 k2 e2 key Z) 3 #[true,true,true,true,false,false,false] [(35,.slice none 0 0),(36,.int .i64 key),(37,slc b2 1),(38,.slice av 1 cv),(9,pp b9),(11,pp b11),(13,.int .i64 key),(14,pp b14)] (Rw 3 1 (.slice av 1 cv) 1 [.int .i64 key]::Bk b9 40 [.slice none 0 0]::Bk b11 201 [.int .i64 k,.int .i64 ep]::Bk b14 201 [.int .i64 k2,.int .i64 e2]::Z):=by
 refine GDI.step (is:=[4,5]) (by kernel_rfl) rfl (rdy2 ?_ ?_)
 ·exact OPI.val rfl hF (fun c hc=>by cases hc) (EX.ldN rfl q_many201 rfl) rfl rfl rfl (GDI.less (y12_01234 hF b2 av cv) (by intro p hp; simp only [List.mem_cons,List.not_mem_nil,or_false] at hp; rcases hp with rfl | rfl | rfl | rfl | rfl | rfl | rfl | rfl | rfl <;> rfl) (fun w h=>h))
 ·exact OPI.do rfl hF (fun c hc=>by cases hc) (EU.st rfl rfl q_sz40' rfl rfl rfl) rfl rfl (GDI.less (y12_01235 hF b2 av cv) (by intro p hp; simp only [List.mem_cons,List.not_mem_nil,or_false] at hp; rcases hp with rfl | rfl | rfl | rfl | rfl | rfl | rfl | rfl <;> rfl) (fun w h=>h))
theorem y12_0124 (hF:∀ f,F.fn f) (b2:Nat):GDI F n Tryz.prog W0 46 ds r12 (Q12 W0 b9 b11 b14 k2 e2 key Z) 3 #[true,true,true,false,true,false,false] [(35,.slice none 0 0),(36,.int .i64 key),(37,slc b2 1),(39,chv k2 e2),(9,pp b9),(11,pp b11),(13,.int .i64 key),(14,pp b14)] (Bk b2 3 [.int .i64 key]::Bk b9 40 [.slice none 0 0]::Bk b11 201 [.int .i64 k,.int .i64 ep]::Bk b14 201 [.int .i64 k2,.int .i64 e2]::Z):=by
 refine GDI.step (is:=[3]) (by kernel_rfl) rfl (rdy1 ?_)
 ·refine OPI.turn (fun w h=>h.nilRw 3 1) (OPI.eff rfl hF (fun c hc=>by cases hc) (EF.append rfl rfl ap40r (fun v'=>.here) (.there .here) rfl rfl (by decide) (by decide)) rfl rfl rfl (fun v' hv'=>?_))
  obtain ⟨av,cv,rfl⟩:=hv'
  exact (GDI.less (y12_01234 hF b2 av cv) (by intro p hp; simp only [List.mem_cons,List.not_mem_nil,or_false] at hp; rcases hp with rfl | rfl | rfl | rfl | rfl | rfl | rfl | rfl | rfl <;> rfl) (fun w h=>(h.p1).tail))
theorem y12_012 (hF:∀ f,F.fn f) (b2:Nat):GDI F n Tryz.prog W0 46 ds r12 (Q12 W0 b9 b11 b14 k2 e2 key Z) 4 #[true,true,true,false,false,false,false] [(35,.slice none 0 0),(36,.int .i64 key),(37,slc b2 1),(9,pp b9),(11,pp b11),(13,.int .i64 key),(14,pp b14)] (Bk b2 3 [.int .i64 key]::Bk b9 40 [.slice none 0 0]::Bk b11 201 [.int .i64 k,.int .i64 ep]::Bk b14 201 [.int .i64 k2,.int .i64 e2]::Z):=by
 refine GDI.step (is:=[3,4]) (by kernel_rfl) rfl (rdy2 ?_ ?_)
 ·refine OPI.turn (fun w h=>h.nilRw 3 1) (OPI.eff rfl hF (fun c hc=>by cases hc) (EF.append rfl rfl ap40r (fun v'=>.here) (.there .here) rfl rfl (by decide) (by decide)) rfl rfl rfl (fun v' hv'=>?_))
  obtain ⟨av,cv,rfl⟩:=hv'
  exact (GDI.less (y12_0123 hF b2 av cv) (by intro p hp; simp only [List.mem_cons,List.not_mem_nil,or_false] at hp; rcases hp with rfl | rfl | rfl | rfl | rfl | rfl | rfl | rfl <;> rfl) (fun w h=>(h.p1).tail))
 ·exact OPI.val rfl hF (fun c hc=>by cases hc) (EX.ldN rfl q_many201 rfl) rfl rfl rfl (GDI.less (y12_0124 hF b2) (by intro p hp; simp only [List.mem_cons,List.not_mem_nil,or_false] at hp; rcases hp with rfl | rfl | rfl | rfl | rfl | rfl | rfl | rfl <;> rfl) (fun w h=>h))
theorem y12_014 (hF:∀ f,F.fn f):GDI F n Tryz.prog W0 46 ds r12 (Q12 W0 b9 b11 b14 k2 e2 key Z) 4 #[true,true,false,false,true,false,false] [(35,.slice none 0 0),(36,.int .i64 key),(39,chv k2 e2),(9,pp b9),(11,pp b11),(13,.int .i64 key),(14,pp b14)] (Bk b9 40 [.slice none 0 0]::Bk b11 201 [.int .i64 k,.int .i64 ep]::Bk b14 201 [.int .i64 k2,.int .i64 e2]::Z):=by
 refine GDI.step (is:=[2]) (by kernel_rfl) rfl (rdy1 ?_)
 ·exact OPI.eff rfl hF (fun c hc=>by cases hc) (EF.buildSlice rfl q_bs40 (n:=1) rfl rfl rfl) rfl rfl rfl (fun b2 _=>(GDI.less (y12_0124 hF b2) (by intro p hp; simp only [List.mem_cons,List.not_mem_nil,or_false] at hp; rcases hp with rfl | rfl | rfl | rfl | rfl | rfl | rfl | rfl <;> rfl) (fun w h=>h)))
theorem y12_124 (hF:∀ f,F.fn f) (b2:Nat):GDI F n Tryz.prog W0 46 ds r12 (Q12 W0 b9 b11 b14 k2 e2 key Z) 4 #[false,true,true,false,true,false,false] [(36,.int .i64 key),(37,slc b2 1),(39,chv k2 e2),(9,pp b9),(11,pp b11),(13,.int .i64 key),(14,pp b14)] (Bk b2 3 [.int .i64 key]::Bk b9 40 [.slice none 0 0]::Bk b11 201 [.int .i64 k,.int .i64 ep]::Bk b14 201 [.int .i64 k2,.int .i64 e2]::Z):=by
 refine GDI.step (is:=[0]) (by kernel_rfl) rfl (rdy1 ?_)
 ·exact OPI.val rfl hF (fun c hc=>by cases hc) (EX.ld rfl rfl (One.of Tryz.underlying40 rfl)) rfl rfl rfl (GDI.less (y12_0124 hF b2) (by intro p hp; simp only [List.mem_cons,List.not_mem_nil,or_false] at hp; rcases hp with rfl | rfl | rfl | rfl | rfl | rfl | rfl | rfl <;> rfl) (fun w h=>h))
theorem y12_01 (hF:∀ f,F.fn f):GDI F n Tryz.prog W0 46 ds r12 (Q12 W0 b9 b11 b14 k2 e2 key Z) 5 #[true,true,false,false,false,false,false] [(35,.slice none 0 0),(36,.int .i64 key),(9,pp b9),(11,pp b11),(13,.int .i64 key),(14,pp b14)] (Bk b9 40 [.slice none 0 0]::Bk b11 201 [.int .i64 k,.int .i64 ep]::Bk b14 201 [.int .i64 k2,.int .i64 e2]::Z):=by
 refine GDI.step (is:=[2,4]) (by kernel_rfl) rfl (rdy2 ?_ ?_)
 ·exact OPI.eff rfl hF (fun c hc=>by cases hc) (EF.buildSlice rfl q_bs40 (n:=1) rfl rfl rfl) rfl rfl rfl (fun b2 _=>(GDI.less (y12_012 hF b2) (by intro p hp; simp only [List.mem_cons,List.not_mem_nil,or_false] at hp; rcases hp with rfl | rfl | rfl | rfl | rfl | rfl | rfl <;> rfl) (fun w h=>h)))
 ·exact OPI.val rfl hF (fun c hc=>by cases hc) (EX.ldN rfl q_many201 rfl) rfl rfl rfl (GDI.less (y12_014 hF) (by intro p hp; simp only [List.mem_cons,List.not_mem_nil,or_false] at hp; rcases hp with rfl | rfl | rfl | rfl | rfl | rfl | rfl <;> rfl) (fun w h=>h))
theorem y12_04 (hF:∀ f,F.fn f):GDI F n Tryz.prog W0 46 ds r12 (Q12 W0 b9 b11 b14 k2 e2 key Z) 5 #[true,false,false,false,true,false,false] [(35,.slice none 0 0),(39,chv k2 e2),(9,pp b9),(11,pp b11),(13,.int .i64 key),(14,pp b14)] (Bk b9 40 [.slice none 0 0]::Bk b11 201 [.int .i64 k,.int .i64 ep]::Bk b14 201 [.int .i64 k2,.int .i64 e2]::Z):=by
 refine GDI.step (is:=[1]) (by kernel_rfl) rfl (rdy1 ?_)
 ·exact OPI.val rfl hF (fun c hc=>by cases hc) (EX.move rfl) rfl rfl rfl (GDI.less (y12_014 hF) (by intro p hp; simp only [List.mem_cons,List.not_mem_nil,or_false] at hp; rcases hp with rfl | rfl | rfl | rfl | rfl | rfl | rfl <;> rfl) (fun w h=>h))
theorem y12_12 (hF:∀ f,F.fn f) (b2:Nat):GDI F n Tryz.prog W0 46 ds r12 (Q12 W0 b9 b11 b14 k2 e2 key Z) 5 #[false,true,true,false,false,false,false] [(36,.int .i64 key),(37,slc b2 1),(9,pp b9),(11,pp b11),(13,.int .i64 key),(14,pp b14)] (Bk b2 3 [.int .i64 key]::Bk b9 40 [.slice none 0 0]::Bk b11 201 [.int .i64 k,.int .i64 ep]::Bk b14 201 [.int .i64 k2,.int .i64 e2]::Z):=by
 refine GDI.step (is:=[0,4]) (by kernel_rfl) rfl (rdy2 ?_ ?_)
 ·exact OPI.val rfl hF (fun c hc=>by cases hc) (EX.ld rfl rfl (One.of Tryz.underlying40 rfl)) rfl rfl rfl (GDI.less (y12_012 hF b2) (by intro p hp; simp only [List.mem_cons,List.not_mem_nil,or_false] at hp; rcases hp with rfl | rfl | rfl | rfl | rfl | rfl | rfl <;> rfl) (fun w h=>h))
 ·exact OPI.val rfl hF (fun c hc=>by cases hc) (EX.ldN rfl q_many201 rfl) rfl rfl rfl (GDI.less (y12_124 hF b2) (by intro p hp; simp only [List.mem_cons,List.not_mem_nil,or_false] at hp; rcases hp with rfl | rfl | rfl | rfl | rfl | rfl | rfl <;> rfl) (fun w h=>h))
theorem y12_14 (hF:∀ f,F.fn f):GDI F n Tryz.prog W0 46 ds r12 (Q12 W0 b9 b11 b14 k2 e2 key Z) 5 #[false,true,false,false,true,false,false] [(36,.int .i64 key),(39,chv k2 e2),(9,pp b9),(11,pp b11),(13,.int .i64 key),(14,pp b14)] (Bk b9 40 [.slice none 0 0]::Bk b11 201 [.int .i64 k,.int .i64 ep]::Bk b14 201 [.int .i64 k2,.int .i64 e2]::Z):=by
 refine GDI.step (is:=[0,2]) (by kernel_rfl) rfl (rdy2 ?_ ?_)
 ·exact OPI.val rfl hF (fun c hc=>by cases hc) (EX.ld rfl rfl (One.of Tryz.underlying40 rfl)) rfl rfl rfl (GDI.less (y12_014 hF) (by intro p hp; simp only [List.mem_cons,List.not_mem_nil,or_false] at hp; rcases hp with rfl | rfl | rfl | rfl | rfl | rfl | rfl <;> rfl) (fun w h=>h))
 ·exact OPI.eff rfl hF (fun c hc=>by cases hc) (EF.buildSlice rfl q_bs40 (n:=1) rfl rfl rfl) rfl rfl rfl (fun b2 _=>(GDI.less (y12_124 hF b2) (by intro p hp; simp only [List.mem_cons,List.not_mem_nil,or_false] at hp; rcases hp with rfl | rfl | rfl | rfl | rfl | rfl | rfl <;> rfl) (fun w h=>h)))
theorem y12_0 (hF:∀ f,F.fn f):GDI F n Tryz.prog W0 46 ds r12 (Q12 W0 b9 b11 b14 k2 e2 key Z) 6 #[true,false,false,false,false,false,false] [(35,.slice none 0 0),(9,pp b9),(11,pp b11),(13,.int .i64 key),(14,pp b14)] (Bk b9 40 [.slice none 0 0]::Bk b11 201 [.int .i64 k,.int .i64 ep]::Bk b14 201 [.int .i64 k2,.int .i64 e2]::Z):=by
 refine GDI.step (is:=[1,4]) (by kernel_rfl) rfl (rdy2 ?_ ?_)
 ·exact OPI.val rfl hF (fun c hc=>by cases hc) (EX.move rfl) rfl rfl rfl (GDI.less (y12_01 hF) (by intro p hp; simp only [List.mem_cons,List.not_mem_nil,or_false] at hp; rcases hp with rfl | rfl | rfl | rfl | rfl | rfl <;> rfl) (fun w h=>h))
 ·exact OPI.val rfl hF (fun c hc=>by cases hc) (EX.ldN rfl q_many201 rfl) rfl rfl rfl (GDI.less (y12_04 hF) (by intro p hp; simp only [List.mem_cons,List.not_mem_nil,or_false] at hp; rcases hp with rfl | rfl | rfl | rfl | rfl | rfl <;> rfl) (fun w h=>h))
theorem y12_1 (hF:∀ f,F.fn f):GDI F n Tryz.prog W0 46 ds r12 (Q12 W0 b9 b11 b14 k2 e2 key Z) 6 #[false,true,false,false,false,false,false] [(36,.int .i64 key),(9,pp b9),(11,pp b11),(13,.int .i64 key),(14,pp b14)] (Bk b9 40 [.slice none 0 0]::Bk b11 201 [.int .i64 k,.int .i64 ep]::Bk b14 201 [.int .i64 k2,.int .i64 e2]::Z):=by
 refine GDI.step (is:=[0,2,4]) (by kernel_rfl) rfl (rdy3 ?_ ?_ ?_)
 ·exact OPI.val rfl hF (fun c hc=>by cases hc) (EX.ld rfl rfl (One.of Tryz.underlying40 rfl)) rfl rfl rfl (GDI.less (y12_01 hF) (by intro p hp; simp only [List.mem_cons,List.not_mem_nil,or_false] at hp; rcases hp with rfl | rfl | rfl | rfl | rfl | rfl <;> rfl) (fun w h=>h))
 ·exact OPI.eff rfl hF (fun c hc=>by cases hc) (EF.buildSlice rfl q_bs40 (n:=1) rfl rfl rfl) rfl rfl rfl (fun b2 _=>(GDI.less (y12_12 hF b2) (by intro p hp; simp only [List.mem_cons,List.not_mem_nil,or_false] at hp; rcases hp with rfl | rfl | rfl | rfl | rfl | rfl <;> rfl) (fun w h=>h)))
 ·exact OPI.val rfl hF (fun c hc=>by cases hc) (EX.ldN rfl q_many201 rfl) rfl rfl rfl (GDI.less (y12_14 hF) (by intro p hp; simp only [List.mem_cons,List.not_mem_nil,or_false] at hp; rcases hp with rfl | rfl | rfl | rfl | rfl | rfl <;> rfl) (fun w h=>h))
theorem y12_4 (hF:∀ f,F.fn f):GDI F n Tryz.prog W0 46 ds r12 (Q12 W0 b9 b11 b14 k2 e2 key Z) 6 #[false,false,false,false,true,false,false] [(39,chv k2 e2),(9,pp b9),(11,pp b11),(13,.int .i64 key),(14,pp b14)] (Bk b9 40 [.slice none 0 0]::Bk b11 201 [.int .i64 k,.int .i64 ep]::Bk b14 201 [.int .i64 k2,.int .i64 e2]::Z):=by
 refine GDI.step (is:=[0,1]) (by kernel_rfl) rfl (rdy2 ?_ ?_)
 ·exact OPI.val rfl hF (fun c hc=>by cases hc) (EX.ld rfl rfl (One.of Tryz.underlying40 rfl)) rfl rfl rfl (GDI.less (y12_04 hF) (by intro p hp; simp only [List.mem_cons,List.not_mem_nil,or_false] at hp; rcases hp with rfl | rfl | rfl | rfl | rfl | rfl <;> rfl) (fun w h=>h))
 ·exact OPI.val rfl hF (fun c hc=>by cases hc) (EX.move rfl) rfl rfl rfl (GDI.less (y12_14 hF) (by intro p hp; simp only [List.mem_cons,List.not_mem_nil,or_false] at hp; rcases hp with rfl | rfl | rfl | rfl | rfl | rfl <;> rfl) (fun w h=>h))
theorem y12_ (hF:∀ f,F.fn f):GDI F n Tryz.prog W0 46 ds r12 (Q12 W0 b9 b11 b14 k2 e2 key Z) 7 #[false,false,false,false,false,false,false] [(9,pp b9),(11,pp b11),(13,.int .i64 key),(14,pp b14)] (Bk b9 40 [.slice none 0 0]::Bk b11 201 [.int .i64 k,.int .i64 ep]::Bk b14 201 [.int .i64 k2,.int .i64 e2]::Z):=by
 refine GDI.step (is:=[0,1,4]) (by kernel_rfl) rfl (rdy3 ?_ ?_ ?_)
 ·exact OPI.val rfl hF (fun c hc=>by cases hc) (EX.ld rfl rfl (One.of Tryz.underlying40 rfl)) rfl rfl rfl (GDI.less (y12_0 hF) (by intro p hp; simp only [List.mem_cons,List.not_mem_nil,or_false] at hp; rcases hp with rfl | rfl | rfl | rfl | rfl <;> rfl) (fun w h=>h))
 ·exact OPI.val rfl hF (fun c hc=>by cases hc) (EX.move rfl) rfl rfl rfl (GDI.less (y12_1 hF) (by intro p hp; simp only [List.mem_cons,List.not_mem_nil,or_false] at hp; rcases hp with rfl | rfl | rfl | rfl | rfl <;> rfl) (fun w h=>h))
 ·exact OPI.val rfl hF (fun c hc=>by cases hc) (EX.ldN rfl q_many201 rfl) rfl rfl rfl (GDI.less (y12_4 hF) (by intro p hp; simp only [List.mem_cons,List.not_mem_nil,or_false] at hp; rcases hp with rfl | rfl | rfl | rfl | rfl <;> rfl) (fun w h=>h))
end
noncomputable def r15:Array Oper:=match Tryz.f215.body with
 | some (.seq _ (.seq _ (.seq _ (.seq _ (.seq _ (.seq _ (.seq _ (.seq _ (.seq (.region _ o _) _)))))))))=>o
 | _=>#[]
section
variable {Z:List Thing} {b6 b9 b11 k2 e2 cv:Nat} {av:Option Addr}
theorem y15_01234 (hF:∀ f,F.fn f) (hQ:∀ a w,Has 46 ds [(44,chv k2 e2),(45,.slice av 1 cv),(7,.slice av 1 cv),(8,.int .i64 0),(6,pp b6),(9,pp b9),(11,pp b11)] a→Sts W0 w (Bk b6 201 [.int .i64 k2,.int .i64 e2]::Bk b9 40 [.slice av 1 cv]::Bk b11 201 [.int .i64 k2,.int .i64 e2]::Z)→Q .normal a w):GDI F n Tryz.prog W0 46 ds r15 Q 0 #[true,true,true,true,true] [(44,chv k2 e2),(45,.slice av 1 cv),(7,.slice av 1 cv),(8,.int .i64 0),(6,pp b6),(9,pp b9),(11,pp b11)] (Bk b6 201 [.int .i64 k2,.int .i64 e2]::Bk b9 40 [.slice av 1 cv]::Bk b11 201 [.int .i64 k2,.int .i64 e2]::Z):=by
 exact GDI.done (by kernel_rfl) (fun a w ha hs=>hQ a w ha hs)
theorem y15_0123 (hF:∀ f,F.fn f) (hQ:∀ a w,Has 46 ds [(44,chv k2 e2),(45,.slice av 1 cv),(7,.slice av 1 cv),(8,.int .i64 0),(6,pp b6),(9,pp b9),(11,pp b11)] a→Sts W0 w (Bk b6 201 [.int .i64 k2,.int .i64 e2]::Bk b9 40 [.slice av 1 cv]::Bk b11 201 [.int .i64 k2,.int .i64 e2]::Z)→Q .normal a w):GDI F n Tryz.prog W0 46 ds r15 Q 1 #[true,true,true,true,false] [(44,chv k2 e2),(45,.slice av 1 cv),(7,.slice av 1 cv),(6,pp b6),(9,pp b9),(11,pp b11)] (Bk b6 201 [.int .i64 k2,.int .i64 e2]::Bk b9 40 [.slice av 1 cv]::Bk b11 201 [.int .i64 k2,.int .i64 e2]::Z):=by
 refine GDI.step (is:=[4]) (by kernel_rfl) rfl (rdy1 ?_)
 ·exact OPI.val rfl hF (fun c hc=>by cases hc) (EX.assign rfl) rfl rfl rfl (GDI.less (y15_01234 hF hQ) (by intro p hp; simp only [List.mem_cons,List.not_mem_nil,or_false] at hp; rcases hp with rfl | rfl | rfl | rfl | rfl | rfl | rfl <;> rfl) (fun w h=>h))
theorem y15_012 (hF:∀ f,F.fn f) (hQ:∀ a w,Has 46 ds [(44,chv k2 e2),(45,.slice av 1 cv),(7,.slice av 1 cv),(8,.int .i64 0),(6,pp b6),(9,pp b9),(11,pp b11)] a→Sts W0 w (Bk b6 201 [.int .i64 k2,.int .i64 e2]::Bk b9 40 [.slice av 1 cv]::Bk b11 201 [.int .i64 k2,.int .i64 e2]::Z)→Q .normal a w):GDI F n Tryz.prog W0 46 ds r15 Q 2 #[true,true,true,false,false] [(44,chv k2 e2),(45,.slice av 1 cv),(6,pp b6),(9,pp b9),(11,pp b11)] (Bk b6 201 [.int .i64 k2,.int .i64 e2]::Bk b9 40 [.slice av 1 cv]::Bk b11 201 [.int .i64 k2,.int .i64 e2]::Z):=by
 refine GDI.step (is:=[3]) (by kernel_rfl) rfl (rdy1 ?_)
 ·exact OPI.val rfl hF (fun c hc=>by cases hc) (EX.assign rfl) rfl rfl rfl (GDI.less (y15_0123 hF hQ) (by intro p hp; simp only [List.mem_cons,List.not_mem_nil,or_false] at hp; rcases hp with rfl | rfl | rfl | rfl | rfl | rfl <;> rfl) (fun w h=>h))
theorem y15_01 (hF:∀ f,F.fn f) (hQ:∀ a w,Has 46 ds [(44,chv k2 e2),(45,.slice av 1 cv),(7,.slice av 1 cv),(8,.int .i64 0),(6,pp b6),(9,pp b9),(11,pp b11)] a→Sts W0 w (Bk b6 201 [.int .i64 k2,.int .i64 e2]::Bk b9 40 [.slice av 1 cv]::Bk b11 201 [.int .i64 k2,.int .i64 e2]::Z)→Q .normal a w):GDI F n Tryz.prog W0 46 ds r15 Q 3 #[true,true,false,false,false] [(44,chv k2 e2),(45,.slice av 1 cv),(6,pp b6),(9,pp b9),(11,pp b11)] (Bk b6 201 [.int .i64 0,.int .i64 0]::Bk b9 40 [.slice av 1 cv]::Bk b11 201 [.int .i64 k2,.int .i64 e2]::Z):=by
 refine GDI.step (is:=[2]) (by kernel_rfl) rfl (rdy1 ?_)
 ·exact OPI.do rfl hF (fun c hc=>by cases hc) (EU.st rfl rfl q_sz201 rfl rfl rfl) rfl rfl (GDI.less (y15_012 hF hQ) (by intro p hp; simp only [List.mem_cons,List.not_mem_nil,or_false] at hp; rcases hp with rfl | rfl | rfl | rfl | rfl <;> rfl) (fun w h=>h))
theorem y15_02 (hF:∀ f,F.fn f) (hQ:∀ a w,Has 46 ds [(44,chv k2 e2),(45,.slice av 1 cv),(7,.slice av 1 cv),(8,.int .i64 0),(6,pp b6),(9,pp b9),(11,pp b11)] a→Sts W0 w (Bk b6 201 [.int .i64 k2,.int .i64 e2]::Bk b9 40 [.slice av 1 cv]::Bk b11 201 [.int .i64 k2,.int .i64 e2]::Z)→Q .normal a w):GDI F n Tryz.prog W0 46 ds r15 Q 3 #[true,false,true,false,false] [(44,chv k2 e2),(6,pp b6),(9,pp b9),(11,pp b11)] (Bk b6 201 [.int .i64 k2,.int .i64 e2]::Bk b9 40 [.slice av 1 cv]::Bk b11 201 [.int .i64 k2,.int .i64 e2]::Z):=by
 refine GDI.step (is:=[1]) (by kernel_rfl) rfl (rdy1 ?_)
 ·exact OPI.val rfl hF (fun c hc=>by cases hc) (EX.ld rfl rfl (One.of Tryz.underlying40 rfl)) rfl rfl rfl (GDI.less (y15_012 hF hQ) (by intro p hp; simp only [List.mem_cons,List.not_mem_nil,or_false] at hp; rcases hp with rfl | rfl | rfl | rfl | rfl <;> rfl) (fun w h=>h))
theorem y15_0 (hF:∀ f,F.fn f) (hQ:∀ a w,Has 46 ds [(44,chv k2 e2),(45,.slice av 1 cv),(7,.slice av 1 cv),(8,.int .i64 0),(6,pp b6),(9,pp b9),(11,pp b11)] a→Sts W0 w (Bk b6 201 [.int .i64 k2,.int .i64 e2]::Bk b9 40 [.slice av 1 cv]::Bk b11 201 [.int .i64 k2,.int .i64 e2]::Z)→Q .normal a w):GDI F n Tryz.prog W0 46 ds r15 Q 4 #[true,false,false,false,false] [(44,chv k2 e2),(6,pp b6),(9,pp b9),(11,pp b11)] (Bk b6 201 [.int .i64 0,.int .i64 0]::Bk b9 40 [.slice av 1 cv]::Bk b11 201 [.int .i64 k2,.int .i64 e2]::Z):=by
 refine GDI.step (is:=[1,2]) (by kernel_rfl) rfl (rdy2 ?_ ?_)
 ·exact OPI.val rfl hF (fun c hc=>by cases hc) (EX.ld rfl rfl (One.of Tryz.underlying40 rfl)) rfl rfl rfl (GDI.less (y15_01 hF hQ) (by intro p hp; simp only [List.mem_cons,List.not_mem_nil,or_false] at hp; rcases hp with rfl | rfl | rfl | rfl | rfl <;> rfl) (fun w h=>h))
 ·exact OPI.do rfl hF (fun c hc=>by cases hc) (EU.st rfl rfl q_sz201 rfl rfl rfl) rfl rfl (GDI.less (y15_02 hF hQ) (by intro p hp; simp only [List.mem_cons,List.not_mem_nil,or_false] at hp; rcases hp with rfl | rfl | rfl | rfl <;> rfl) (fun w h=>h))
theorem y15_1 (hF:∀ f,F.fn f) (hQ:∀ a w,Has 46 ds [(44,chv k2 e2),(45,.slice av 1 cv),(7,.slice av 1 cv),(8,.int .i64 0),(6,pp b6),(9,pp b9),(11,pp b11)] a→Sts W0 w (Bk b6 201 [.int .i64 k2,.int .i64 e2]::Bk b9 40 [.slice av 1 cv]::Bk b11 201 [.int .i64 k2,.int .i64 e2]::Z)→Q .normal a w):GDI F n Tryz.prog W0 46 ds r15 Q 4 #[false,true,false,false,false] [(45,.slice av 1 cv),(6,pp b6),(9,pp b9),(11,pp b11)] (Bk b6 201 [.int .i64 0,.int .i64 0]::Bk b9 40 [.slice av 1 cv]::Bk b11 201 [.int .i64 k2,.int .i64 e2]::Z):=by
 refine GDI.step (is:=[0]) (by kernel_rfl) rfl (rdy1 ?_)
 ·exact OPI.val rfl hF (fun c hc=>by cases hc) (EX.ldN rfl q_many201 rfl) rfl rfl rfl (GDI.less (y15_01 hF hQ) (by intro p hp; simp only [List.mem_cons,List.not_mem_nil,or_false] at hp; rcases hp with rfl | rfl | rfl | rfl | rfl <;> rfl) (fun w h=>h))
theorem y15_ (hF:∀ f,F.fn f) (hQ:∀ a w,Has 46 ds [(44,chv k2 e2),(45,.slice av 1 cv),(7,.slice av 1 cv),(8,.int .i64 0),(6,pp b6),(9,pp b9),(11,pp b11)] a→Sts W0 w (Bk b6 201 [.int .i64 k2,.int .i64 e2]::Bk b9 40 [.slice av 1 cv]::Bk b11 201 [.int .i64 k2,.int .i64 e2]::Z)→Q .normal a w):GDI F n Tryz.prog W0 46 ds r15 Q 5 #[false,false,false,false,false] [(6,pp b6),(9,pp b9),(11,pp b11)] (Bk b6 201 [.int .i64 0,.int .i64 0]::Bk b9 40 [.slice av 1 cv]::Bk b11 201 [.int .i64 k2,.int .i64 e2]::Z):=by
 refine GDI.step (is:=[0,1]) (by kernel_rfl) rfl (rdy2 ?_ ?_)
 ·exact OPI.val rfl hF (fun c hc=>by cases hc) (EX.ldN rfl q_many201 rfl) rfl rfl rfl (GDI.less (y15_0 hF hQ) (by intro p hp; simp only [List.mem_cons,List.not_mem_nil,or_false] at hp; rcases hp with rfl | rfl | rfl | rfl <;> rfl) (fun w h=>h))
 ·exact OPI.val rfl hF (fun c hc=>by cases hc) (EX.ld rfl rfl (One.of Tryz.underlying40 rfl)) rfl rfl rfl (GDI.less (y15_1 hF hQ) (by intro p hp; simp only [List.mem_cons,List.not_mem_nil,or_false] at hp; rcases hp with rfl | rfl | rfl | rfl <;> rfl) (fun w h=>h))
end
end
end
end EV
end Go.Proofs.YtadggjnohohedaaGreatDoor
