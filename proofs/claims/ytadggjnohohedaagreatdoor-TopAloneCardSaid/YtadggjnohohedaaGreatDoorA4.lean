/- TopAlone: for every input the call returns true; part A4 of the proof. -/
import Derived.Test.YtadggjnohohedaaGreatDoorA3
import Derived.KernelRfl
import Derived.Lib.Bytealg
import Derived.RangeFuncRecord
import Derived.RangeFuncIn
import Derived.RangeFuncSeq
import Derived.OwnWalkIn
import Derived.LoopN
import Derived.RangeFuncLeaves
import Derived.Maps.RangeRun
import Derived.Shelf.Lay
import Derived.Shelf.Sort.Plain
import Derived.Ground.NamesProg
import Derived.Sort.OwnSortedInts
set_option linter.unusedVariables false
set_option linter.unusedSimpArgs false
set_option linter.unusedSectionVars false
set_option maxRecDepth 1000000
open Go.RowKit
namespace Go.Proofs.YtadggjnohohedaaGreatDoor
namespace EV
noncomputable section
def aLe (b:Nat) (l:List SV):Bool:=Nat.beq b 0 && allA l uZ
def eT:FT:=RL aLe
def qZ {α:Type} (Q:Pos→α→Prop):T α→Prop
 | .e=>True
 | .n l v r=>(∀ x,v=some x→Q .h x)∧qZ (fun p=>Q (.o p)) l∧qZ (fun p=>Q (.i p)) r
theorem qZ.get {α:Type}:∀ {Q:Pos→α→Prop} {t:T α} {p:Pos} {x:α},qZ Q t→T.get p t=some x→Q p x
 | Q,.e,p,x,_,h=>by rw [T.nS] at h; cases h
 | Q,.n l v r,.h,x,h,hg=>h.1 x hg
 | Q,.n l v r,.o p,x,h,hg=>qZ.get (Q:=fun p=>Q (.o p)) h.2.1 (show T.get p l=some x from hg)
 | Q,.n l v r,.i p,x,h,hg=>qZ.get (Q:=fun p=>Q (.i p)) h.2.2 (show T.get p r=some x from hg)
def Qf (P:Program) (F:FT) (p:Pos) (cf:CF):Prop:=∃ fn,P.funcs[p.nat - 1]?=some fn∧V3 F fn cf=true∧Enters P (p.nat - 1)
structure qY (P:Program) (W0:World) (f:Nat) (b:BI):Prop where
 ent:Enters P f
 ret:∀ vs me nx v me' nx',b vs me nx=.ret v me' nx'→∀ (W:World) (R:List aA) (g:G) (xs:List Value),g.fresh nx→aF (den g) vs=some xs→aB W0 W (mem g me++R) →
  Calls P f xs.toArray W fun e w'=>∃ g' x,e=.returned x∧g.ext g' nx∧g'.fresh nx'∧nx.nat≤nx'.nat∧den g' v=some x∧aB W0 w' (mem g' me'++R)
 dL:∀ vs me nx v me' nx',b vs me nx=.dL v me' nx'→∀ (W:World) (R:List aA) (g:G) (xs:List Value),g.fresh nx→aF (den g) vs=some xs→aB W0 W (mem g me++R) →
  Calls P f xs.toArray W fun e w'=>∃ g' x,e=.panicked (chain x)∧g.ext g' nx∧g'.fresh nx'∧nx.nat≤nx'.nat∧den g' v=some x∧aB W0 w' (mem g' me'++R)
theorem oB {P:Program} {W0:World} {F:FT} {bi:T BI} (hbi:qZ (fun p b=>qY P W0 (p.nat - 1) b) bi) (hfs:qZ (Qf P F) fs) (hF:F.Ok P W0) (bU:P.follows .mixedOrders=true) (hE:SF P):∀ n,pE P W0 (yC bi n)
 | 0=>⟨fun f vs me nx v me' nx' h=>(by cases h),fun f vs me nx v me' nx' h=>(by cases h),fun f vs me nx h=>(h rfl).elim⟩
 | n + 1=>by
  have ih:=oB hbi hfs hF bU hE n;have hrun:∀ f vs me nx,yC bi (n + 1) f vs me nx=Option.rec (motive:=fun _=>RF) (Option.rec (motive:=fun _=>RF) .no (fun cf=>runK (yC bi n) cf vs me nx) (T.get f fs)) (fun b=>b vs me nx) (T.get f bi):=fun _ _ _ _=>rfl;refine ⟨fun f vs me nx v me' nx' h=>?_,fun f vs me nx v me' nx' h=>?_,fun f vs me nx h=>?_⟩
  ·rw [hrun] at h;cases hb:T.get f bi with
   | some b=>rw [hb] at h; exact (hbi.get hb).ret _ _ _ _ _ _ h
   | none =>
    rw [hb] at h;cases hf:T.get f fs with
    | none=>rw [hf] at h; cases h
    | some cf =>
     rw [hf] at h;obtain ⟨fn,h1,h2,h3⟩:=hfs.get hf;intro W R g xs hfr hd hm;refine wU ih hF bU hE h1 h2 h (by intro e; cases e) W xs hfr hd hm (fun v' m n e g' x w' k1 k2 k3 k4 k5=>?_) (fun v' m n e=>by cases e);injection e with e1 e2 e3; subst e1; subst e2; subst e3;exact ⟨g',x,rfl,k1,k2,k3,k4,k5⟩
  ·rw [hrun] at h;cases hb:T.get f bi with
   | some b=>rw [hb] at h; exact (hbi.get hb).dL _ _ _ _ _ _ h
   | none =>
    rw [hb] at h;cases hf:T.get f fs with
    | none=>rw [hf] at h; cases h
    | some cf =>
     rw [hf] at h;obtain ⟨fn,h1,h2,h3⟩:=hfs.get hf;intro W R g xs hfr hd hm;refine wU ih hF bU hE h1 h2 h (by intro e; cases e) W xs hfr hd hm (fun v' m n e=>by cases e) (fun v' m n e g' x w' k1 k2 k3 k4 k5=>?_);injection e with e1 e2 e3; subst e1; subst e2; subst e3;exact ⟨g',x,rfl,k1,k2,k3,k4,k5⟩
  rw [hrun] at h;cases hb:T.get f bi with
  | some b=>exact (hbi.get hb).ent
  | none =>
   rw [hb] at h;cases hf:T.get f fs with
   | none=>rw [hf] at h; exact (h rfl).elim
   | some cf=>exact (hfs.get hf).elim fun fn hh=>hh.2.2
end
noncomputable section
variable {W0 W:World} {R:List aA} {g:G} {me:T Ob} {nx:Pos}
theorem vK {i:Pos} {m most:Nat} {rev:List Nat} {F:Option (List Nat)} (hm:aB W0 W (mem g me++R)) (hg:T.get i me=some (.st m rev most F)) :
  ∃ b o l,g.fQ i=some (b,o)∧fK F rev l.reverse∧l.length=m∧most≤65536∧aB W0 W (Go.Proofs.YtadggjnohohedaaGreatDoor.St b l most::(mem g (T.put i none me)++R)):=by
 obtain ⟨x,k1⟩:=(fO hm hg).aP;obtain ⟨⟨k2,k3,k4,k5⟩,k6⟩:=k1.aS.aN;exact ⟨x.1,x.2.1,x.2.2,k2,k3,k4,k5,k6⟩
theorem zD {i:Pos} {m most:Nat} {rev:List Nat} {F:Option (List Nat)} {b o:Nat} {l:List Tm} (h1:g.fQ i=some (b,o)) (h2:fK F rev l.reverse) (h3:l.length=m) (h4:most≤65536) (hs:aB W0 W (Go.Proofs.YtadggjnohohedaaGreatDoor.St b l most::(mem g (T.put i none me)++R))) :
  aB W0 W (mem g (T.put i (some (.st m rev most F)) me)++R):=jA (aB.bR (b,o,l) (aB.cB (aB.bB ⟨h1,h2,h3,h4⟩ hs)))
theorem pN {i:Pos} {o:Ob} (hg:T.get i me=some o) (hs:aB W0 W (mem g (T.put i (some o) me)++R)):aB W0 W (mem g me++R):=by
 refine hs.perm (List.Perm.append_right R ?_);exact BQ.trans (MB hg).symm
theorem P6:qY Tryz.prog W0 9 P7:=by
 refine ⟨eN,fun vs me nx v me' nx' h W R g xs hf hx hm=>?_,fun vs me nx v me' nx' h=>?_⟩
 ·unfold P7 at h;split at h
  ·rename_i i;split at h
   ·rename_i m rev most F hg;injection h with h1 h2 h3; subst h1; subst h2; subst h3;obtain ⟨x,us,d1,d2,rfl⟩:=aK hx;have:us=[]:=by simpa [aF] using d2.symm
    subst this;obtain ⟨q,q1,rfl⟩:=fH d1;obtain ⟨b,o,l,r1,r2,r3,r4,r5⟩:=vK hm hg;obtain rfl:q=(b,o):=by rw [q1] at r1; exact Option.some.inj r1
    refine Calls.mono (oP b l most W0 W _ r5) (fun e w' ⟨h1,h2⟩=>⟨g,.int .i64 (l.length:Nat),h1,G.ext.refl _ _,hf,Nat.le_refl _,by rw [r3]; rfl,?_⟩);exact pN hg (zD r1 r2 r3 r4 h2)
   cases h
  cases h
 unfold P7 at h;split at h
 ·split at h <;> cases h
 cases h
theorem JH {l:List Tm} {m a:Nat} (h:l.length=m):eI l (Int.ofNat a)=lH m a:=by
 unfold eI lH;subst h;have e1:decide (1≤Int.ofNat a)=Nat.blt 0 a:=by
  cases hb:Nat.blt 0 a with
  | true=>have:0 < a:=Nat.le_of_ble_eq_true hb; simp; omega
  | false =>
   have:¬ 0 < a:=fun hc=>by rw [show Nat.blt 0 a=true from Nat.ble_eq_true_of_le hc] at hb; cases hb
   simp; omega
 have e2:decide (Int.ofNat a≤(l.length:Int))=Nat.ble a l.length:=by
  cases hb:Nat.ble a l.length with
  | true=>have:=Nat.le_of_ble_eq_true hb; simp; omega
  | false =>
   have:¬ a≤l.length:=fun hc=>by rw [Nat.ble_eq_true_of_le hc] at hb; cases hb
   simp; omega
 rw [e1,e2]
theorem XV:qY Tryz.prog W0 131 ML:=by
 refine ⟨eN,fun vs me nx v me' nx' h W R g xs hf hx hm=>?_,fun vs me nx v me' nx' h=>?_⟩
 ·unfold ML at h;split at h
  ·rename_i i a;split at h
   ·rename_i m rev most F hg;injection h with h1 h2 h3; subst h1; subst h2; subst h3;obtain ⟨x,us,d1,d2,rfl⟩:=aK hx;obtain ⟨y,us,d3,d4,rfl⟩:=aK d2;have:us=[]:=by simpa [aF] using d4.symm
    subst this;have:=cR d3; subst this;obtain ⟨q,q1,rfl⟩:=fH d1;obtain ⟨b,o,l,r1,r2,r3,r4,r5⟩:=vK hm hg;obtain rfl:q=(b,o):=by rw [q1] at r1; exact Option.some.inj r1
    refine Calls.mono (MK b l most (Int.ofNat a) W0 W _ r5) (fun e w' ⟨h1,h2⟩=>⟨g,.bool (eI l (Int.ofNat a)),h1,G.ext.refl _ _,hf,Nat.le_refl _,by rw [JH r3]; rfl,?_⟩);exact pN hg (zD r1 r2 r3 r4 h2)
   cases h
  cases h
 unfold ML at h;split at h
 ·split at h <;> cases h
 cases h
end
noncomputable section
variable {W0 W:World} {R:List aA} {g:G} {me:T Ob} {nx:Pos}
theorem aAk {R:Type} (n:Nat) (k:Nat→R):fN n k=k n:=by cases n <;> rfl
theorem sJ {m k r:Nat} (h:k < m):Nat.mod (k + m * r) m=k:=by
 show (k + m * r) % m=k;rw [Nat.add_mul_mod_self_left,Nat.mod_eq_of_lt h]
theorem sK {m k r:Nat} (h:k < m):Nat.div (k + m * r) m=r:=by
 show (k + m * r) / m=r;rw [Nat.add_mul_div_left _ _ (by omega),Nat.div_eq_of_lt h,Nat.zero_add]
theorem xF {t:Tm} {c:Nat} (h:lL t c):aT g (U9 c)=some (dE t):=by
 obtain ⟨kind,sl,sv,n,a,b,d,rfl,h1,h2,h3,h4,h5,h6,h7,h8,rfl⟩:=h;unfold U9;simp only [aAk,sJ h2,sK h2,sJ h4,sK h4,sJ h5,sK h5,sJ h6,sK h6,sJ h7,sK h7,sJ h8,sK h8];simp [aT,aF,aE,aI,h1,dE]
theorem AI {t u:Tm} {c:Nat} (h1:lL t c) (h2:lL u c):t=u:=by
 have e1:=xF (g:=⟨fun _=>none,0,0,by decide,by decide⟩) h1;have e2:=xF (g:=⟨fun _=>none,0,0,by decide,by decide⟩) h2;rw [e1] at e2;injection e2 with e2;cases t; cases u;simp [dE] at e2;simp [e2]
theorem RW {t:Tm} {c d:Nat} (h1:lL t c) (h2:lL t d):c=d:=by
 obtain ⟨kind,sl,sv,n,a,b,e,rfl,g1,g2,g3,g4,g5,g6,g7,g8,rfl⟩:=h1;obtain ⟨kind',sl',sv',n',a',b',e',ht,k1,k2,k3,k4,k5,k6,k7,k8,rfl⟩:=h2;injection ht with t1 t2 t3 t4 t5 t6;have hs:=seq_eq g1 k1;rw [t2] at hs;simp only [decide_true] at hs;unfold seq at hs;cases hb:Nat.beq sl sl' with
 | false=>rw [hb] at hs; cases hs
 | true =>
  rw [hb] at hs;have e1:=Nat.eq_of_beq_eq_true hb;have e2:=Nat.eq_of_beq_eq_true hs;obtain rfl:kind=kind':=by omega
  obtain rfl:n=n':=by omega
  obtain rfl:a=a':=by omega
  obtain rfl:b=b':=by omega
  obtain rfl:e=e':=by omega
  subst e1; subst e2; rfl
theorem xI {F:Option (List Nat)}:∀ {rev:List Nat} {L:List Tm} {j cd:Nat},fK F rev L→rev[j]?=some cd→cd≠0→∃ t,L[j]?=some t∧lL t cd
 | _,_,j,cd,.nil,h,_=>by simp at h
 | _,_,0,cd,.known h hs,h',_=>by simp at h'; subst h'; exact ⟨_,rfl,h⟩
 | _,_,j + 1,cd,.known h hs,h',hn=>by simpa using xI hs (by simpa using h') hn
 | _,_,0,cd,.junk hF h hs,h',hn=>by simp at h'; exact (hn h'.symm).elim
 | _,_,j + 1,cd,.junk hF h hs,h',hn=>by simpa using xI hs (by simpa using h') hn
theorem rev_at {l:List Tm} {a:Nat} (h1:1≤a) (h2:a≤l.length):l.reverse[l.length - a]?=l[a - 1]?:=by
 rw [List.getElem?_reverse (by omega)];congr 1; omega
theorem RJ:qY Tryz.prog W0 147 CG:=by
 refine ⟨eN,fun vs me nx v me' nx' h W R g xs hf hx hm=>?_,fun vs me nx v me' nx' h=>?_⟩
 ·unfold CG at h;split at h
  ·rename_i i a;split at h
   ·rename_i m rev most F hg;obtain ⟨x,us,d1,d2,rfl⟩:=aK hx;obtain ⟨y,us,d3,d4,rfl⟩:=aK d2;have:us=[]:=by simpa [aF] using d4.symm
    subst this;have:=cR d3; subst this;obtain ⟨q,q1,rfl⟩:=fH d1;obtain ⟨b,o,l,r1,r2,r3,r4,r5⟩:=vK hm hg;obtain rfl:q=(b,o):=by rw [q1] at r1; exact Option.some.inj r1
    have key:∀ vv,aT g vv=some (dE (aO l (Int.ofNat a)))→RF.ret (.t [vv,.b (eI l (Int.ofNat a))]) me nx=RF.ret v me' nx'→Calls Tryz.prog 147 [Value.pointer (some ⟨b,0,none⟩),.int .i64 (Int.ofNat a)].toArray W fun e w'=>∃ g' x,e=.returned x∧g.ext g' nx∧g'.fresh nx'∧nx.nat≤nx'.nat∧den g' v=some x∧aB W0 w' (mem g' me'++R):=by
     intro vv hvv hr;injection hr with h1 h2 h3; subst h1; subst h2; subst h3;refine Calls.mono (jL b l most (Int.ofNat a) W0 W _ r5) (fun e w' ⟨h1,h2⟩=>⟨g,_,h1,G.ext.refl _ _,hf,Nat.le_refl _,oX (bT hvv (bT rfl rfl)),?_⟩);exact pN hg (zD r1 r2 r3 r4 h2)
    cases hi:lH m a with
    | false =>
     rw [hi] at h; simp only [cond_false] at h;have hT:=JH (a:=a) r3;rw [hi] at hT;refine key tmZ ?_ (by rw [hT]; exact h);have:aO l (Int.ofNat a)=cW:=by
      unfold aO;rw [if_neg];intro hc;unfold eI at hT;simp only [Bool.and_eq_false_iff,decide_eq_false_iff_not] at hT;rcases hT with hT | hT
      ·exact hT hc.1
      exact hT hc.2
     rw [this]; rfl
    | true =>
     rw [hi] at h; simp only [cond_true] at h;have hT:=JH (a:=a) r3;rw [hi] at hT;have hb:1≤a∧a≤l.length:=by
      unfold lH at hi;simp only [Bool.and_eq_true] at hi;have h1:=Nat.le_of_ble_eq_true hi.1;have h2:=Nat.le_of_ble_eq_true hi.2;omega
     split at h
     ·rename_i cd hcd;cases hz:Nat.beq cd 0 with
      | true=>rw [hz] at h; cases h
      | false =>
       rw [hz] at h; simp only [cond_false] at h;have aSd:cd≠0:=fun e=>by rw [e] at hz; cases hz
       rw [hZ] at hcd;obtain ⟨t,ht,hct⟩:=xI r2 hcd aSd;have hma:Nat.sub m a=l.length - a:=by rw [r3]; rfl
       rw [hma,rev_at hb.1 hb.2] at ht;refine key (U9 cd) ?_ (by rw [hT]; exact h);rw [xF hct];have:aO l (Int.ofNat a)=t:=by
        unfold aO;rw [if_pos ⟨by simp; omega,by simp; omega⟩];have:(Int.ofNat a).toNat=a:=rfl;rw [this,List.getD_eq_getElem?_getD,ht]; rfl
       rw [this]
     cases h
   cases h
  cases h
 unfold CG at h;split at h
 ·split at h
  ·rename_i m rev most F hg;cases hi:lH m _ with
   | false=>rw [hi] at h; cases h
   | true =>
    rw [hi] at h; simp only [cond_true] at h;split at h
    ·rename_i cd hcd;cases hz:Nat.beq cd 0 with
     | true=>rw [hz] at h; cases h
     | false=>rw [hz] at h; cases h
    ·cases h
  cases h
 cases h
end
noncomputable section
variable {W0 W:World} {R:List aA} {g:G} {me:T Ob} {nx:Pos}
theorem V7 {n v:Nat}:(dD n v=⟨#[]⟩)↔n=0:=by
 constructor
 ·intro h;have:=eB n v;rw [h] at this;exact this.symm
 rintro rfl; rfl
theorem bN {a b:Nat}:Nat.beq a b=decide (a=b):=by
 cases h:Nat.beq a b with
 | true=>simp [Nat.eq_of_beq_eq_true h]
 | false =>
  have:a≠b:=fun e=>by subst e; simp at h
  simp [this]
theorem cC {a b:Nat}:Nat.ble a b=decide (a≤b):=by
 cases h:Nat.ble a b with
 | true=>simp [Nat.le_of_ble_eq_true h]
 | false =>
  have:¬ a≤b:=fun e=>by rw [Nat.ble_eq_true_of_le e] at h; cases h
  simp [this]
theorem cD {a b:Nat}:Nat.blt a b=decide (a < b):=cC
theorem aDy {l:List Tm} {m kind sl sv n a b c:Nat} (h:l.length=m):(Tm.mk kind (dD sl sv) n a b c).may l=eF m kind sl n a b c:=by
 subst h;have hsz:=eB sl sv;have hnil:(dD sl sv=⟨#[]⟩)↔sl=0:=V7;match kind with
 | 0=>simp [Tm.may,eF]
 | 1=>rw [Bool.eq_iff_iff]; simp [Tm.may,Tm.only,Tm.parts,eF,lH,bN,cC,cD,hsz,hnil]; omega
 | 2=>rw [Bool.eq_iff_iff]; simp [Tm.may,Tm.only,Tm.parts,eF,lH,bN,cC,cD,hsz,hnil]; omega
 | 3=>rw [Bool.eq_iff_iff]; simp [Tm.may,Tm.only,Tm.parts,eF,lH,bN,cC,cD,hsz,hnil]; omega
 | 4=>rw [Bool.eq_iff_iff]; simp [Tm.may,Tm.only,Tm.parts,eF,lH,bN,cC,cD,hsz,hnil]; omega
 | 5=>rw [Bool.eq_iff_iff]; simp [Tm.may,Tm.only,Tm.parts,eF,lH,bN,cC,cD,hsz,hnil]; omega
 | 6=>rw [Bool.eq_iff_iff]; simp [Tm.may,Tm.only,Tm.parts,eF,lH,bN,cC,cD,hsz,hnil]; omega
 | 7=>rw [Bool.eq_iff_iff]; simp [Tm.may,Tm.only,Tm.parts,eF,lH,bN,cC,cD,hsz,hnil]; omega
 | 8=>rw [Bool.eq_iff_iff]; simp [Tm.may,Tm.only,Tm.parts,eF,lH,bN,cC,cD,hsz,hnil]; omega
 | 9=>rw [Bool.eq_iff_iff]; simp [Tm.may,Tm.only,Tm.parts,eF,lH,bN,cC,cD,hsz,hnil]; omega
 | 10=>rw [Bool.eq_iff_iff]; simp [Tm.may,Tm.only,Tm.parts,eF,lH,bN,cC,cD,hsz,hnil]; omega
 | 11=>rw [Bool.eq_iff_iff]; simp [Tm.may,Tm.only,Tm.parts,eF,lH,bN,cC,cD,hsz,hnil]; omega
 | k + 12=>simp [Tm.may,eF]; omega
theorem oT {F:Option (List Nat)} {t:Tm} {cd:Nat} (hc:lL t cd) (h0:cd≠0):∀ {rev:List Nat} {L:List Tm} {n:Nat},fK F rev L→inF cd F=true→L.length=n →
  (∀ j,L.findIdx? (·=t)=some j→tX cd rev n=n - j∧j < n)∧(L.findIdx? (·=t)=none→tX cd rev n=0)
 | _,_,n,.nil,_,hn=>⟨fun j h=>by simp at h,fun _=>rfl⟩
 | _,_,n,.known (c:=c') (t:=t') (r:=r) (l:=l) h hs,hF,hn=>by
  have hf:tX cd (c'::r) n=bif Nat.beq c' cd then n else tX cd r (Nat.pred n):=rfl;obtain ⟨i1,i2⟩:=oT hc h0 (n:=Nat.pred n) hs hF (by rw [← hn]; rfl)
  by_cases e:t'=t
  ·subst e;have:=RW h hc; subst this;refine ⟨fun j hj=>?_,fun hj=>?_⟩
   ·simp [List.findIdx?_cons] at hj;subst hj;rw [hf,bN]; simp at hn ⊢; omega
   simp [List.findIdx?_cons] at hj
  have hne:c'≠cd:=fun e'=>by subst e'; exact e (AI h hc)
  rw [hf,bN]; simp only [hne,decide_false,cond_false];refine ⟨fun j hj=>?_,fun hj=>?_⟩
  ·simp [List.findIdx?_cons,e] at hj;obtain ⟨j',hj',rfl⟩:=hj;obtain ⟨k1,k2⟩:=i1 j' hj';rw [k1];simp at hn k2 ⊢;omega
  simp [List.findIdx?_cons,e] at hj;exact i2 (by simpa using hj)
 | _,_,n,.junk (t:=t') (r:=r) (l:=l) (L:=LL) hF' h hs,hF,hn=>by
  have hf:tX cd (0::r) n=bif Nat.beq 0 cd then n else tX cd r (Nat.pred n):=rfl;obtain ⟨i1,i2⟩:=oT hc h0 (n:=Nat.pred n) hs hF (by rw [← hn]; rfl);have hmem:cd∈LL:=by
   subst hF';have hF2:aDw cd LL=true:=hF;clear hF h i1 i2 hs hf;induction LL with
   | nil=>cases hF2
   | cons x r ih =>
    have h':(bif Nat.beq x cd then true else aDw cd r)=true:=hF2;cases hb:Nat.beq x cd with
    | true=>rw [Nat.eq_of_beq_eq_true hb]; simp
    | false=>rw [hb] at h'; exact List.mem_cons_of_mem _ (ih h')
  have e:t'≠t:=fun e=>by subst e; exact h cd hmem hc
  rw [hf,bN]; simp only [Ne.symm h0,decide_false,cond_false];refine ⟨fun j hj=>?_,fun hj=>?_⟩
  ·simp [List.findIdx?_cons,e] at hj;obtain ⟨j',hj',rfl⟩:=hj;obtain ⟨k1,k2⟩:=i1 j' hj';rw [k1];simp at hn k2 ⊢;omega
  simp [List.findIdx?_cons,e] at hj;exact i2 (by simpa using hj)
theorem QF {l:List Tm} {m kind sl n a b c:Nat} (hm:m≤2000000) (h:eF m kind sl n a b c=true):kind < 16∧kind≠0∧a < 2097152∧b < 2097152∧c < 2097152∧sl < 1024:=by
 match kind,h with
 | 0,h=>simp [eF] at h
 | 1,h=>simp [eF,lH,bN,cC,cD] at h; omega
 | 2,h=>simp [eF,lH,bN,cC,cD] at h; omega
 | 3,h=>simp [eF,lH,bN,cC,cD] at h; omega
 | 4,h=>simp [eF,lH,bN,cC,cD] at h; omega
 | 5,h=>simp [eF,lH,bN,cC,cD] at h; omega
 | 6,h=>simp [eF,lH,bN,cC,cD] at h; omega
 | 7,h=>simp [eF,lH,bN,cC,cD] at h; omega
 | 8,h=>simp [eF,lH,bN,cC,cD] at h; omega
 | 9,h=>simp [eF,lH,bN,cC,cD] at h; omega
 | 10,h=>simp [eF,lH,bN,cC,cD] at h; omega
 | 11,h=>simp [eF,lH,bN,cC,cD] at h; omega
 | k + 12,h=>simp [eF] at h
theorem YX {l:List Tm} {t:Tm} (hn:l.Nodup):(∀ i,l.findIdx? (·=t)=some i→l.reverse.findIdx? (·=t)=some (l.length - 1 - i)∧i < l.length)∧(l.findIdx? (·=t)=none→l.reverse.findIdx? (·=t)=none):=by
 refine ⟨fun i hi=>?_,fun hi=>?_⟩
 ·rw [List.findIdx?_eq_some_iff_getElem] at hi;obtain ⟨hlt,he,_⟩:=hi;simp only [decide_eq_true_eq] at he;refine ⟨?_,hlt⟩;rw [List.findIdx?_eq_some_iff_getElem];have hlr:l.length - 1 - i < l.reverse.length:=by simp; omega
  refine ⟨hlr,?_,fun j hj=>?_⟩
  ·simp only [List.getElem_reverse,decide_eq_true_eq];have:l.length - 1 - (l.length - 1 - i)=i:=by omega
   simp only [this,he]
  simp only [List.getElem_reverse,decide_eq_true_eq];intro hc;have hp:=List.pairwise_iff_getElem.1 hn i (l.length - 1 - j) hlt (by omega) (by omega);exact hp (he.trans hc.symm)
 rw [List.findIdx?_eq_none_iff] at hi ⊢;intro x hx;exact hi x (by simpa using hx)
theorem UP:qY Tryz.prog W0 25 LF:=by
 refine ⟨eN,fun vs me nx v me' nx' h W R g xs hf hx hm=>?_,fun vs me nx v me' nx' h=>?_⟩
 ·unfold LF at h;split at h
  ·rename_i i kind sl sv n a b c;split at h
   ·rename_i m rev most F hg;cases hck:(and (Nat.blt n 18446744073709551616) (bif eF m kind sl n a b c then inF (codeOf kind sl sv n a b c) F else true)) with
    | false=>rw [hck] at h; cases h
    | true =>
    rw [hck] at h; simp only [cond_true] at h;simp only [Bool.and_eq_true] at hck;have aR6:n < 18446744073709551616:=Nat.le_of_ble_eq_true hck.1;obtain ⟨x,us,d1,d2,rfl⟩:=aK hx;obtain ⟨y,us,d3,d4,rfl⟩:=aK d2;have:us=[]:=by simpa [aF] using d4.symm
    subst this;obtain ⟨hsv,rfl⟩:sv < 256 ^ sl∧y=dE ⟨kind,dD sl sv,n,a,b,c⟩:=by
     obtain ⟨ys,k1,rfl⟩:=AF d3;obtain ⟨_,_,a1,k2,rfl⟩:=aK k1;obtain ⟨_,_,a2,k3,rfl⟩:=aK k2;obtain ⟨_,_,a3,k4,rfl⟩:=aK k3;obtain ⟨_,_,a4,k5,rfl⟩:=aK k4;obtain ⟨_,_,a5,k6,rfl⟩:=aK k5;obtain ⟨_,_,a6,k7,rfl⟩:=aK k6;have e0:=(Option.some.inj k7).symm;obtain ⟨l1,e2⟩:=lK (show den g (.s sl sv)=_ from a2);have e1:=Option.some.inj a1;have e3:=Option.some.inj a3;have e4:=Option.some.inj a4;have e5:=Option.some.inj a5;have e6:=Option.some.inj a6;subst e0; subst e1; subst e2; subst e3; subst e4; subst e5; subst e6;exact ⟨l1,rfl⟩
    obtain ⟨q,q1,rfl⟩:=fH d1;obtain ⟨bs,o,l,r1,r2,r3,r4,r5⟩:=vK hm hg;obtain rfl:q=(bs,o):=by rw [q1] at r1; exact Option.some.inj r1
    obtain ⟨g1,g2⟩:=uR r5 .here;obtain ⟨t,ht⟩:∃ t:Tm,t=⟨kind,dD sl sv,n,a,b,c⟩:=⟨_,rfl⟩;rw [← ht];have hrun:=UL bs l most t (by omega) W0 W _ r5;have hmay:t.may l=eF m kind sl n a b c:=by rw [ht]; exact aDy r3
    have key:∀ (xx ee m':Nat) (aBy:List Nat) (l':List Tm),bF l most t=((xx:Int),(ee:Int),l')→fK F aBy l'.reverse→l'.length=m'→RF.ret (.t [er xx,er ee]) (T.put i (some (.st m' aBy most F)) me) nx=RF.ret v me' nx' →
      Calls Tryz.prog 25 [Value.pointer (some ⟨bs,0,none⟩),dE t].toArray W fun e w'=>∃ g' x,e=.returned x∧g.ext g' nx∧g'.fresh nx'∧nx.nat≤nx'.nat∧den g' v=some x∧aB W0 w' (mem g' me'++R):=by
     intro xx ee m' aBy l' hp hcs hl hr;injection hr with h1 h2 h3; subst h1; subst h2; subst h3;rw [hp] at hrun;exact Calls.mono hrun (fun e w' ⟨h1,h2⟩=>⟨g,_,h1,G.ext.refl _ _,hf,Nat.le_refl _,oX (bT rfl (bT rfl rfl)),zD r1 hcs hl r4 h2⟩)
    unfold aCa at h;cases hmc:eF m kind sl n a b c with
    | false =>
     rw [hmc] at h; simp only [cond_false] at h;refine key 0 1 m rev l ?_ r2 r3 h;unfold bF; rw [hmay,hmc]; rfl
    | true =>
     rw [hmc] at h hck; simp only [cond_true,aAk] at h hck;obtain ⟨c1,c2,c3,c4,c5,c6⟩:=QF (l:=l) (by omega) hmc;have hct:lL t (codeOf kind sl sv n a b c):=⟨kind,sl,sv,n,a,b,c,ht,hsv,c1,c2,c3,c4,c5,aR6,c6,rfl⟩;have hc0:codeOf kind sl sv n a b c≠0:=by
      intro e;have:kind + 16 * (a + 2097152 * (b + 2097152 * (c + 2097152 * (n + 18446744073709551616 * (sl + 1024 * sv)))))=0:=e;omega
     obtain ⟨f1,f2⟩:=oT hct hc0 (n:=m) r2 hck.2 (by simp [r3]);obtain ⟨v1,v2⟩:=YX (t:=t) g2;cases hi:l.findIdx? (·=t) with
     | some i0 =>
      obtain ⟨w1,w2⟩:=v1 i0 hi;obtain ⟨w3,w4⟩:=f1 _ w1;have e1:tX (codeOf kind sl sv n a b c) rev m=i0 + 1:=by rw [w3]; omega
      rw [e1] at h;have hz:Nat.beq (i0 + 1) 0=false:=rfl;rw [hz] at h; simp only [cond_false] at h;refine key (i0 + 1) 0 m rev l ?_ r2 r3 h;unfold bF; rw [hmay,hmc,if_pos rfl,hi]; simp
     | none =>
      have e1:=f2 (v2 hi);rw [e1] at h;have hz:Nat.beq 0 0=true:=rfl;rw [hz] at h; simp only [cond_true] at h;cases hmo:Nat.ble most m with
      | true =>
       rw [hmo] at h; simp only [cond_true] at h;have:=Nat.le_of_ble_eq_true hmo;refine key 0 4 m rev l ?_ r2 r3 h;unfold bF; rw [hmay,hmc,if_pos rfl,hi];simp only;rw [if_pos (by omega)]; rfl
      | false =>
       rw [hmo] at h; simp only [cond_false] at h;have hnm:¬ most≤m:=fun e=>by rw [Nat.ble_eq_true_of_le e] at hmo; cases hmo
       refine key (Nat.succ m) 0 (Nat.succ m) (codeOf kind sl sv n a b c::rev) (l++[t]) ?_ ?_ (by simp [r3]) h
       ·unfold bF; rw [hmay,hmc,if_pos rfl,hi];simp only;rw [if_neg (by omega),r3]; rfl
       simp only [List.reverse_append,List.reverse_cons,List.reverse_nil,List.nil_append,List.singleton_append];exact .known hct r2
   cases h
  cases h
 unfold LF at h;split at h
 ·split at h
  ·rename_i i kind sl sv n a b c _ m rev most F hg;cases hck:(and (Nat.blt n 18446744073709551616) (bif eF m kind sl n a b c then inF (codeOf kind sl sv n a b c) F else true)) with
   | false=>rw [hck] at h; cases h
   | true=>rw [hck] at h; simp only [cond_true] at h; cases hq:aCa m rev most kind sl sv n a b c with | mk x e m2 aTh=>rw [hq] at h; cases h
  ·cases h
 cases h
end
noncomputable section
variable {W0 W:World} {R:List aA} {g:G} {me:T Ob} {nx:Pos}
theorem EO (W:World):Calls Tryz.prog 104 #[.int .i64 0] W fun e w'=>e=.returned (.tuple #[])∧w'=W:=by
 refine calls_of_wp Tryz.func104 rfl ?_;apply wp_seq;apply wp_region;simp [wpOps,go_sem,Tryz.ntmps104,Exit.then];refine .inl (.inl ?_);refine wp_cond_false (by simp [Act.eval,Array.replicate]) ?_;refine wp_skip ?_;simp [bodyPost,results,Tryz.results104]
theorem EP (n:Int) (hn:n≠0) (W:World):Calls Tryz.prog 104 #[.int .i64 n] W fun e w'=>e=.panicked (chain (.int .i64 n))∧w'=W:=by
 refine calls_of_wp Tryz.func104 rfl ?_;apply wp_seq;apply wp_region;simp [wpOps,go_sem,Tryz.ntmps104,Exit.then];refine .inl (.inl ?_);refine wp_cond_true (by simp [Act.eval,Array.replicate,hn]) ?_;apply wp_region;simp [wpOps,go_sem,Exit.then];refine .inl (.inl (.inl (.inl ?_)));simp [Instr.panic,Oper.upon,bodyPost,chain,HG]
theorem IQ:qY Tryz.prog W0 104 uV:=by
 refine ⟨eN,fun vs me nx v me' nx' h W R g xs hf hx hm=>?_,fun vs me nx v me' nx' h W R g xs hf hx hm=>?_⟩
 ·unfold uV at h;split at h
  ·rename_i e;obtain ⟨x,us,d1,d2,rfl⟩:=aK hx;have:us=[]:=by simpa [aF] using d2.symm
   subst this;have:=cR d1; subst this;cases he:Nat.beq e 0 with
   | false=>rw [he] at h; cases h
   | true =>
    rw [he] at h;have:=Nat.eq_of_beq_eq_true he; subst this;injection h with h1 h2 h3; subst h1; subst h2; subst h3;exact Calls.mono (EO W) (fun e w' ⟨h1,h2⟩=>⟨g,_,h1,G.ext.refl _ _,hf,Nat.le_refl _,rfl,h2 ▸ hm⟩)
  cases h
 unfold uV at h;split at h
 ·rename_i e;obtain ⟨x,us,d1,d2,rfl⟩:=aK hx;have:us=[]:=by simpa [aF] using d2.symm
  subst this;have:=cR d1; subst this;cases he:Nat.beq e 0 with
  | true=>rw [he] at h; cases h
  | false =>
   rw [he] at h;have hne:Int.ofNat e≠0:=fun hc=>by
    have:e=0:=by simpa using hc
    subst this; cases he
   injection h with h1 h2 h3; subst h1; subst h2; subst h3;exact Calls.mono (EP _ hne W) (fun e w' ⟨h1,h2⟩=>⟨g,_,h1,G.ext.refl _ _,hf,Nat.le_refl _,rfl,h2 ▸ hm⟩)
 cases h
end
noncomputable section
def qB (F:FT) (p:Pos) (cf:CF):Bool:=match Tryz.prog.funcs[p.nat - 1]? with
 | some fn => V3 F fn cf && (!(fn.name == "runtime.NumGoroutine") && !fn.body.isNone)
 | none=>false
theorem aHq {F:FT} {p:Pos} {cf:CF} (h:qB F p cf=true):Qf Tryz.prog F p cf:=by
 unfold qB at h;split at h
 ·rename_i fn hf;simp only [Bool.and_eq_true,Bool.not_eq_true'] at h;exact ⟨fn,hf,h.1,Enters.of hf h.2.1 h.2.2⟩
 cases h
def aIj {α:Type} (q:α→Bool) (v:Option α):Bool:=match v with
 | some x=>q x
 | none=>true
def X1 {α:Type} (q:Pos→α→Bool) (t:T α):Bool :=
 T.rec (motive:=fun _=>(Pos→α→Bool)→Bool) (fun _=>true) (fun _ v _ ihl ihr q=>aIj (q .h) v && (ihl (fun p=>q (.o p)) && ihr (fun p=>q (.i p)))) t q
theorem X0 {α:Type} {Q:Pos→α→Prop} {q:Pos→α→Bool} (hq:∀ p x,q p x=true→Q p x):∀ {t:T α},X1 q t=true→qZ Q t:=by
 intro t;induction t generalizing Q q with
 | e=>intro _; trivial
 | n l v r ihl ihr =>
  intro h;have h':(aIj (q .h) v && (X1 (fun p=>q (.o p)) l && X1 (fun p=>q (.i p)) r))=true:=h;simp only [Bool.and_eq_true] at h';refine ⟨fun x e=>?_,ihl (fun p x=>hq _ x) h'.2.1,ihr (fun p x=>hq _ x) h'.2.2⟩;subst e;exact hq _ _ h'.1
theorem YR:qZ (Qf Tryz.prog eT) fs:=X0 (fun p x=>aHq) (by kernel_rfl:X1 (qB eT) fs=true)
theorem aSs:Qf Tryz.prog eT p50 k49:=YR.get rfl
end
noncomputable section
variable {W0 W:World} {R:List aA} {g:G} {me:T Ob} {nx:Pos}
def tmC:List SV:=[.i .i64 0,.s 0 0,.i .u64 0,.i .i64 0,.i .i64 0,.i .i64 0]
def WH (n:Nat) (me:T Ob) (nx:Pos):T Ob:=T.put (Pos.succ (Pos.succ (Pos.succ nx))) (some (.c 109 [.sr nx 1,.sr (Pos.succ nx) 1,.m (Pos.succ (Pos.succ nx)),.i .i64 (.ofNat n)]))
 (T.put (Pos.succ (Pos.succ nx)) (some (.m .i64 [])) (T.put (Pos.succ nx) (some (.r 3 1 [.i .i64 0])) (T.put nx (some (.r 94 6 tmC)) me)))
theorem aHn (n:Nat) (h:n=5000∨n=65536) (me:T Ob) (nx:Pos):runK (fun _ _ _ _=>.no) k49 [.i .i64 (.ofNat n)] me nx=.ret (.t [.p (Pos.succ (Pos.succ (Pos.succ nx))) 0,er 0]) (WH n me nx) (Pos.succ (Pos.succ (Pos.succ (Pos.succ nx)))):=by
 rcases h with rfl | rfl <;> rfl
theorem pull {A:List aA} {i:Pos} {o:Ob} (h:aB W0 W (A++(mem g (T.put i (some o) me)++R))) (hn:T.get i me=none):aB W0 W (OT g i o::(A++(mem g me++R))):=by
 refine h.perm ?_;have h1:(mem g (T.put i (some o) me)).Perm (OT g i o::mem g me):=by
  have:=BQ (g:=g) (me:=me) (i:=i) (o:=o)
  rwa [wF hn] at this
 exact ((h1.append_right R).append_left A).trans List.perm_middle
theorem N7:pE Tryz.prog W0 (fun _ _ _ _=>.no):=⟨fun f vs me nx v me' nx' h=>(by cases h),fun f vs me nx v me' nx' h=>(by cases h),fun f vs me nx h=>(h rfl).elim⟩
theorem aDq {b:Nat} {L:List aA} (h:aB W0 W (Mp (aC .i64) b []::L)):aB W0 W (Mp dE b []::L):=by
 refine aB.weak h (A:=fun x=>x=b) (fun F hF=>?_);unfold Mp at hF ⊢;obtain ⟨⟨es,ck,h1,h2⟩,h3⟩:=hF;refine ⟨⟨⟨es,ck,h1,?_,h2.nodup,h2.born⟩,fun x=>Iff.rfl⟩,fun x hx=>(h3 x).2 hx⟩;have:=h2.kv;simpa using this
theorem aHv {α:Type} (f r q m b:α) (L:List α):(f::r::q::m::b::L).Perm (b::r::q::m::f::L) :=
 (List.perm_middle (l₁:=[r,q,m,b]) (a:=f) (l₂:=L)).symm.trans (List.perm_middle (l₁:=[r,q,m]) (a:=b) (l₂:=f::L))
theorem O0 {n:Nat} {g':G} {R:List aA} (hn:n≤65536) (h1:T.get nx me=none) (h2:T.get (Pos.succ nx) me=none) (h3:T.get (Pos.succ (Pos.succ nx)) me=none) (h4:T.get (Pos.succ (Pos.succ (Pos.succ nx))) me=none)
  (hs:aB W0 W (mem g' (WH n me nx)++R)):aB W0 W (mem g' (T.put (Pos.succ (Pos.succ (Pos.succ nx))) (some (.st 0 [] n none)) me)++R):=by
 have e1:=Pos.bW nx;have e2:=Pos.bW (Pos.succ nx);have e3:=Pos.bW (Pos.succ (Pos.succ nx));have n01:Pos.succ nx≠nx:=fun e=>by have:=congrArg Pos.nat e; omega
 have n02:Pos.succ (Pos.succ nx)≠nx:=fun e=>by have:=congrArg Pos.nat e; omega
 have n03:Pos.succ (Pos.succ (Pos.succ nx))≠nx:=fun e=>by have:=congrArg Pos.nat e; omega
 have n12:Pos.succ (Pos.succ nx)≠Pos.succ nx:=fun e=>by have:=congrArg Pos.nat e; omega
 have n13:Pos.succ (Pos.succ (Pos.succ nx))≠Pos.succ nx:=fun e=>by have:=congrArg Pos.nat e; omega
 have n23:Pos.succ (Pos.succ (Pos.succ nx))≠Pos.succ (Pos.succ nx):=fun e=>by have:=congrArg Pos.nat e; omega
 unfold WH at hs;have s1:=pull (A:=[]) hs (by rw [T.bO _ _ _ _ n23,T.bO _ _ _ _ n13,T.bO _ _ _ _ n03]; exact h4);obtain ⟨x1,s1⟩:=s1.aP;obtain ⟨⟨a1,a2⟩,s1⟩:=s1.aS.aN;have s2:=pull (A:=[Bk x1.1 109 x1.2.2]) s1 (by rw [T.bO _ _ _ _ n12,T.bO _ _ _ _ n02]; exact h3);obtain ⟨x2,s2⟩:=s2.aP;obtain ⟨⟨b1,b2,b3,b4⟩,s2⟩:=s2.aS.aN;have hx2:x2.2.2.1=[]:=(Option.some.inj b2).symm;rw [hx2] at b3;have aRw:x2.2.2.2=[]:=List.Perm.eq_nil b3;rw [aRw] at s2;have s2:=aDq s2;have s3:=pull (A:=[Mp dE x2.1 [],Bk x1.1 109 x1.2.2]) s2 (by rw [T.bO _ _ _ _ n01]; exact h2);obtain ⟨x3,s3⟩:=s3.aP;obtain ⟨⟨c1,c2⟩,s3⟩:=s3.aS.aN;have s4:=pull (A:=[Rw 3 1 (.slice (some ⟨x3.1,0,none⟩) x3.2.2.2 x3.2.1) x3.2.2.2 x3.2.2.1,Mp dE x2.1 [],Bk x1.1 109 x1.2.2]) s3 h1;obtain ⟨x4,s4⟩:=s4.aP;obtain ⟨⟨d1,d2⟩,s4⟩:=s4.aS.aN;have hc:x3.2.2.1=aJ [0]:=(Option.some.inj c2).symm;have hd:x4.2.2.1=fL (cW::[]):=(Option.some.inj (show some _=some x4.2.2.1 from d2)).symm;have l4:=s4.TV .here;have l3:=s4.TV (.there .here);rw [hd,mO] at l4;rw [hc,wO] at l3;have m4:x4.2.2.2=1:=by simp at l4; omega
 have m3:x3.2.2.2=1:=by simp at l3; omega
 have hv:x1.2.2=[.slice (some ⟨x4.1,0,none⟩) 1 x4.2.1,.slice (some ⟨x3.1,0,none⟩) 1 x3.2.1,.map (some x2.1),.int .i64 (n:Int)]:=by
  have:aF (aE g') [.sr nx 1,.sr (Pos.succ nx) 1,.m (Pos.succ (Pos.succ nx)),.i .i64 (.ofNat n)]=some [.slice (some ⟨x4.1,0,none⟩) 1 x4.2.1,.slice (some ⟨x3.1,0,none⟩) 1 x3.2.1,.map (some x2.1),.int .i64 (n:Int)]:=by
   simp [aF,aE,aI,d1,c1,b1]
  rw [this] at a2;exact (Option.some.inj a2).symm
 rw [hd,hc,m4,m3,hv] at s4;refine zD (b:=x1.1) (o:=x1.2.1) (l:=[]) a1 .nil rfl hn ?_;rw [wF h4];refine iI ⟨x4.1,x4.2.1,x3.1,x3.2.1,x2.1,[0]⟩ ?_;have s5:aB W0 W (Fact (mK [] [0])::_):=aB.bB ⟨rfl,List.nodup_nil,by simp⟩ s4;refine s5.perm ?_;exact aHv _ _ _ _ _ _
theorem WJ (hF:eT.Ok Tryz.prog W0) (bU:Tryz.prog.follows .mixedOrders=true):qY Tryz.prog W0 49 LT:=by
 refine ⟨eN,fun vs me nx v me' nx' h W R g xs hf hx hm=>?_,fun vs me nx v me' nx' h=>?_⟩
 ·unfold LT at h;split at h
  ·rename_i n;cases hb:(bif Nat.beq n 5000 then true else Nat.beq n 65536) with
   | false=>rw [hb] at h; cases h
   | true =>
    rw [hb] at h;have hn:n=5000∨n=65536:=by
     cases h1:Nat.beq n 5000 with
     | true=>exact .inl (Nat.eq_of_beq_eq_true h1)
     | false=>rw [h1] at hb; exact .inr (Nat.eq_of_beq_eq_true hb)
    injection h with h1 h2 h3; subst h1; subst h2; subst h3;obtain ⟨fn,f1,f2,f3⟩:=aSs;refine wU N7 hF bU FZ f1 f2 (aHn n hn me nx) (by intro e; cases e) W xs hf hx hm (fun v' m B4 e g' x w' k1 k2 k3 k4 k5=>?_) (fun v' m B4 e=>by cases e);injection e with e1 e2 e3; subst e1; subst e2; subst e3;have e1:=Pos.bW nx;have e2:=Pos.bW (Pos.succ nx);have e3:=Pos.bW (Pos.succ (Pos.succ nx));refine ⟨g',x,rfl,k1,k2,k3,k4,O0 (by omega) (dW hm hf) (dW hm (hf.mono (by omega))) (dW hm (hf.mono (by omega))) (dW hm (hf.mono (by omega))) k5⟩
  cases h
 unfold LT at h;split at h
 ·rename_i n;cases hb:(bif Nat.beq n 5000 then true else Nat.beq n 65536) with
  | false=>rw [hb] at h; cases h
  | true=>rw [hb] at h; cases h
 ·cases h
end
noncomputable section
theorem T3:Extern.find Tryz.f248=some Extern.BytealgIndexByte.indexByte:=by kernel_rfl
theorem YY:Extern.findNext Tryz.f248=none:=by kernel_rfl
theorem O3 : (Tryz.f248.name == "runtime.NumGoroutine") = false := by kernel_rfl
theorem V5 (args:Array Value) (w:World):(callFunc 248 args).run Tryz.prog w=((Extern.BytealgIndexByte.indexByte args).run Tryz.prog w).andThen fun a w=>.ok (.value a) w:=by
 have hb:Tryz.f248.body.isNone=true:=rfl;simp only [callFunc,Sem.run_bind,run_program,Result.andThen_ok,Tryz.func248,O3,hb,Bool.false_eq_true,if_false,if_true,YY,T3];simp [mark];rfl
theorem YF (s:ByteArray) (c:Int) (W:World):Calls Tryz.prog 213 #[.string s,.int .u8 c] W fun e w'=>e=.returned (.int .i64 (Go.Lib.indexByte s.data.toList c.toNat.toUInt8))∧w'=W:=by
 have h:=Go.Lib.run_indexByteString (P:=Tryz.prog) s c W;refine calls_of_wp Tryz.func213 rfl ?_;apply wp_seq;apply wp_region;simp [wpOps,go_sem,Tryz.ntmps213,Exit.then];refine .inl ?_;apply wp_seq;apply wp_region;simp [wpOps,go_sem,Exit.then,V5,h];refine .inl (.inl (.inl (.inl ?_)));refine wp_ret ?_;simp [bodyPost,results,Tryz.results213]
theorem AO:∀ (m v:Nat),cA (m + 1) v=UInt8.ofNat (v / 256 ^ m % 256)::cA m v
 | 0,v=>by simp [cA]
 | m + 1,v=>by
  have ih:=AO m (v / 256);show cA (m + 1) (v / 256)++[UInt8.ofNat (v % 256)]=_;rw [ih,List.cons_append];congr 2;rw [Nat.div_div_eq_div_mul,Nat.pow_succ,Nat.mul_comm]
def S2 (v c:Nat) (n:Nat):Nat→Int:=Nat.rec (motive:=fun _=>Nat→Int) (fun _=>.negSucc 0) (fun m ih i=>bif Nat.beq (Nat.mod (Nat.div v (Nat.pow 256 m)) 256) c then .ofNat i else ih (Nat.succ i)) n
theorem MM {c:Nat} (hc:c < 256) (v:Nat):∀ (n i:Nat),S2 v c n i=if Go.Lib.indexByte (cA n v) (UInt8.ofNat c)=-1 then -1 else Go.Lib.indexByte (cA n v) (UInt8.ofNat c) + i
 | 0,i=>rfl
 | m + 1,i=>by
  have h1:S2 v c (m + 1) i=bif Nat.beq (Nat.mod (Nat.div v (Nat.pow 256 m)) 256) c then .ofNat i else S2 v c m (Nat.succ i):=rfl;have e:(UInt8.ofNat (v / 256 ^ m % 256) == UInt8.ofNat c)=Nat.beq (Nat.mod (Nat.div v (Nat.pow 256 m)) 256) c:=by
   have hk:v / 256 ^ m % 256 < 256:=Nat.mod_lt _ (by decide);show _=Nat.beq (v / 256 ^ m % 256) c;rw [bN]
   by_cases h:v / 256 ^ m % 256=c
   ·simp [h]
   have:UInt8.ofNat (v / 256 ^ m % 256)≠UInt8.ofNat c:=fun hh=>h (by
    have:=congrArg UInt8.toNat hh;simp at this; omega)
   simp [h,this]
  rw [h1,AO,Go.Lib.indexByte,e];cases hb:Nat.beq (Nat.mod (Nat.div v (Nat.pow 256 m)) 256) c with
  | true=>simp
  | false =>
   simp only [cond_false,Bool.false_eq_true,if_false];rw [MM hc v m (Nat.succ i)];have hge:=Go.Lib.indexByte_ge (cA m v) (UInt8.ofNat c)
   by_cases h2:Go.Lib.indexByte (cA m v) (UInt8.ofNat c)=-1
   ·simp [h2]
   simp only [h2,if_false,beq_iff_eq];rw [if_neg (by omega)]
   push_cast; omega
theorem QS {W0:World}:qY Tryz.prog W0 213 CD:=by
 refine ⟨eN,fun vs me nx v me' nx' h W R g xs hf hx hm=>?_,fun vs me nx v me' nx' h=>?_⟩
 ·unfold CD at h;split at h
  ·rename_i n s c;cases hc:Nat.blt c 256 with
   | false=>rw [hc] at h; cases h
   | true =>
   rw [hc] at h;have hc':c < 256:=Nat.le_of_ble_eq_true hc;injection h with h1 h2 h3; subst h1; subst h2; subst h3;obtain ⟨x,us,d1,d2,rfl⟩:=aK hx;obtain ⟨y,us,d3,d4,rfl⟩:=aK d2;have:us=[]:=by simpa [aF] using d4.symm
   subst this;obtain ⟨hs,rfl⟩:=lK d1;have:=cR d3; subst this;refine Calls.mono (YF (dD n s) (Int.ofNat c) W) (fun e w' ⟨h1,h2⟩=>⟨g,_,h1,G.ext.refl _ _,hf,Nat.le_refl _,?_,h2 ▸ hm⟩);have e1:(dD n s).data.toList=cA n s:=by simp [dD]
   have e2:(Int.ofNat c).toNat.toUInt8=UInt8.ofNat c:=rfl;have e3:=MM hc' s n 0;have e4:aEr n s c=S2 s c n 0:=rfl;rw [e1,e2];have e5:aEr n s c=Go.Lib.indexByte (cA n s) (UInt8.ofNat c):=by
    rw [e4,e3]
    by_cases h2:Go.Lib.indexByte (cA n s) (UInt8.ofNat c)=-1
    ·simp [h2]
    simp [h2]
   rw [← e5]; rfl
  cases h
 unfold CD at h;split at h
 ·rename_i n s c;cases hc:Nat.blt c 256 with
  | false=>rw [hc] at h; cases h
  | true=>rw [hc] at h; cases h
 ·cases h
end
noncomputable section
theorem cU {α:Type}:∀ (p:Pos) (Q:Pos→α→Prop) (t:T α) (x:α),qZ Q t→Q p x→qZ Q (T.put p (some x) t)
 | .h,Q,.e,x,_,h=>⟨fun y hy=>by injection hy with hy; subst hy; exact h,trivial,trivial⟩
 | .h,Q,.n l v r,x,ht,h=>⟨fun y hy=>by injection hy with hy; subst hy; exact h,ht.2.1,ht.2.2⟩
 | .o p,Q,.e,x,_,h=>⟨(fun y hy=>(by cases hy)),cU p (fun p=>Q (.o p)) .e x trivial h,trivial⟩
 | .o p,Q,.n l v r,x,ht,h=>⟨ht.1,cU p (fun p=>Q (.o p)) l x ht.2.1 h,ht.2.2⟩
 | .i p,Q,.e,x,_,h=>⟨(fun y hy=>(by cases hy)),trivial,cU p (fun p=>Q (.i p)) .e x trivial h⟩
 | .i p,Q,.n l v r,x,ht,h=>⟨ht.1,ht.2.1,cU p (fun p=>Q (.i p)) r x ht.2.2 h⟩
def biS:T BI:=T.put p26 (some LF) (T.put I1 (some CG) (T.put eZ (some P7) (T.put aCl (some ML) (T.put p50 (some LT) (T.put aCq (some uV) (T.put aH4 (some CD) .e))))))
theorem ZT {W0:World} (hF:eT.Ok Tryz.prog W0) (bU:Tryz.prog.follows .mixedOrders=true):qZ (fun p b=>qY Tryz.prog W0 (p.nat - 1) b) biS :=
 cU p26 _ _ _ (cU I1 _ _ _ (cU eZ _ _ _ (cU aCl _ _ _ (cU p50 _ _ _ (cU aCq _ _ _ (cU aH4 _ .e _ trivial QS) IQ) (WJ hF bU)) XV) P6) RJ) UP
theorem HX {W0:World} (hF:eT.Ok Tryz.prog W0) (bU:Tryz.prog.follows .mixedOrders=true) (n:Nat):pE Tryz.prog W0 (yC biS n):=oB (ZT hF bU) YR hF bU FZ n
end
noncomputable section
structure Wt where
 m:Nat
 b:Nat→Nat
def pt (bm k:Nat):Value:=.pointer (some ⟨bm,k,none⟩)
def DA (f:Nat):Value:=.func (.func f) #[] #[]
def OH (bm k:Nat):Value:=.agg #[.int .u64 1,.int .u64 4294967296,pt bm k,.pointer none,.pointer none]
def xY (bm k:Nat):Value:=.agg #[.int .u64 1,.int .u64 1048576,.pointer none,pt bm k,.pointer none]
def slc (b n:Nat):Value:=.slice (some ⟨b,0,none⟩) n n
def cN (lo hi:Int) (bm k:Nat):List Value:=[.int .u64 lo,.int .u64 hi,pt bm k,.pointer none,.pointer none]
def cI (lo hi:Int) (bm k:Nat):List Value:=[.int .u64 lo,.int .u64 hi,.pointer none,pt bm k,.pointer none]
def cT (bm k:Nat):List Value:=[.int .u64 0,.int .u64 0,.pointer none,.pointer none,pt bm k]
def c1 (bm k:Nat):List Value:=cN 1 4294967296 bm k
def c2 (bm k:Nat):List Value:=cI 1 1048576 bm k
def yZ (bm om:Nat) (W:Wt):Kn:=[(0,pt bm om),(3,DA 118),(4,DA 119),(6,.map (some W.m)),(7,DA 118),(8,pt bm om),(9,pt bm om),(10,pt bm (om + 1)),(11,OH bm (om + 1)),(12,pt bm om),(13,pt bm om),(14,pt bm (om + 3)),(15,.agg #[.int .u64 0,.int .u64 0,.pointer none,.pointer none,pt bm (om + 3)]),(16,pt bm om),(17,pt bm om),(18,pt bm (om + 4)),(19,.agg #[.int .u64 0,.int .u64 1,.pointer none,pt bm (om + 4),.pointer none]),(20,DA 119),(21,pt bm om),(22,pt bm om),(23,pt bm (om + 6)),(24,xY bm (om + 6)),(25,DA 119),(26,pt bm om),(27,pt bm om),(28,pt bm (om + 7)),(29,xY bm (om + 7)),(30,DA 119),(31,pt bm om),(32,pt bm om),(33,pt bm (om + 8)),(34,xY bm (om + 8)),(35,DA 119),(36,pt bm om),(37,pt bm om),(38,pt bm (om + 9)),(39,xY bm (om + 9)),(40,DA 119),(41,pt bm om),(42,pt bm om),(43,pt bm (om + 10)),(44,xY bm (om + 10)),(45,slc (W.b 1) 8),(46,DA 118),(47,pt bm om),(48,pt bm om),(49,pt bm (om + 1)),(50,OH bm (om + 1)),(51,DA 118),(52,pt bm om),(53,pt bm om),(54,pt bm (om + 2)),(55,OH bm (om + 2)),(56,DA 119),(57,pt bm om),(58,pt bm om),(59,pt bm (om + 6)),(60,xY bm (om + 6)),(61,DA 119),(62,pt bm om),(63,pt bm om),(64,pt bm (om + 8)),(65,xY bm (om + 8)),(66,DA 119),(67,pt bm om),(68,pt bm om),(69,pt bm (om + 9)),(70,xY bm (om + 9)),(71,slc (W.b 2) 5),(72,DA 118),(73,pt bm om),(74,pt bm om),(75,pt bm (om + 2)),(76,OH bm (om + 2)),(77,pt bm om),(78,pt bm om),(79,pt bm (om + 5)),(80,.agg #[.int .u64 1,.int .u64 15,.pointer none,pt bm (om + 5),.pointer none]),(81,slc (W.b 3) 2),(82,DA 118),(83,pt bm om),(84,pt bm om),(85,pt bm (om + 2)),(86,OH bm (om + 2)),(87,pt bm om),(88,pt bm om),(89,pt bm (om + 11)),(90,.agg #[.int .u64 0,.int .u64 1000,pt bm (om + 11),.pointer none,.pointer none]),(91,pt bm om),(92,pt bm om),(93,pt bm (om + 12)),(94,.agg #[.int .u64 0,.int .u64 255,pt bm (om + 12),.pointer none,.pointer none]),(95,DA 119),(96,pt bm om),(97,pt bm om),(98,pt bm (om + 9)),(99,xY bm (om + 9)),(100,slc (W.b 4) 4),(101,.map (some W.m)),(5,.map (some W.m))]
def cV (bm om:Nat) (W:Wt) (d:Nat):Value:=(Proofs.YtadggjnohohedaaGreatDoor.lk (yZ bm om W) d).getD undef
def oG (bm om:Nat):List Value:=c1 bm (om + 1)++(cT bm (om + 3)++(cI 0 1 bm (om + 4)++(c2 bm (om + 6)++(c2 bm (om + 7)++(c2 bm (om + 8)++(c2 bm (om + 9)++(c2 bm (om + 10))))))))
def oF (bm om:Nat):List Value:=c1 bm (om + 1)++(c1 bm (om + 2)++(c2 bm (om + 6)++(c2 bm (om + 8)++(c2 bm (om + 9)))))
def oE (bm om:Nat):List Value:=c1 bm (om + 2)++(cI 1 15 bm (om + 5))
def oD (bm om:Nat):List Value:=c1 bm (om + 2)++(cN 0 1000 bm (om + 11)++(cN 0 255 bm (om + 12)++(c2 bm (om + 9))))
def fM (bm om:Nat) (W:Wt) (aD:List (Int × Value)) (f:Nat→Bool):List aA:=(bif f 0 then [Mp (aC .i64) W.m aD] else [])++((bif f 39 then [Bk (W.b 1) 188 (oG bm om)] else [])++((bif f 66 then [Bk (W.b 2) 188 (oF bm om)] else [])++((bif f 77 then [Bk (W.b 3) 188 (oE bm om)] else [])++((bif f 97 then [Bk (W.b 4) 188 (oD bm om)] else [])))))
def eU (W:Wt) (f:Nat→Bool):List (Int × Value):=(bif f 40 then [((1:Int),slc (W.b 1) 8)] else [])++((bif f 67 then [((2:Int),slc (W.b 2) 5)] else [])++((bif f 78 then [((3:Int),slc (W.b 3) 2)] else [])++((bif f 98 then [((4:Int),slc (W.b 4) 4)] else []))))
def sM (aG:Array Oper) (o:Oper) (t:Nat):Bool:=(Nat.beq t 0 || Nat.beq t 3 || Nat.beq t 4) || o.after.toList.any fun e=>Region.binds .any e && (match aG[e.on]? with
 | some o'=>BY o'.dst t
 | none=>false)
def yV:List Oper→Bool
 | []=>true
 | o::r=>(match o.dst with
  | none=>true
  | some d=>!(r.any fun o'=>BY o'.dst d) && !(Nat.beq d 0 || Nat.beq d 3 || Nat.beq d 4)) && yV r
def yW:List Oper→Nat→Bool
 | [],_=>true
 | o::r,i=>(o.after.toList.all fun e=>!Region.binds .any e || Nat.blt e.on i) && yW r (i + 1)
theorem gD:∀ {l:List Oper} {i j:Nat} {o o':Oper} {d:Nat},yV l=true→l[i]?=some o→l[j]?=some o'→o.dst=some d→o'.dst=some d→i=j
 | [],i,j,o,o',d,_,h,_,_,_=>by simp at h
 | x::r,i,j,o,o',d,hu,hi,hj,hd,hd'=>by
  simp only [yV,Bool.and_eq_true] at hu;obtain ⟨h1,h2⟩:=hu;have key:∀ {k:Nat} {o2:Oper},x.dst=some d→r[k]?=some o2→o2.dst=some d→False:=by
   intro k o2 hx hk h2d;rw [hx] at h1;simp only [Bool.and_eq_true,Bool.not_eq_true'] at h1;have:=h1.1;rw [List.any_eq_false] at this;exact this _ (List.mem_of_getElem? hk) (jJ.2 h2d)
  cases i with
  | zero =>
   simp at hi; subst hi;cases j with
   | zero=>rfl
   | succ j=>exact (key hd (by simpa using hj) hd').elim
  | succ i =>
   cases j with
   | zero=>simp at hj; subst hj; exact (key hd' (by simpa using hi) hd).elim
   | succ j=>exact congrArg (· + 1) (gD h2 (show r[i]?=some o by simpa using hi) (show r[j]?=some o' by simpa using hj) hd hd')
theorem vH:∀ {l:List Oper} {i:Nat} {o:Oper} {d:Nat},yV l=true→l[i]?=some o→o.dst=some d→¬ (d=0∨d=3∨d=4)
 | [],i,o,d,_,h,_=>by simp at h
 | x::r,i,o,d,hu,hi,hd=>by
  simp only [yV,Bool.and_eq_true] at hu;cases i with
  | zero =>
   simp at hi; subst hi;have:=hu.1;rw [hd] at this;simp only [Bool.and_eq_true,Bool.not_eq_true',Bool.or_eq_false_iff] at this;rintro (rfl | rfl | rfl)
   ·exact absurd this.2.1.1 (by decide)
   ·exact absurd this.2.1.2 (by decide)
   exact absurd this.2.2 (by decide)
  | succ i=>exact vH hu.2 (by simpa using hi) hd
theorem vI:∀ {l:List Oper} {k i:Nat} {o:Oper},yW l k=true→l[i]?=some o→∀ e∈o.after.toList,Region.binds .any e=true→e.on < k + i
 | [],k,i,o,_,h,_,_,_=>by simp at h
 | x::r,k,i,o,hu,hi,e,he,hb=>by
  simp only [yW,Bool.and_eq_true] at hu;cases i with
  | zero =>
   simp at hi; subst hi;have:=List.all_eq_true.1 hu.1 e he;rw [hb] at this;have:=mI (show Nat.blt e.on k=true by simpa using this);omega
  | succ i=>have:=vI hu.2 (by simpa using hi) e he hb; omega
theorem nX {P:Program} {aG:Array Oper} {Q:Exit→Act→World→Prop} {I:Array Bool→Act→World→Prop} (hsz:∀ l a w,I l a w→l.size=aG.size)
  (hstep:∀ l a w i,I l a w→i∈Region.ready .any aG l→wpOp P aG Q i (fun a' w'=>I (l.setIfInBounds i true) a' w') a w) (hdone:∀ l a w,I l a w→Region.ready .any aG l=[]→Q .normal a w) :
  ∀ (fuel:Nat) (l:Array Bool) (a:Act) (w:World),I l a w→left l aG.size≤fuel→wpAny P .any aG Q fuel l a w
 | 0,l,a,w,h,hf=>by
  have hr:Region.ready .any aG l=[]:=List.eq_nil_iff_forall_not_mem.2 (fun i hi=>by
   obtain ⟨o,r⟩:=cJ (hsz _ _ _ h) hi;exact r.not (rU (n:=aG.size) (by omega) r.lt))
  exact ⟨hr,hdone l a w h hr⟩
 | fuel + 1,l,a,w,h,hf=>by
  refine ⟨fun hr=>hdone l a w h hr,fun i hi=>?_⟩;obtain ⟨o,r⟩:=cJ (hsz _ _ _ h) hi;have hl:=EY (hsz _ _ _ h) r.lt r.not;exact wpOp_mono (fun a' w' h'=>nX hsz hstep hdone fuel _ a' w' h' (by omega)) (hstep l a w i h hi)
theorem qU {aG:Array Oper} {listed:Array Bool} (hs:listed.size=aG.size) (ht:yW aG.toList 0=true) (hr:Region.ready .any aG listed=[]):∀ i,i < aG.size→gA listed i:=by
 intro i;induction i using Nat.strongRecOn with
 | ind i ih =>
  intro hi;rcases Classical.em (gA listed i) with h | h
  ·exact h
  exfalso;have ho:aG[i]?=some aG[i]:=by simp [hi]
  have:i∈Region.ready .any aG listed:=mem_ready.2 ⟨?_,aG[i],ho,fun e he hb=>?_⟩
  ·rw [hr] at this; cases this
  ·unfold gA at h;have hi':i < listed.size:=by omega
   simp [hi'] at h ⊢;exact h
  have:=vI ht (show aG.toList[i]?=some aG[i] by simp) e (by simpa using he) hb;exact ih e.on (by omega) (by omega)
structure tB (aG:Array Oper):Prop where
 uq:yV aG.toList=true
 tp:yW aG.toList 0=true
 sz:aG.size=101
structure jP (aG:Array Oper) (bm om:Nat) (W0:World) (R:List aA) (ds:List Deferred) (listed:Array Bool) (a:Act) (w:World):Prop where
 fS:listed.size=aG.size
 cls:Closed aG listed
 OL:a.tmps.size=108
 HE:a.defers=ds
 st:∃ (W:Wt) (aD:List (Int × Value)),aD.Perm (eU W fun j=>listed.getD j false)∧(∀ t,(t=0∨t=3∨t=4)→a.tmps[t]?=some (cV bm om W t)) ∧
  (∀ i o d,aG[i]?=some o→gA listed i→o.dst=some d→a.tmps[d]?=some (cV bm om W d))∧aB W0 w (fM bm om W aD (fun j=>listed.getD j false)++R)
section
variable {aG:Array Oper} {bm om:Nat} {W0 w:World} {R:List aA} {ds:List Deferred} {listed:Array Bool} {a:Act} {Q:Exit→Act→World→Prop} {i d:Nat} {o:Oper}
theorem gS {W:Wt} (hB:∀ t,(t=0∨t=3∨t=4)→a.tmps[t]?=some (cV bm om W t)) (hV:∀ i o d,aG[i]?=some o→gA listed i→o.dst=some d→a.tmps[d]?=some (cV bm om W d))
  (hr:i∈Region.ready .any aG listed) (hs:listed.size=aG.size) (ho:aG[i]?=some o) {t:Nat} (ht:sM aG o t=true):a.tmps[t]?=some (cV bm om W t):=by
 obtain ⟨o',r⟩:=cJ hs hr;obtain rfl:o'=o:=by have:=r.op; rw [ho] at this; exact (Option.some.inj this).symm
 unfold sM at ht;rw [Bool.or_eq_true] at ht;rcases ht with h | h
 ·refine hB t ?_;simp only [Bool.or_eq_true] at h;rcases h with (h | h) | h <;> simp [Nat.eq_of_beq_eq_true h]
 obtain ⟨e,he,hh⟩:=List.any_eq_true.1 h;simp only [Bool.and_eq_true] at hh;obtain ⟨hb,hd⟩:=hh;cases ho':aG[e.on]? with
 | none=>rw [ho'] at hd; cases hd
 | some o2=>rw [ho'] at hd; exact hV _ _ _ ho' (r.src e he hb) (jJ.1 hd)
theorem mD {W:Wt} {ks:List Nat} (h:∀ t∈ks,a.tmps[t]?=some (cV bm om W t)):Ev (ks.map fun t=>(t,cV bm om W t)) a.eval:=by
 intro x v hx;cases x with
 | tmp t =>
  have hx':Proofs.YtadggjnohohedaaGreatDoor.lk (ks.map fun t=>(t,cV bm om W t)) t=some v:=hx;have key:a.tmps[t]?=some v:=by
   induction ks with
   | nil=>cases hx'
   | cons k r ih =>
    simp only [List.map_cons,Proofs.YtadggjnohohedaaGreatDoor.lk] at hx';cases hb:Nat.beq k t with
    | true =>
     rw [hb] at hx'; simp only [cond_true,Option.some.injEq] at hx';have:=Nat.eq_of_beq_eq_true hb; subst this; subst hx';exact h k (by simp)
    | false=>rw [hb] at hx'; exact ih (fun t ht=>h t (List.mem_cons_of_mem _ ht)) (by simpa [Proofs.YtadggjnohohedaaGreatDoor.ev] using hx') hx'
  simp [Act.eval,Array.getD_eq_getD_getElem?,key]
 | const u=>simpa [Proofs.YtadggjnohohedaaGreatDoor.ev,Act.eval] using hx
 | global g=>simpa [Proofs.YtadggjnohohedaaGreatDoor.ev,Act.eval] using hx
 | func f=>simpa [Proofs.YtadggjnohohedaaGreatDoor.ev,Act.eval] using hx
theorem UN {v:Value} (hs:a.tmps.size=108) (hd:d < 108) (t:Nat):(a.put (some d) v).tmps[t]?=if t=d then some v else a.tmps[t]?:=by
 by_cases h:t=d
 ·subst h; simp [Act.put,hs,hd]
 rw [if_neg h]; simp only [Act.put]; rw [Array.getElem?_setIfInBounds_ne (fun e=>h e.symm)]
theorem GB {W0 w:World}:∀ {L:List aA},aB W0 w L→aB W0 w []
 | [],h=>h
 | _::_,h=>GB h.tail
theorem oL {W W':Wt} {aD:List (Int × Value)} {w':World} (hok:tB aG) (h:jP aG bm om W0 R ds listed a w) (hr:i∈Region.ready .any aG listed) (ho:aG[i]?=some o) (hd:o.dst=some d) (hl:d < 108)
  (hB:∀ t,(t=0∨t=3∨t=4)→a.tmps[t]?=some (cV bm om W t)) (hV:∀ i o d,aG[i]?=some o→gA listed i→o.dst=some d→a.tmps[d]?=some (cV bm om W d))
  (hB':∀ t,(t=0∨t=3∨t=4)→cV bm om W' t=cV bm om W t) (hV':∀ i' o' d',aG[i']?=some o'→gA listed i'→o'.dst=some d'→cV bm om W' d'=cV bm om W d')
  (hk:aD.Perm (eU W' fun j=>(listed.setIfInBounds i true).getD j false)) (hs:aB W0 w' (fM bm om W' aD (fun j=>(listed.setIfInBounds i true).getD j false)++R)) :
  jP aG bm om W0 R ds (listed.setIfInBounds i true) (a.put (some d) (cV bm om W' d)) w':=by
 obtain ⟨o2,r⟩:=cJ h.fS hr;obtain rfl:o2=o:=by have:=r.op; rw [ho] at this; exact (Option.some.inj this).symm
 have hi:i < listed.size:=by rw [h.fS]; exact r.lt
 have ho':aG.toList[i]?=some o2:=by simpa using ho
 refine ⟨by simp [h.fS],h.cls.set hr,by simp [Act.put,h.OL],h.HE,W',aD,hk,fun t ht=>?_,fun j o' d' hj hl' hd'=>?_,hs⟩
 ·rw [UN h.OL hl,if_neg (fun e:t=d=>vH hok.uq ho' hd (e ▸ ht)),hB' t ht]; exact hB t ht
 rw [UN h.OL hl];have hj':aG.toList[j]?=some o':=by simpa using hj
 by_cases e:d'=d
 ·rw [if_pos e,e]
 rw [if_neg e];rcases (bZ hi).1 hl' with rfl | hl'
 ·rw [ho] at hj; obtain rfl:=Option.some.inj hj; rw [hd] at hd'; exact (e (Option.some.inj hd').symm).elim
 rw [hV' j o' d' hj hl' hd']; exact hV j o' d' hj hl' hd'
def fxB (i:Nat):Bool:=[0,39,66,77,97,40,67,78,98].all fun j=>!Nat.beq j i
theorem iE (h:fxB i=true) {j:Nat} (hj:j∈[0,39,66,77,97,40,67,78,98]):(listed.setIfInBounds i true).getD j false=listed.getD j false:=by
 have:=List.all_eq_true.1 h j hj;refine getD_set_ne false (fun e=>?_);subst e; simp at this
theorem KV (h:fxB i=true) (W:Wt) (aD:List (Int × Value)):fM bm om W aD (fun j=>(listed.setIfInBounds i true).getD j false)=fM bm om W aD (fun j=>listed.getD j false):=by
 unfold fM; simp only [iE h (j:=0) (by decide),iE h (j:=39) (by decide),iE h (j:=66) (by decide),iE h (j:=77) (by decide),iE h (j:=97) (by decide)]
theorem NB (h:fxB i=true) (W:Wt):eU W (fun j=>(listed.setIfInBounds i true).getD j false)=eU W (fun j=>listed.getD j false):=by
 unfold eU; simp only [iE h (j:=40) (by decide),iE h (j:=67) (by decide),iE h (j:=78) (by decide),iE h (j:=98) (by decide)]
theorem aHk (hok:tB aG) (ho:aG[i]?=some o) (hd:o.dst=some d) (hg:o.guard=none) (ks:List Nat) (hks:ks.all (sM aG o)=true) (hl:Nat.blt d 108=true) (hfx:fxB i=true)
  (hx:∀ W,EX Tryz.prog W0 (ks.map fun t=>(t,cV bm om W t)) [] o (cV bm om W d)) (h:jP aG bm om W0 R ds listed a w) (hr:i∈Region.ready .any aG listed) :
  wpOp Tryz.prog aG Q i (fun a' w'=>jP aG bm om W0 R ds (listed.setIfInBounds i true) a' w') a w:=by
 obtain ⟨W,aD,hk,hB,hV,hs⟩:=h.st;have hev:=mD (a:=a) (W:=W) (ks:=ks) (fun t ht=>gS hB hV hr h.fS ho (List.all_eq_true.1 hks t ht));unfold wpOp;simp only [ho,aU hg,if_true];refine .inl (gC (hx W a.eval w hev (GB hs)) ?_);rw [hd];exact oL (aD:=aD) (W:=W) (W':=W) hok h hr ho hd (mI hl) hB hV (fun _ _=>rfl) (fun _ _ _ _ _ _=>rfl) (by rw [NB hfx]; exact hk) (by rw [KV hfx]; exact hs)
end
end
noncomputable section
theorem VF {α:Type} {x:α} (a c:List α) (r:List α):(x::(a++(c++r))).Perm (a++([x]++(c++r))):=(List.perm_middle (l₁:=a) (a:=x) (l₂:=c++r)).symm
theorem VE {α:Type} {x:α} (a b c:List α) (r:List α):(x::(a++(b++(c++r)))).Perm (a++(b++([x]++(c++r)))):=by
 have:=(List.perm_middle (l₁:=a++b) (a:=x) (l₂:=c++r)).symm;simpa [List.append_assoc] using this
theorem VD {α:Type} {x:α} (a b c d:List α) (r:List α):(x::(a++(b++(c++(d++r))))).Perm (a++(b++(c++([x]++(d++r))))):=by
 have:=(List.perm_middle (l₁:=a++(b++c)) (a:=x) (l₂:=d++r)).symm;simpa [List.append_assoc] using this
theorem VC {α:Type} {x:α} (a b c d:List α) (r:List α):(x::(a++(b++(c++(d++r))))).Perm (a++(b++(c++(d++([x]++r))))):=by
 have:=(List.perm_middle (l₁:=a++(b++(c++d))) (a:=x) (l₂:=r)).symm;simpa [List.append_assoc] using this
theorem pI1 {α:Type} (b c d:List α) {x:α}:(b++(c++(d++[x]))).Perm ([x]++(b++(c++d))):=by
 have:=(List.perm_append_comm (l₁:=b++(c++d)) (l₂:=[x]));simpa [List.append_assoc] using this
theorem pI2 {α:Type} (a c d:List α) {x:α}:(a++(c++(d++[x]))).Perm (a++([x]++(c++d))):=by
 refine List.Perm.append_left a ?_;have:=(List.perm_append_comm (l₁:=c++d) (l₂:=[x]));simpa [List.append_assoc] using this
theorem pI3 {α:Type} (a b d:List α) {x:α}:(a++(b++(d++[x]))).Perm (a++(b++([x]++d))):=List.Perm.append_left a (List.Perm.append_left b (List.perm_append_comm (l₁:=d) (l₂:=[x])))
def agree (S:List Nat):Kn→Kn→Prop
 | [],[]=>True
 | (k,v)::r,(k',v')::r'=>k=k'∧(v=v'∨k∈S)∧agree S r r'
 | _,_=>False
theorem kB {S:List Nat} {d:Nat} (hd:d∉S):∀ {A B:Kn},agree S A B→Proofs.YtadggjnohohedaaGreatDoor.lk A d=Proofs.YtadggjnohohedaaGreatDoor.lk B d
 | [],[],_=>rfl
 | (k,v)::r,(k',v')::r',⟨h1,h2,h3⟩=>by
  subst h1;simp only [Proofs.YtadggjnohohedaaGreatDoor.lk];cases hb:Nat.beq k d with
  | true =>
   have:=Nat.eq_of_beq_eq_true hb; subst this;rcases h2 with rfl | h2
   ·rfl
   exact (hd h2).elim
  | false=>exact kB hd h3
 | [],_::_,h=>h.elim
 | _::_,[],h=>h.elim
section
variable {aG:Array Oper} {bm om:Nat} {W0 w:World} {R:List aA} {ds:List Deferred} {listed:Array Bool} {a:Act} {Q:Exit→Act→World→Prop} {i d:Nat} {o:Oper}
theorem aLk (W:Wt) (x:Nat) (h:d∉[6,101,5]):cV bm om { W with m:=x } d=cV bm om W d:=by
 unfold cV;rw [kB h];simp [agree,yZ]
def Wt.iB (W:Wt) (e x:Nat):Wt:={ W with b:=fun k=>if k=e then x else W.b k }
theorem aAo (W:Wt) (x:Nat) (h:d∉[45]):cV bm om (W.iB 1 x) d=cV bm om W d:=by
 unfold cV;rw [kB h];simp [agree,yZ,Wt.iB]
theorem aAn (W:Wt) (x:Nat) (h:d∉[71]):cV bm om (W.iB 2 x) d=cV bm om W d:=by
 unfold cV;rw [kB h];simp [agree,yZ,Wt.iB]
theorem aAm (W:Wt) (x:Nat) (h:d∉[81]):cV bm om (W.iB 3 x) d=cV bm om W d:=by
 unfold cV;rw [kB h];simp [agree,yZ,Wt.iB]
theorem aAl (W:Wt) (x:Nat) (h:d∉[100]):cV bm om (W.iB 4 x) d=cV bm om W d:=by
 unfold cV;rw [kB h];simp [agree,yZ,Wt.iB]
theorem cQ (h:Closed aG listed) {j k:Nat} {o:Oper} (ho:aG[j]?=some o) (he:(o.after.toList.any fun e=>Region.binds .any e && Nat.beq e.on k)=true) (hj:gA listed j):gA listed k:=by
 obtain ⟨e,h1,h2⟩:=List.any_eq_true.1 he;simp only [Bool.and_eq_true] at h2;have:=h j o ho hj e (by simpa using h1) h2.1
 rwa [Nat.eq_of_beq_eq_true h2.2] at this
theorem iW (hok:tB aG) (ho:aG[i]?=some o) (hd:o.dst=some d) (hg:o.guard=none) (ks:List Nat) (hks:ks.all (sM aG o)=true) (hl:Nat.blt d 108=true) (hfx:fxB i=true) {f:FuncId} {args:List Value}
  (hx:∀ W,EC Tryz.prog (ks.map fun t=>(t,cV bm om W t)) o f args) (hc:∀ W w L,aB W0 w L→Calls Tryz.prog f args.toArray w fun e w'=>e=.returned (cV bm om W d)∧aB W0 w' L) (h:jP aG bm om W0 R ds listed a w) (hr:i∈Region.ready .any aG listed) :
  wpOp Tryz.prog aG Q i (fun a' w'=>jP aG bm om W0 R ds (listed.setIfInBounds i true) a' w') a w:=by
 obtain ⟨W,aD,hk,hB,hV,hs⟩:=h.st;have hev:=mD (a:=a) (W:=W) (ks:=ks) (fun t ht=>gS hB hV hr h.fS ho (List.all_eq_true.1 hks t ht));unfold wpOp;simp only [ho,aU hg,if_true];refine .inl ?_;simp only [Oper.wp,hx W a.eval w hev,Oper.upon];refine (hc W w _ hs).mono ?_;rintro e w' ⟨rfl,hs'⟩;show jP aG bm om W0 R ds (listed.setIfInBounds i true) (a.put o.dst (cV bm om W d)) w';rw [hd];exact oL (aD:=aD) (W:=W) (W':=W) hok h hr ho hd (mI hl) hB hV (fun _ _=>rfl) (fun _ _ _ _ _ _=>rfl) (by rw [NB hfx]; exact hk) (by rw [KV hfx]; exact hs')
theorem bJ {j:Nat} (h:¬ gA listed j):listed.getD j false=false:=by
 cases hb:listed.getD j false with
 | false=>rfl
 | true=>exact (h hb).elim
theorem eM (hi:i < listed.size):(listed.setIfInBounds i true).getD i false=true:=by simp [hi]
theorem kW {W:Wt} (hr:i∈Region.ready .any aG listed) (hs:listed.size=aG.size):¬ gA listed i∧i < listed.size:=by
 obtain ⟨o,r⟩:=cJ hs hr;exact ⟨r.not,by rw [hs]; exact r.lt⟩
theorem stepM (hok:tB aG) {T ty pos af} (ho:aG[0]?=some ⟨some 6,.makeMap T none,ty,pos,af,none⟩) {o1 o2:Oper} (h1:aG[99]?=some o1) (hd1:o1.dst=some 101) (he1:(o1.after.toList.any fun e=>Region.binds .any e && Nat.beq e.on 0)=true)
  (h2:aG[100]?=some o2) (hd2:o2.dst=some 5) (he2:(o2.after.toList.any fun e=>Region.binds .any e && Nat.beq e.on 99)=true)
  {oi1:Oper} (hI1:aG[40]?=some oi1) (hE1:(oi1.after.toList.any fun e=>Region.binds .any e && Nat.beq e.on 0)=true) {oi2:Oper} (hI2:aG[67]?=some oi2) (hE2:(oi2.after.toList.any fun e=>Region.binds .any e && Nat.beq e.on 0)=true) {oi3:Oper} (hI3:aG[78]?=some oi3) (hE3:(oi3.after.toList.any fun e=>Region.binds .any e && Nat.beq e.on 0)=true) {oi4:Oper} (hI4:aG[98]?=some oi4) (hE4:(oi4.after.toList.any fun e=>Region.binds .any e && Nat.beq e.on 0)=true) (h:jP aG bm om W0 R ds listed a w) (hr:0∈Region.ready .any aG listed) :
  wpOp Tryz.prog aG Q 0 (fun a' w'=>jP aG bm om W0 R ds (listed.setIfInBounds 0 true) a' w') a w:=by
 obtain ⟨W,aD,hk,hB,hV,hs⟩:=h.st;obtain ⟨hn,hi⟩:=kW (W:=W) hr h.fS;have g0:=bJ hn;have hm:∀ (i':Nat) (o':Oper) (d':Nat),aG[i']?=some o'→gA listed i'→o'.dst=some d'→d'∉[6,101,5]:=by
  intro i' o' d' hi' hl' hd' hmem;have q:=fun {j:Nat} {oj:Oper} (hj:aG[j]?=some oj) (hdj:oj.dst=some d')=>gD hok.uq (show aG.toList[i']?=some o' by simpa using hi') (show aG.toList[j]?=some oj by simpa using hj) hd' hdj;simp only [List.mem_cons,List.not_mem_nil,or_false] at hmem;rcases hmem with rfl | rfl | rfl
  ·have:=q ho rfl; subst this; exact hn hl'
  ·have:=q h1 hd1; subst this; exact hn (cQ h.cls h1 he1 hl')
  have:=q h2 hd2; subst this; exact hn (cQ h.cls h1 he1 (cQ h.cls h2 he2 hl'))
 unfold wpOp;simp only [ho,aU (o:=⟨some 6,.makeMap T none,ty,pos,af,none⟩) rfl,if_true];obtain ⟨x,w',_,hrun,hs'⟩:=EF.makeMap (P:=Tryz.prog) (aC .i64) (kn:=[]) (d:=some 6) (T:=T) (ty:=ty) (pos:=pos) (af:=af) (g:=none) a.eval w (mD (bm:=bm) (om:=om) (W:=W) (ks:=[]) (fun t ht=>by cases ht)) hs;refine .inl (gC hrun ?_);show jP aG bm om W0 R ds (listed.setIfInBounds 0 true) (a.put (some 6) (cV bm om { W with m:=x } 6)) w';have ek:∀ j∈[39,66,77,97,40,67,78,98],(listed.setIfInBounds 0 true).getD j false=listed.getD j false:=fun j hj=>getD_set_ne false (fun e=>by subst e; simp at hj);have fI:∀ k ok,aG[k]?=some ok→(ok.after.toList.any fun e=>Region.binds .any e && Nat.beq e.on 0)=true→listed.getD k false=false:=fun k ok hk he=>bJ fun hl=>hn (cQ h.cls hk he hl);have hes:eU W (fun j=>listed.getD j false)=[]:=by
  unfold eU; simp only [fI 40 _ hI1 hE1,fI 67 _ hI2 hE2,fI 78 _ hI3 hE3,fI 98 _ hI4 hE4,cond_false,List.append_nil]
 have hkv:aD=[]:=by rw [hes] at hk; exact List.Perm.eq_nil hk
 subst hkv;refine oL (aD:=[]) (W:=W) (W':={ W with m:=x }) hok h hr ho rfl (by decide) hB hV (fun t ht=>aLk W x (by rcases ht with rfl | rfl | rfl <;> decide)) (fun i' o' d' a1 a2 a3=>aLk W x (hm i' o' d' a1 a2 a3)) ?_ ?_
 ·have:eU { W with m:=x } (fun j=>(listed.setIfInBounds 0 true).getD j false)=[]:=by
   unfold eU; simp only [ek 40 (by decide),fI 40 _ hI1 hE1,ek 67 (by decide),fI 67 _ hI2 hE2,ek 78 (by decide),fI 78 _ hI3 hE3,ek 98 (by decide),fI 98 _ hI4 hE4,cond_false,List.append_nil]
  rw [this]
 have t1:fM bm om { W with m:=x } [] (fun j=>(listed.setIfInBounds 0 true).getD j false)=Mp (aC .i64) x []::fM bm om W [] (fun j=>listed.getD j false):=by
  unfold fM; simp only [eM hi,g0,cond_true,cond_false,List.nil_append,List.singleton_append,ek 39 (by decide),ek 66 (by decide),ek 77 (by decide),ek 97 (by decide)]
 rw [t1]; exact hs'
theorem aBn (hok:tB aG) {T ty pos af zero} {ps:List (Nat × Operand)} {vs:Wt→List (Nat × Value)} (ho:aG[39]?=some ⟨some 45,.buildSlice T 8 ps.toArray,ty,pos,af,none⟩) (ks:List Nat) (hks:ks.all (sM aG ⟨some 45,.buildSlice T 8 ps.toArray,ty,pos,af,none⟩)=true)
  (hp:∀ W,NA (ks.map fun t=>(t,cV bm om W t)) ps=some (vs W)) (hb:BS Tryz.prog T 188 5 zero) (hf:∀ W,lI (fun i=>some (i * 5,5)) (zeros zero 8) (vs W)=some (oG bm om))
  {oi:Oper} (hI:aG[40]?=some oi) (hE:(oi.after.toList.any fun e=>Region.binds .any e && Nat.beq e.on 39)=true) (h:jP aG bm om W0 R ds listed a w) (hr:39∈Region.ready .any aG listed) :
  wpOp Tryz.prog aG Q 39 (fun a' w'=>jP aG bm om W0 R ds (listed.setIfInBounds 39 true) a' w') a w:=by
 obtain ⟨W,aD,hk,hB,hV,hs⟩:=h.st;obtain ⟨hn,hi⟩:=kW (W:=W) hr h.fS;have g0:=bJ hn;have gI:listed.getD 40 false=false:=bJ fun hl=>hn (cQ h.cls hI hE hl);have hm:∀ (i':Nat) (o':Oper) (d':Nat),aG[i']?=some o'→gA listed i'→o'.dst=some d'→d'∉[45]:=by
  intro i' o' d' hi' hl' hd' hmem;simp only [List.mem_cons,List.not_mem_nil,or_false] at hmem;subst hmem;have:=gD hok.uq (show aG.toList[i']?=some o' by simpa using hi') (show aG.toList[39]?=some _ by simpa using ho) hd' rfl;subst this; exact hn hl'
 have hev:=mD (a:=a) (W:=W) (ks:=ks) (fun t ht=>gS hB hV hr h.fS ho (List.all_eq_true.1 hks t ht));unfold wpOp;simp only [ho,aU (o:=⟨some 45,.buildSlice T 8 ps.toArray,ty,pos,af,none⟩) rfl,if_true];obtain ⟨x,w',_,hrun,hs'⟩:=EF.buildSlice (P:=Tryz.prog) (W0:=W0) (d:=some 45) (T:=T) (ty:=ty) (pos:=pos) (af:=af) (g:=none) (hp W) hb (n:=8) (by decide) (by decide) (hf W) a.eval w hev hs;refine .inl (gC hrun ?_);show jP aG bm om W0 R ds (listed.setIfInBounds 39 true) (a.put (some 45) (cV bm om (W.iB 1 x) 45)) w';have ek:∀ j∈[0,66,77,97,40,67,78,98],(listed.setIfInBounds 39 true).getD j false=listed.getD j false:=fun j hj=>getD_set_ne false (fun e=>by subst e; simp at hj);refine oL (aD:=aD) (W:=W) (W':=W.iB 1 x) hok h hr ho rfl (by decide) hB hV (fun t ht=>aAo W x (by rcases ht with rfl | rfl | rfl <;> decide)) (fun i' o' d' a1 a2 a3=>aAo W x (hm i' o' d' a1 a2 a3)) ?_ ?_
 ·have:eU (W.iB 1 x) (fun j=>(listed.setIfInBounds 39 true).getD j false)=eU W (fun j=>listed.getD j false):=by
   unfold eU; simp only [ek 40 (by decide),ek 67 (by decide),ek 78 (by decide),ek 98 (by decide),gI,cond_false]; rfl
  rw [this]; exact hk
 refine aB.perm hs' ?_;have t1:(fM bm om (W.iB 1 x) aD (fun j=>(listed.setIfInBounds 39 true).getD j false))=(fM bm om W aD (fun j=>listed.getD j false)++[])∨True:=.inr trivial;unfold fM;simp only [eM hi,g0,cond_true,cond_false,List.nil_append,ek 0 (by decide),ek 66 (by decide),ek 77 (by decide),ek 97 (by decide)];show (Bk x 188 (oG bm om)::_).Perm _;simp only [List.append_assoc];exact VF _ _ _
theorem aBm (hok:tB aG) {T ty pos af zero} {ps:List (Nat × Operand)} {vs:Wt→List (Nat × Value)} (ho:aG[66]?=some ⟨some 71,.buildSlice T 5 ps.toArray,ty,pos,af,none⟩) (ks:List Nat) (hks:ks.all (sM aG ⟨some 71,.buildSlice T 5 ps.toArray,ty,pos,af,none⟩)=true)
  (hp:∀ W,NA (ks.map fun t=>(t,cV bm om W t)) ps=some (vs W)) (hb:BS Tryz.prog T 188 5 zero) (hf:∀ W,lI (fun i=>some (i * 5,5)) (zeros zero 5) (vs W)=some (oF bm om))
  {oi:Oper} (hI:aG[67]?=some oi) (hE:(oi.after.toList.any fun e=>Region.binds .any e && Nat.beq e.on 66)=true) (h:jP aG bm om W0 R ds listed a w) (hr:66∈Region.ready .any aG listed) :
  wpOp Tryz.prog aG Q 66 (fun a' w'=>jP aG bm om W0 R ds (listed.setIfInBounds 66 true) a' w') a w:=by
 obtain ⟨W,aD,hk,hB,hV,hs⟩:=h.st;obtain ⟨hn,hi⟩:=kW (W:=W) hr h.fS;have g0:=bJ hn;have gI:listed.getD 67 false=false:=bJ fun hl=>hn (cQ h.cls hI hE hl);have hm:∀ (i':Nat) (o':Oper) (d':Nat),aG[i']?=some o'→gA listed i'→o'.dst=some d'→d'∉[71]:=by
  intro i' o' d' hi' hl' hd' hmem;simp only [List.mem_cons,List.not_mem_nil,or_false] at hmem;subst hmem;have:=gD hok.uq (show aG.toList[i']?=some o' by simpa using hi') (show aG.toList[66]?=some _ by simpa using ho) hd' rfl;subst this; exact hn hl'
 have hev:=mD (a:=a) (W:=W) (ks:=ks) (fun t ht=>gS hB hV hr h.fS ho (List.all_eq_true.1 hks t ht));unfold wpOp;simp only [ho,aU (o:=⟨some 71,.buildSlice T 5 ps.toArray,ty,pos,af,none⟩) rfl,if_true];obtain ⟨x,w',_,hrun,hs'⟩:=EF.buildSlice (P:=Tryz.prog) (W0:=W0) (d:=some 71) (T:=T) (ty:=ty) (pos:=pos) (af:=af) (g:=none) (hp W) hb (n:=5) (by decide) (by decide) (hf W) a.eval w hev hs;refine .inl (gC hrun ?_);show jP aG bm om W0 R ds (listed.setIfInBounds 66 true) (a.put (some 71) (cV bm om (W.iB 2 x) 71)) w';have ek:∀ j∈[0,39,77,97,40,67,78,98],(listed.setIfInBounds 66 true).getD j false=listed.getD j false:=fun j hj=>getD_set_ne false (fun e=>by subst e; simp at hj);refine oL (aD:=aD) (W:=W) (W':=W.iB 2 x) hok h hr ho rfl (by decide) hB hV (fun t ht=>aAn W x (by rcases ht with rfl | rfl | rfl <;> decide)) (fun i' o' d' a1 a2 a3=>aAn W x (hm i' o' d' a1 a2 a3)) ?_ ?_
 ·have:eU (W.iB 2 x) (fun j=>(listed.setIfInBounds 66 true).getD j false)=eU W (fun j=>listed.getD j false):=by
   unfold eU; simp only [ek 40 (by decide),ek 67 (by decide),ek 78 (by decide),ek 98 (by decide),gI,cond_false]; rfl
  rw [this]; exact hk
 refine aB.perm hs' ?_;have t1:(fM bm om (W.iB 2 x) aD (fun j=>(listed.setIfInBounds 66 true).getD j false))=(fM bm om W aD (fun j=>listed.getD j false)++[])∨True:=.inr trivial;unfold fM;simp only [eM hi,g0,cond_true,cond_false,List.nil_append,ek 0 (by decide),ek 39 (by decide),ek 77 (by decide),ek 97 (by decide)];show (Bk x 188 (oF bm om)::_).Perm _;simp only [List.append_assoc];exact VE _ _ _ _
theorem aBl (hok:tB aG) {T ty pos af zero} {ps:List (Nat × Operand)} {vs:Wt→List (Nat × Value)} (ho:aG[77]?=some ⟨some 81,.buildSlice T 2 ps.toArray,ty,pos,af,none⟩) (ks:List Nat) (hks:ks.all (sM aG ⟨some 81,.buildSlice T 2 ps.toArray,ty,pos,af,none⟩)=true)
  (hp:∀ W,NA (ks.map fun t=>(t,cV bm om W t)) ps=some (vs W)) (hb:BS Tryz.prog T 188 5 zero) (hf:∀ W,lI (fun i=>some (i * 5,5)) (zeros zero 2) (vs W)=some (oE bm om))
  {oi:Oper} (hI:aG[78]?=some oi) (hE:(oi.after.toList.any fun e=>Region.binds .any e && Nat.beq e.on 77)=true) (h:jP aG bm om W0 R ds listed a w) (hr:77∈Region.ready .any aG listed) :
  wpOp Tryz.prog aG Q 77 (fun a' w'=>jP aG bm om W0 R ds (listed.setIfInBounds 77 true) a' w') a w:=by
 obtain ⟨W,aD,hk,hB,hV,hs⟩:=h.st;obtain ⟨hn,hi⟩:=kW (W:=W) hr h.fS;have g0:=bJ hn;have gI:listed.getD 78 false=false:=bJ fun hl=>hn (cQ h.cls hI hE hl);have hm:∀ (i':Nat) (o':Oper) (d':Nat),aG[i']?=some o'→gA listed i'→o'.dst=some d'→d'∉[81]:=by
  intro i' o' d' hi' hl' hd' hmem;simp only [List.mem_cons,List.not_mem_nil,or_false] at hmem;subst hmem;have:=gD hok.uq (show aG.toList[i']?=some o' by simpa using hi') (show aG.toList[77]?=some _ by simpa using ho) hd' rfl;subst this; exact hn hl'
 have hev:=mD (a:=a) (W:=W) (ks:=ks) (fun t ht=>gS hB hV hr h.fS ho (List.all_eq_true.1 hks t ht));unfold wpOp;simp only [ho,aU (o:=⟨some 81,.buildSlice T 2 ps.toArray,ty,pos,af,none⟩) rfl,if_true];obtain ⟨x,w',_,hrun,hs'⟩:=EF.buildSlice (P:=Tryz.prog) (W0:=W0) (d:=some 81) (T:=T) (ty:=ty) (pos:=pos) (af:=af) (g:=none) (hp W) hb (n:=2) (by decide) (by decide) (hf W) a.eval w hev hs;refine .inl (gC hrun ?_);show jP aG bm om W0 R ds (listed.setIfInBounds 77 true) (a.put (some 81) (cV bm om (W.iB 3 x) 81)) w';have ek:∀ j∈[0,39,66,97,40,67,78,98],(listed.setIfInBounds 77 true).getD j false=listed.getD j false:=fun j hj=>getD_set_ne false (fun e=>by subst e; simp at hj);refine oL (aD:=aD) (W:=W) (W':=W.iB 3 x) hok h hr ho rfl (by decide) hB hV (fun t ht=>aAm W x (by rcases ht with rfl | rfl | rfl <;> decide)) (fun i' o' d' a1 a2 a3=>aAm W x (hm i' o' d' a1 a2 a3)) ?_ ?_
 ·have:eU (W.iB 3 x) (fun j=>(listed.setIfInBounds 77 true).getD j false)=eU W (fun j=>listed.getD j false):=by
   unfold eU; simp only [ek 40 (by decide),ek 67 (by decide),ek 78 (by decide),ek 98 (by decide),gI,cond_false]; rfl
  rw [this]; exact hk
 refine aB.perm hs' ?_;have t1:(fM bm om (W.iB 3 x) aD (fun j=>(listed.setIfInBounds 77 true).getD j false))=(fM bm om W aD (fun j=>listed.getD j false)++[])∨True:=.inr trivial;unfold fM;simp only [eM hi,g0,cond_true,cond_false,List.nil_append,ek 0 (by decide),ek 39 (by decide),ek 66 (by decide),ek 97 (by decide)];show (Bk x 188 (oE bm om)::_).Perm _;simp only [List.append_assoc];exact VD _ _ _ _ _
theorem aBk (hok:tB aG) {T ty pos af zero} {ps:List (Nat × Operand)} {vs:Wt→List (Nat × Value)} (ho:aG[97]?=some ⟨some 100,.buildSlice T 4 ps.toArray,ty,pos,af,none⟩) (ks:List Nat) (hks:ks.all (sM aG ⟨some 100,.buildSlice T 4 ps.toArray,ty,pos,af,none⟩)=true)
  (hp:∀ W,NA (ks.map fun t=>(t,cV bm om W t)) ps=some (vs W)) (hb:BS Tryz.prog T 188 5 zero) (hf:∀ W,lI (fun i=>some (i * 5,5)) (zeros zero 4) (vs W)=some (oD bm om))
  {oi:Oper} (hI:aG[98]?=some oi) (hE:(oi.after.toList.any fun e=>Region.binds .any e && Nat.beq e.on 97)=true) (h:jP aG bm om W0 R ds listed a w) (hr:97∈Region.ready .any aG listed) :
  wpOp Tryz.prog aG Q 97 (fun a' w'=>jP aG bm om W0 R ds (listed.setIfInBounds 97 true) a' w') a w:=by
 obtain ⟨W,aD,hk,hB,hV,hs⟩:=h.st;obtain ⟨hn,hi⟩:=kW (W:=W) hr h.fS;have g0:=bJ hn;have gI:listed.getD 98 false=false:=bJ fun hl=>hn (cQ h.cls hI hE hl);have hm:∀ (i':Nat) (o':Oper) (d':Nat),aG[i']?=some o'→gA listed i'→o'.dst=some d'→d'∉[100]:=by
  intro i' o' d' hi' hl' hd' hmem;simp only [List.mem_cons,List.not_mem_nil,or_false] at hmem;subst hmem;have:=gD hok.uq (show aG.toList[i']?=some o' by simpa using hi') (show aG.toList[97]?=some _ by simpa using ho) hd' rfl;subst this; exact hn hl'
 have hev:=mD (a:=a) (W:=W) (ks:=ks) (fun t ht=>gS hB hV hr h.fS ho (List.all_eq_true.1 hks t ht));unfold wpOp;simp only [ho,aU (o:=⟨some 100,.buildSlice T 4 ps.toArray,ty,pos,af,none⟩) rfl,if_true];obtain ⟨x,w',_,hrun,hs'⟩:=EF.buildSlice (P:=Tryz.prog) (W0:=W0) (d:=some 100) (T:=T) (ty:=ty) (pos:=pos) (af:=af) (g:=none) (hp W) hb (n:=4) (by decide) (by decide) (hf W) a.eval w hev hs;refine .inl (gC hrun ?_);show jP aG bm om W0 R ds (listed.setIfInBounds 97 true) (a.put (some 100) (cV bm om (W.iB 4 x) 100)) w';have ek:∀ j∈[0,39,66,77,40,67,78,98],(listed.setIfInBounds 97 true).getD j false=listed.getD j false:=fun j hj=>getD_set_ne false (fun e=>by subst e; simp at hj);refine oL (aD:=aD) (W:=W) (W':=W.iB 4 x) hok h hr ho rfl (by decide) hB hV (fun t ht=>aAl W x (by rcases ht with rfl | rfl | rfl <;> decide)) (fun i' o' d' a1 a2 a3=>aAl W x (hm i' o' d' a1 a2 a3)) ?_ ?_
 ·have:eU (W.iB 4 x) (fun j=>(listed.setIfInBounds 97 true).getD j false)=eU W (fun j=>listed.getD j false):=by
   unfold eU; simp only [ek 40 (by decide),ek 67 (by decide),ek 78 (by decide),ek 98 (by decide),gI,cond_false]; rfl
  rw [this]; exact hk
 refine aB.perm hs' ?_;have t1:(fM bm om (W.iB 4 x) aD (fun j=>(listed.setIfInBounds 97 true).getD j false))=(fM bm om W aD (fun j=>listed.getD j false)++[])∨True:=.inr trivial;unfold fM;simp only [eM hi,g0,cond_true,cond_false,List.nil_append,ek 0 (by decide),ek 39 (by decide),ek 66 (by decide),ek 77 (by decide)];show (Bk x 188 (oD bm om)::_).Perm _;simp only [List.append_assoc];exact VC _ _ _ _ _
theorem uX {α:Type} {c:Bool} {p x:α} (h:p∈(bif c then [x] else [])):p=x:=by
 cases c with
 | true=>simpa using h
 | false=>simp at h
theorem kA {v:Value} {e:Int}:∀ {aD:List (Int × Value)} {i:Nat},(∀ p∈aD,p.1≠e)→aM e aD i=none
 | [],_,_=>rfl
 | p::r,i,h=>by
  simp only [aM];rw [if_neg (fun he=>h p (by simp) he.symm)];exact kA (v:=v) (fun q hq=>h q (List.mem_cons_of_mem _ hq))
theorem EU.insert {kn:Kn} {L L':List aA} {g':Option (Nat × Bool)} {d':Option Nat} {T K E x y z ty ps af} {b:Nat} {aD:List (Int × Value)} {e:Int} {v:Value} (hx:Proofs.YtadggjnohohedaaGreatDoor.ev kn x=some (.map (some b))) (hy:Proofs.YtadggjnohohedaaGreatDoor.ev kn y=some (aC .i64 e)) (hz:Proofs.YtadggjnohohedaaGreatDoor.ev kn z=some v) (p:Swap L (Mp (aC .i64) b aD) (Mp (aC .i64) b (cG e v aD)) L') (law:dX Tryz.prog K (aC .i64)) (hT:Tryz.prog.underlying T=some (.map K E)) :
  EU Tryz.prog W0 kn L ⟨d',.insert T x y z,ty,ps,af,g'⟩ L':=fun ρ w he hs=>by
 obtain ⟨w',h1,h2⟩:=EU.mapUpdate (d:=d') (ty:=ty) (ps:=ps) (af:=af) (g:=g') hx hy hz p law hT ρ w he hs;exact ⟨w',h1,h2⟩
theorem aBj (hok:tB aG) {K E ty pos af} (ho:aG[40]?=some ⟨none,.insert 265 (.tmp 6) (.const (.int .i64 1)) (.tmp 45),ty,pos,af,none⟩) (hks:[6,45].all (sM aG ⟨none,.insert 265 (.tmp 6) (.const (.int .i64 1)) (.tmp 45),ty,pos,af,none⟩)=true)
  (law:dX Tryz.prog K (aC .i64)) (hT:Tryz.prog.underlying 265=some (.map K E))
  (hE:(af.toList.any fun e=>Region.binds .any e && Nat.beq e.on 39)=true) (hM:(af.toList.any fun e=>Region.binds .any e && Nat.beq e.on 0)=true) (h:jP aG bm om W0 R ds listed a w) (hr:40∈Region.ready .any aG listed) :
  wpOp Tryz.prog aG Q 40 (fun a' w'=>jP aG bm om W0 R ds (listed.setIfInBounds 40 true) a' w') a w:=by
 obtain ⟨W,aD,hk,hB,hV,hs⟩:=h.st;obtain ⟨hn,hi⟩:=kW (W:=W) hr h.fS;have gI:=bJ hn;obtain ⟨o2,r⟩:=cJ h.fS hr;have ho2:(⟨none,.insert 265 (.tmp 6) (.const (.int .i64 1)) (.tmp 45),ty,pos,af,none⟩:Oper)=o2:=by have:=r.op; rw [ho] at this; exact Option.some.inj this
 have src:∀ k,(af.toList.any fun e=>Region.binds .any e && Nat.beq e.on k)=true→listed.getD k false=true:=fun k hk=>by
  obtain ⟨ed,h1,h2⟩:=List.any_eq_true.1 hk;simp only [Bool.and_eq_true] at h2;have:=r.src ed (by rw [← ho2]; exact h1) h2.1
  rwa [Nat.eq_of_beq_eq_true h2.2] at this
 have gB:=src _ hE;have gM:=src _ hM;have hev:=mD (a:=a) (W:=W) (ks:=[6,45]) (fun t ht=>gS hB hV hr h.fS ho (List.all_eq_true.1 hks t ht));unfold wpOp;simp only [ho,aU (o:=⟨none,.insert 265 (.tmp 6) (.const (.int .i64 1)) (.tmp 45),ty,pos,af,none⟩) rfl,if_true];have hs1:aB W0 w (Mp (aC .i64) W.m aD::(([Bk (W.b 1) 188 (oG bm om)]++((bif listed.getD 66 false then [Bk (W.b 2) 188 (oF bm om)] else [])++((bif listed.getD 77 false then [Bk (W.b 3) 188 (oE bm om)] else [])++((bif listed.getD 97 false then [Bk (W.b 4) 188 (oD bm om)] else [])))))++R)):=by
  unfold fM at hs; simp only [gM,gB,cond_true] at hs; exact hs
 have hnot:∀ p∈aD,p.1≠1:=by
  intro p hp;have:=hk.mem_iff.1 hp;unfold eU at this;simp only [gI,cond_false,List.mem_append,List.not_mem_nil,or_false,false_or] at this;rcases this with h1 | h1 | h1 <;> (have h2:=uX h1; subst h2; simp)
 have hset:cG (1:Int) (slc (W.b 1) 8) aD=aD++[((1:Int),slc (W.b 1) 8)]:=eD (i:=0) (kA (v:=undef) hnot);obtain ⟨w',hrun,hs'⟩:=EU.insert (W0:=W0) (d':=none) (T:=265) (K:=K) (E:=E) (x:=.tmp 6) (y:=.const (.int .i64 1)) (z:=.tmp 45) (ty:=ty) (ps:=pos) (af:=af) (g':=none) (b:=W.m) (aD:=aD) (e:=1) (v:=slc (W.b 1) 8) rfl rfl rfl .here law hT a.eval w hev hs1;refine .inl (vD hrun ?_);show jP aG bm om W0 R ds (listed.setIfInBounds 40 true) a w';have ek:∀ k∈[0,39,66,77,97,67,78,98],(listed.setIfInBounds 40 true).getD k false=listed.getD k false:=fun k hk=>getD_set_ne false (fun e=>by subst e; simp at hk);refine ⟨by simp [h.fS],h.cls.set hr,h.OL,h.HE,W,aD++[((1:Int),slc (W.b 1) 8)],?_,hB,fun i' o' d' hi' hl' hd'=>?_,?_⟩
 ·refine (hk.append_right _).trans ?_;unfold eU;simp only [ek 67 (by decide),ek 78 (by decide),ek 98 (by decide),eM hi,gI,cond_true,cond_false,List.nil_append,List.append_assoc,List.append_nil];exact pI1 _ _ _
 ·rcases (bZ hi).1 hl' with rfl | hl'
  ·rw [ho] at hi'; obtain rfl:=Option.some.inj hi'; cases hd'
  exact hV i' o' d' hi' hl' hd'
 have hs2:aB W0 w' (Mp (aC .i64) W.m (aD++[((1:Int),slc (W.b 1) 8)])::(([Bk (W.b 1) 188 (oG bm om)]++((bif listed.getD 66 false then [Bk (W.b 2) 188 (oF bm om)] else [])++((bif listed.getD 77 false then [Bk (W.b 3) 188 (oE bm om)] else [])++((bif listed.getD 97 false then [Bk (W.b 4) 188 (oD bm om)] else [])))))++R)):=by rw [← hset]; exact hs'
 unfold fM;simp only [ek 0 (by decide),ek 39 (by decide),ek 66 (by decide),ek 77 (by decide),ek 97 (by decide),gM,gB,cond_true];exact hs2
theorem aBi (hok:tB aG) {K E ty pos af} (ho:aG[67]?=some ⟨none,.insert 265 (.tmp 6) (.const (.int .i64 2)) (.tmp 71),ty,pos,af,none⟩) (hks:[6,71].all (sM aG ⟨none,.insert 265 (.tmp 6) (.const (.int .i64 2)) (.tmp 71),ty,pos,af,none⟩)=true)
  (law:dX Tryz.prog K (aC .i64)) (hT:Tryz.prog.underlying 265=some (.map K E))
  (hE:(af.toList.any fun e=>Region.binds .any e && Nat.beq e.on 66)=true) (hM:(af.toList.any fun e=>Region.binds .any e && Nat.beq e.on 0)=true) (h:jP aG bm om W0 R ds listed a w) (hr:67∈Region.ready .any aG listed) :
  wpOp Tryz.prog aG Q 67 (fun a' w'=>jP aG bm om W0 R ds (listed.setIfInBounds 67 true) a' w') a w:=by
 obtain ⟨W,aD,hk,hB,hV,hs⟩:=h.st;obtain ⟨hn,hi⟩:=kW (W:=W) hr h.fS;have gI:=bJ hn;obtain ⟨o2,r⟩:=cJ h.fS hr;have ho2:(⟨none,.insert 265 (.tmp 6) (.const (.int .i64 2)) (.tmp 71),ty,pos,af,none⟩:Oper)=o2:=by have:=r.op; rw [ho] at this; exact Option.some.inj this
 have src:∀ k,(af.toList.any fun e=>Region.binds .any e && Nat.beq e.on k)=true→listed.getD k false=true:=fun k hk=>by
  obtain ⟨ed,h1,h2⟩:=List.any_eq_true.1 hk;simp only [Bool.and_eq_true] at h2;have:=r.src ed (by rw [← ho2]; exact h1) h2.1
  rwa [Nat.eq_of_beq_eq_true h2.2] at this
 have gB:=src _ hE;have gM:=src _ hM;have hev:=mD (a:=a) (W:=W) (ks:=[6,71]) (fun t ht=>gS hB hV hr h.fS ho (List.all_eq_true.1 hks t ht));unfold wpOp;simp only [ho,aU (o:=⟨none,.insert 265 (.tmp 6) (.const (.int .i64 2)) (.tmp 71),ty,pos,af,none⟩) rfl,if_true];have hs1:aB W0 w (Mp (aC .i64) W.m aD::(((bif listed.getD 39 false then [Bk (W.b 1) 188 (oG bm om)] else [])++([Bk (W.b 2) 188 (oF bm om)]++((bif listed.getD 77 false then [Bk (W.b 3) 188 (oE bm om)] else [])++((bif listed.getD 97 false then [Bk (W.b 4) 188 (oD bm om)] else [])))))++R)):=by
  unfold fM at hs; simp only [gM,gB,cond_true] at hs; exact hs
 have hnot:∀ p∈aD,p.1≠2:=by
  intro p hp;have:=hk.mem_iff.1 hp;unfold eU at this;simp only [gI,cond_false,List.mem_append,List.not_mem_nil,or_false,false_or] at this;rcases this with h1 | h1 | h1 <;> (have h2:=uX h1; subst h2; simp)
 have hset:cG (2:Int) (slc (W.b 2) 5) aD=aD++[((2:Int),slc (W.b 2) 5)]:=eD (i:=0) (kA (v:=undef) hnot);obtain ⟨w',hrun,hs'⟩:=EU.insert (W0:=W0) (d':=none) (T:=265) (K:=K) (E:=E) (x:=.tmp 6) (y:=.const (.int .i64 2)) (z:=.tmp 71) (ty:=ty) (ps:=pos) (af:=af) (g':=none) (b:=W.m) (aD:=aD) (e:=2) (v:=slc (W.b 2) 5) rfl rfl rfl .here law hT a.eval w hev hs1;refine .inl (vD hrun ?_);show jP aG bm om W0 R ds (listed.setIfInBounds 67 true) a w';have ek:∀ k∈[0,39,66,77,97,40,78,98],(listed.setIfInBounds 67 true).getD k false=listed.getD k false:=fun k hk=>getD_set_ne false (fun e=>by subst e; simp at hk);refine ⟨by simp [h.fS],h.cls.set hr,h.OL,h.HE,W,aD++[((2:Int),slc (W.b 2) 5)],?_,hB,fun i' o' d' hi' hl' hd'=>?_,?_⟩
 ·refine (hk.append_right _).trans ?_;unfold eU;simp only [ek 40 (by decide),ek 78 (by decide),ek 98 (by decide),eM hi,gI,cond_true,cond_false,List.nil_append,List.append_assoc,List.append_nil];exact pI2 _ _ _
 ·rcases (bZ hi).1 hl' with rfl | hl'
  ·rw [ho] at hi'; obtain rfl:=Option.some.inj hi'; cases hd'
  exact hV i' o' d' hi' hl' hd'
 have hs2:aB W0 w' (Mp (aC .i64) W.m (aD++[((2:Int),slc (W.b 2) 5)])::(((bif listed.getD 39 false then [Bk (W.b 1) 188 (oG bm om)] else [])++([Bk (W.b 2) 188 (oF bm om)]++((bif listed.getD 77 false then [Bk (W.b 3) 188 (oE bm om)] else [])++((bif listed.getD 97 false then [Bk (W.b 4) 188 (oD bm om)] else [])))))++R)):=by rw [← hset]; exact hs'
 unfold fM;simp only [ek 0 (by decide),ek 39 (by decide),ek 66 (by decide),ek 77 (by decide),ek 97 (by decide),gM,gB,cond_true];exact hs2
theorem aBh (hok:tB aG) {K E ty pos af} (ho:aG[78]?=some ⟨none,.insert 265 (.tmp 6) (.const (.int .i64 3)) (.tmp 81),ty,pos,af,none⟩) (hks:[6,81].all (sM aG ⟨none,.insert 265 (.tmp 6) (.const (.int .i64 3)) (.tmp 81),ty,pos,af,none⟩)=true)
  (law:dX Tryz.prog K (aC .i64)) (hT:Tryz.prog.underlying 265=some (.map K E))
  (hE:(af.toList.any fun e=>Region.binds .any e && Nat.beq e.on 77)=true) (hM:(af.toList.any fun e=>Region.binds .any e && Nat.beq e.on 0)=true) (h:jP aG bm om W0 R ds listed a w) (hr:78∈Region.ready .any aG listed) :
  wpOp Tryz.prog aG Q 78 (fun a' w'=>jP aG bm om W0 R ds (listed.setIfInBounds 78 true) a' w') a w:=by
 obtain ⟨W,aD,hk,hB,hV,hs⟩:=h.st;obtain ⟨hn,hi⟩:=kW (W:=W) hr h.fS;have gI:=bJ hn;obtain ⟨o2,r⟩:=cJ h.fS hr;have ho2:(⟨none,.insert 265 (.tmp 6) (.const (.int .i64 3)) (.tmp 81),ty,pos,af,none⟩:Oper)=o2:=by have:=r.op; rw [ho] at this; exact Option.some.inj this
 have src:∀ k,(af.toList.any fun e=>Region.binds .any e && Nat.beq e.on k)=true→listed.getD k false=true:=fun k hk=>by
  obtain ⟨ed,h1,h2⟩:=List.any_eq_true.1 hk;simp only [Bool.and_eq_true] at h2;have:=r.src ed (by rw [← ho2]; exact h1) h2.1
  rwa [Nat.eq_of_beq_eq_true h2.2] at this
 have gB:=src _ hE;have gM:=src _ hM;have hev:=mD (a:=a) (W:=W) (ks:=[6,81]) (fun t ht=>gS hB hV hr h.fS ho (List.all_eq_true.1 hks t ht));unfold wpOp;simp only [ho,aU (o:=⟨none,.insert 265 (.tmp 6) (.const (.int .i64 3)) (.tmp 81),ty,pos,af,none⟩) rfl,if_true];have hs1:aB W0 w (Mp (aC .i64) W.m aD::(((bif listed.getD 39 false then [Bk (W.b 1) 188 (oG bm om)] else [])++((bif listed.getD 66 false then [Bk (W.b 2) 188 (oF bm om)] else [])++([Bk (W.b 3) 188 (oE bm om)]++((bif listed.getD 97 false then [Bk (W.b 4) 188 (oD bm om)] else [])))))++R)):=by
  unfold fM at hs; simp only [gM,gB,cond_true] at hs; exact hs
 have hnot:∀ p∈aD,p.1≠3:=by
  intro p hp;have:=hk.mem_iff.1 hp;unfold eU at this;simp only [gI,cond_false,List.mem_append,List.not_mem_nil,or_false,false_or] at this;rcases this with h1 | h1 | h1 <;> (have h2:=uX h1; subst h2; simp)
 have hset:cG (3:Int) (slc (W.b 3) 2) aD=aD++[((3:Int),slc (W.b 3) 2)]:=eD (i:=0) (kA (v:=undef) hnot);obtain ⟨w',hrun,hs'⟩:=EU.insert (W0:=W0) (d':=none) (T:=265) (K:=K) (E:=E) (x:=.tmp 6) (y:=.const (.int .i64 3)) (z:=.tmp 81) (ty:=ty) (ps:=pos) (af:=af) (g':=none) (b:=W.m) (aD:=aD) (e:=3) (v:=slc (W.b 3) 2) rfl rfl rfl .here law hT a.eval w hev hs1;refine .inl (vD hrun ?_);show jP aG bm om W0 R ds (listed.setIfInBounds 78 true) a w';have ek:∀ k∈[0,39,66,77,97,40,67,98],(listed.setIfInBounds 78 true).getD k false=listed.getD k false:=fun k hk=>getD_set_ne false (fun e=>by subst e; simp at hk);refine ⟨by simp [h.fS],h.cls.set hr,h.OL,h.HE,W,aD++[((3:Int),slc (W.b 3) 2)],?_,hB,fun i' o' d' hi' hl' hd'=>?_,?_⟩
 ·refine (hk.append_right _).trans ?_;unfold eU;simp only [ek 40 (by decide),ek 67 (by decide),ek 98 (by decide),eM hi,gI,cond_true,cond_false,List.nil_append,List.append_assoc,List.append_nil];exact pI3 _ _ _
 ·rcases (bZ hi).1 hl' with rfl | hl'
  ·rw [ho] at hi'; obtain rfl:=Option.some.inj hi'; cases hd'
  exact hV i' o' d' hi' hl' hd'
 have hs2:aB W0 w' (Mp (aC .i64) W.m (aD++[((3:Int),slc (W.b 3) 2)])::(((bif listed.getD 39 false then [Bk (W.b 1) 188 (oG bm om)] else [])++((bif listed.getD 66 false then [Bk (W.b 2) 188 (oF bm om)] else [])++([Bk (W.b 3) 188 (oE bm om)]++((bif listed.getD 97 false then [Bk (W.b 4) 188 (oD bm om)] else [])))))++R)):=by rw [← hset]; exact hs'
 unfold fM;simp only [ek 0 (by decide),ek 39 (by decide),ek 66 (by decide),ek 77 (by decide),ek 97 (by decide),gM,gB,cond_true];exact hs2
theorem aBg (hok:tB aG) {K E ty pos af} (ho:aG[98]?=some ⟨none,.insert 265 (.tmp 6) (.const (.int .i64 4)) (.tmp 100),ty,pos,af,none⟩) (hks:[6,100].all (sM aG ⟨none,.insert 265 (.tmp 6) (.const (.int .i64 4)) (.tmp 100),ty,pos,af,none⟩)=true)
  (law:dX Tryz.prog K (aC .i64)) (hT:Tryz.prog.underlying 265=some (.map K E))
  (hE:(af.toList.any fun e=>Region.binds .any e && Nat.beq e.on 97)=true) (hM:(af.toList.any fun e=>Region.binds .any e && Nat.beq e.on 0)=true) (h:jP aG bm om W0 R ds listed a w) (hr:98∈Region.ready .any aG listed) :
  wpOp Tryz.prog aG Q 98 (fun a' w'=>jP aG bm om W0 R ds (listed.setIfInBounds 98 true) a' w') a w:=by
 obtain ⟨W,aD,hk,hB,hV,hs⟩:=h.st;obtain ⟨hn,hi⟩:=kW (W:=W) hr h.fS;have gI:=bJ hn;obtain ⟨o2,r⟩:=cJ h.fS hr;have ho2:(⟨none,.insert 265 (.tmp 6) (.const (.int .i64 4)) (.tmp 100),ty,pos,af,none⟩:Oper)=o2:=by have:=r.op; rw [ho] at this; exact Option.some.inj this
 have src:∀ k,(af.toList.any fun e=>Region.binds .any e && Nat.beq e.on k)=true→listed.getD k false=true:=fun k hk=>by
  obtain ⟨ed,h1,h2⟩:=List.any_eq_true.1 hk;simp only [Bool.and_eq_true] at h2;have:=r.src ed (by rw [← ho2]; exact h1) h2.1
  rwa [Nat.eq_of_beq_eq_true h2.2] at this
 have gB:=src _ hE;have gM:=src _ hM;have hev:=mD (a:=a) (W:=W) (ks:=[6,100]) (fun t ht=>gS hB hV hr h.fS ho (List.all_eq_true.1 hks t ht));unfold wpOp;simp only [ho,aU (o:=⟨none,.insert 265 (.tmp 6) (.const (.int .i64 4)) (.tmp 100),ty,pos,af,none⟩) rfl,if_true];have hs1:aB W0 w (Mp (aC .i64) W.m aD::(((bif listed.getD 39 false then [Bk (W.b 1) 188 (oG bm om)] else [])++((bif listed.getD 66 false then [Bk (W.b 2) 188 (oF bm om)] else [])++((bif listed.getD 77 false then [Bk (W.b 3) 188 (oE bm om)] else [])++([Bk (W.b 4) 188 (oD bm om)]))))++R)):=by
  unfold fM at hs; simp only [gM,gB,cond_true] at hs; exact hs
 have hnot:∀ p∈aD,p.1≠4:=by
  intro p hp;have:=hk.mem_iff.1 hp;unfold eU at this;simp only [gI,cond_false,List.mem_append,List.not_mem_nil,or_false,false_or] at this;rcases this with h1 | h1 | h1 <;> (have h2:=uX h1; subst h2; simp)
 have hset:cG (4:Int) (slc (W.b 4) 4) aD=aD++[((4:Int),slc (W.b 4) 4)]:=eD (i:=0) (kA (v:=undef) hnot);obtain ⟨w',hrun,hs'⟩:=EU.insert (W0:=W0) (d':=none) (T:=265) (K:=K) (E:=E) (x:=.tmp 6) (y:=.const (.int .i64 4)) (z:=.tmp 100) (ty:=ty) (ps:=pos) (af:=af) (g':=none) (b:=W.m) (aD:=aD) (e:=4) (v:=slc (W.b 4) 4) rfl rfl rfl .here law hT a.eval w hev hs1;refine .inl (vD hrun ?_);show jP aG bm om W0 R ds (listed.setIfInBounds 98 true) a w';have ek:∀ k∈[0,39,66,77,97,40,67,78],(listed.setIfInBounds 98 true).getD k false=listed.getD k false:=fun k hk=>getD_set_ne false (fun e=>by subst e; simp at hk);refine ⟨by simp [h.fS],h.cls.set hr,h.OL,h.HE,W,aD++[((4:Int),slc (W.b 4) 4)],?_,hB,fun i' o' d' hi' hl' hd'=>?_,?_⟩
 ·refine (hk.append_right _).trans ?_;unfold eU;simp only [ek 40 (by decide),ek 67 (by decide),ek 78 (by decide),eM hi,gI,cond_true,cond_false,List.nil_append,List.append_assoc,List.append_nil];exact List.Perm.refl _
 ·rcases (bZ hi).1 hl' with rfl | hl'
  ·rw [ho] at hi'; obtain rfl:=Option.some.inj hi'; cases hd'
  exact hV i' o' d' hi' hl' hd'
 have hs2:aB W0 w' (Mp (aC .i64) W.m (aD++[((4:Int),slc (W.b 4) 4)])::(((bif listed.getD 39 false then [Bk (W.b 1) 188 (oG bm om)] else [])++((bif listed.getD 66 false then [Bk (W.b 2) 188 (oF bm om)] else [])++((bif listed.getD 77 false then [Bk (W.b 3) 188 (oE bm om)] else [])++([Bk (W.b 4) 188 (oD bm om)]))))++R)):=by rw [← hset]; exact hs'
 unfold fM;simp only [ek 0 (by decide),ek 39 (by decide),ek 66 (by decide),ek 77 (by decide),ek 97 (by decide),gM,gB,cond_true];exact hs2
end
end
end EV
end Go.Proofs.YtadggjnohohedaaGreatDoor
namespace Go.Proofs.YtadggjnohohedaaGreatDoor
section
theorem aJ9 {p:Prop} (h:p:=by
  refine Au ?_;refine Ef (EF.alloc aL) fun b2 _=>?_;refine Au ?_;refine GE.tO rfl (.fV rfl .p0 mN rfl) (fun w h=>?_);exact ⟨(),trivial,rfl,h.part (.drop .refl)⟩):p:=h
theorem JS (b k:Nat) :
  bQ Tryz.prog 118 [.pointer (some ⟨b,k,none⟩)] [] (fun x:Unit=>.agg #[.int .u64 1,.int .u64 4294967296,.pointer (some ⟨b,k,none⟩),.pointer none,.pointer none]) (fun x=>[]) (fun x=>True):=by
 refine Fg Tryz.func118 Tryz.ntmps118 fun W0 R=>?_;exact aJ9
theorem JR (b k:Nat) :
  bQ Tryz.prog 119 [.pointer (some ⟨b,k,none⟩)] [] (fun x:Unit=>.agg #[.int .u64 1,.int .u64 1048576,.pointer none,.pointer (some ⟨b,k,none⟩),.pointer none]) (fun x=>[]) (fun x=>True):=by
 refine Fg Tryz.func119 Tryz.ntmps119 fun W0 R=>?_;exact aJ9
end
end Go.Proofs.YtadggjnohohedaaGreatDoor
namespace Go.Proofs.YtadggjnohohedaaGreatDoor
namespace EV
noncomputable section
noncomputable def zI:Array Oper:=match Tryz.f73.body with
 | some (.seq _ (.seq _ (.seq _ (.seq (.region _ o _) _))))=>o
 | _=>#[]
theorem gJ:tB zI:=⟨by kernel_rfl,by kernel_rfl,by kernel_rfl⟩
theorem NU:BS Tryz.prog 182 188 5 [.int .u64 0,.int .u64 0,.pointer none,.pointer none,.pointer none]:=⟨Tryz.underlying182,by kernel_rfl,rfl,by decide⟩
theorem wZ {W0 w:World} {A L:List aA} (h:aB W0 w (A++L)):aB W0 w L:=by
 induction A with
 | nil=>exact h
 | cons x r ih=>exact ih h.tail
def g1 (b:Nat):G:=⟨fun p=>if p=.h then some (b,0) else none,0,0,by decide,by decide⟩
section
variable {bm om:Nat} {W0 w:World} {R:List aA} {ds:List Deferred} {listed:Array Bool} {a:Act} {Q:Exit→Act→World→Prop}
theorem ZO (b k:Nat) {L:List aA} (hs:aB W0 w L):Calls Tryz.prog 118 [pt b k].toArray w fun e w'=>e=.returned (OH b k)∧aB W0 w' L:=by
 refine (JS b k W0 w L hs).mono ?_;rintro e w' ⟨x,_,rfl,h⟩;exact ⟨rfl,h⟩
theorem c119 (b k:Nat) {L:List aA} (hs:aB W0 w L):Calls Tryz.prog 119 [pt b k].toArray w fun e w'=>e=.returned (xY b k)∧aB W0 w' L:=by
 refine (JR b k W0 w L hs).mono ?_;rintro e w' ⟨x,_,rfl,h⟩;exact ⟨rfl,h⟩
abbrev xU (bm om:Nat) (W0:World) (R:List aA) (ds:List Deferred) (listed:Array Bool) (a:Act) (w:World) (Q:Exit→Act→World→Prop) (K:Nat):Prop:=jP zI bm om W0 R ds listed a w→K∈Region.ready .any zI listed→wpOp Tryz.prog zI Q K (fun a' w'=>jP zI bm om W0 R ds (listed.setIfInBounds K true) a' w') a w
theorem tP (ks:List Nat) {K d:Nat} {o:Oper} (h:jP zI bm om W0 R ds listed a w) (hr:K∈Region.ready .any zI listed) (ho:zI[K]?=some o:=by exact rfl) (hd:o.dst=some d:=by exact rfl) (hg:o.guard=none:=by exact rfl) (hks:ks.all (sM zI o)=true:=by kernel_rfl) (hl:Nat.blt d 108=true:=by exact rfl) (hfx:fxB K=true:=by exact rfl)
  (hx:∀ W,EX Tryz.prog W0 (ks.map fun t=>(t,cV bm om W t)) [] o (cV bm om W d):=by intro W; first | exact EX.move rfl | exact EX.assign rfl | exact EX.nilCheck rfl | exact EX.fieldAddr rfl fA | exact EX.build rfl bD rfl) :
  wpOp Tryz.prog zI Q K (fun a' w'=>jP zI bm om W0 R ds (listed.setIfInBounds K true) a' w') a w:=aHk gJ ho hd hg ks hks hl hfx hx h hr
theorem s0:xU bm om W0 R ds listed a w Q 0:=fun h hr=>stepM gJ rfl (h1:=rfl) rfl (by kernel_rfl) (h2:=rfl) rfl (by kernel_rfl) (hI1:=rfl) (by kernel_rfl) (hI2:=rfl) (by kernel_rfl) (hI3:=rfl) (by kernel_rfl) (hI4:=rfl) (by kernel_rfl) h hr
theorem s5:xU bm om W0 R ds listed a w Q 5:=fun h hr=>iW gJ (o:=_) rfl rfl rfl [7,10] (by kernel_rfl) rfl rfl (f:=118) (args:=[pt bm (om + 1)]) (fun W=>EC.closure (us:=#[]) (cs:=#[]) (vs:=[pt bm (om + 1)]) rfl eN rfl) (fun W w L hs=>ZO bm (om + 1) hs) h hr
theorem s18:xU bm om W0 R ds listed a w Q 18:=fun h hr=>iW gJ (o:=_) rfl rfl rfl [20,23] (by kernel_rfl) rfl rfl (f:=119) (args:=[pt bm (om + 6)]) (fun W=>EC.closure (us:=#[]) (cs:=#[]) (vs:=[pt bm (om + 6)]) rfl eN rfl) (fun W w L hs=>c119 bm (om + 6) hs) h hr
theorem s23:xU bm om W0 R ds listed a w Q 23:=fun h hr=>iW gJ (o:=_) rfl rfl rfl [25,28] (by kernel_rfl) rfl rfl (f:=119) (args:=[pt bm (om + 7)]) (fun W=>EC.closure (us:=#[]) (cs:=#[]) (vs:=[pt bm (om + 7)]) rfl eN rfl) (fun W w L hs=>c119 bm (om + 7) hs) h hr
theorem s28:xU bm om W0 R ds listed a w Q 28:=fun h hr=>iW gJ (o:=_) rfl rfl rfl [30,33] (by kernel_rfl) rfl rfl (f:=119) (args:=[pt bm (om + 8)]) (fun W=>EC.closure (us:=#[]) (cs:=#[]) (vs:=[pt bm (om + 8)]) rfl eN rfl) (fun W w L hs=>c119 bm (om + 8) hs) h hr
theorem s33:xU bm om W0 R ds listed a w Q 33:=fun h hr=>iW gJ (o:=_) rfl rfl rfl [35,38] (by kernel_rfl) rfl rfl (f:=119) (args:=[pt bm (om + 9)]) (fun W=>EC.closure (us:=#[]) (cs:=#[]) (vs:=[pt bm (om + 9)]) rfl eN rfl) (fun W w L hs=>c119 bm (om + 9) hs) h hr
theorem s38:xU bm om W0 R ds listed a w Q 38:=fun h hr=>iW gJ (o:=_) rfl rfl rfl [40,43] (by kernel_rfl) rfl rfl (f:=119) (args:=[pt bm (om + 10)]) (fun W=>EC.closure (us:=#[]) (cs:=#[]) (vs:=[pt bm (om + 10)]) rfl eN rfl) (fun W w L hs=>c119 bm (om + 10) hs) h hr
theorem s39:xU bm om W0 R ds listed a w Q 39:=fun h hr=>aBn gJ rfl [11,15,19,24,29,34,39,44] (by kernel_rfl) (fun W=>rfl) NU (fun W=>rfl) (hI:=rfl) (by kernel_rfl) h hr
theorem s40:xU bm om W0 R ds listed a w Q 40:=fun h hr=>aBj gJ rfl (by kernel_rfl) (oR Tryz.underlying3 rfl) Tryz.underlying265 (by kernel_rfl) (by kernel_rfl) h hr
theorem s45:xU bm om W0 R ds listed a w Q 45:=fun h hr=>iW gJ (o:=_) rfl rfl rfl [46,49] (by kernel_rfl) rfl rfl (f:=118) (args:=[pt bm (om + 1)]) (fun W=>EC.closure (us:=#[]) (cs:=#[]) (vs:=[pt bm (om + 1)]) rfl eN rfl) (fun W w L hs=>ZO bm (om + 1) hs) h hr
theorem s50:xU bm om W0 R ds listed a w Q 50:=fun h hr=>iW gJ (o:=_) rfl rfl rfl [51,54] (by kernel_rfl) rfl rfl (f:=118) (args:=[pt bm (om + 2)]) (fun W=>EC.closure (us:=#[]) (cs:=#[]) (vs:=[pt bm (om + 2)]) rfl eN rfl) (fun W w L hs=>ZO bm (om + 2) hs) h hr
theorem s55:xU bm om W0 R ds listed a w Q 55:=fun h hr=>iW gJ (o:=_) rfl rfl rfl [56,59] (by kernel_rfl) rfl rfl (f:=119) (args:=[pt bm (om + 6)]) (fun W=>EC.closure (us:=#[]) (cs:=#[]) (vs:=[pt bm (om + 6)]) rfl eN rfl) (fun W w L hs=>c119 bm (om + 6) hs) h hr
theorem s60:xU bm om W0 R ds listed a w Q 60:=fun h hr=>iW gJ (o:=_) rfl rfl rfl [61,64] (by kernel_rfl) rfl rfl (f:=119) (args:=[pt bm (om + 8)]) (fun W=>EC.closure (us:=#[]) (cs:=#[]) (vs:=[pt bm (om + 8)]) rfl eN rfl) (fun W w L hs=>c119 bm (om + 8) hs) h hr
theorem s65:xU bm om W0 R ds listed a w Q 65:=fun h hr=>iW gJ (o:=_) rfl rfl rfl [66,69] (by kernel_rfl) rfl rfl (f:=119) (args:=[pt bm (om + 9)]) (fun W=>EC.closure (us:=#[]) (cs:=#[]) (vs:=[pt bm (om + 9)]) rfl eN rfl) (fun W w L hs=>c119 bm (om + 9) hs) h hr
theorem s66:xU bm om W0 R ds listed a w Q 66:=fun h hr=>aBm gJ rfl [50,55,60,65,70] (by kernel_rfl) (fun W=>rfl) NU (fun W=>rfl) (hI:=rfl) (by kernel_rfl) h hr
theorem s67:xU bm om W0 R ds listed a w Q 67:=fun h hr=>aBi gJ rfl (by kernel_rfl) (oR Tryz.underlying3 rfl) Tryz.underlying265 (by kernel_rfl) (by kernel_rfl) h hr
theorem s72:xU bm om W0 R ds listed a w Q 72:=fun h hr=>iW gJ (o:=_) rfl rfl rfl [72,75] (by kernel_rfl) rfl rfl (f:=118) (args:=[pt bm (om + 2)]) (fun W=>EC.closure (us:=#[]) (cs:=#[]) (vs:=[pt bm (om + 2)]) rfl eN rfl) (fun W w L hs=>ZO bm (om + 2) hs) h hr
theorem s77:xU bm om W0 R ds listed a w Q 77:=fun h hr=>aBl gJ rfl [76,80] (by kernel_rfl) (fun W=>rfl) NU (fun W=>rfl) (hI:=rfl) (by kernel_rfl) h hr
theorem s78:xU bm om W0 R ds listed a w Q 78:=fun h hr=>aBh gJ rfl (by kernel_rfl) (oR Tryz.underlying3 rfl) Tryz.underlying265 (by kernel_rfl) (by kernel_rfl) h hr
theorem s83:xU bm om W0 R ds listed a w Q 83:=fun h hr=>iW gJ (o:=_) rfl rfl rfl [82,85] (by kernel_rfl) rfl rfl (f:=118) (args:=[pt bm (om + 2)]) (fun W=>EC.closure (us:=#[]) (cs:=#[]) (vs:=[pt bm (om + 2)]) rfl eN rfl) (fun W w L hs=>ZO bm (om + 2) hs) h hr
theorem s96:xU bm om W0 R ds listed a w Q 96:=fun h hr=>iW gJ (o:=_) rfl rfl rfl [95,98] (by kernel_rfl) rfl rfl (f:=119) (args:=[pt bm (om + 9)]) (fun W=>EC.closure (us:=#[]) (cs:=#[]) (vs:=[pt bm (om + 9)]) rfl eN rfl) (fun W w L hs=>c119 bm (om + 9) hs) h hr
theorem s97:xU bm om W0 R ds listed a w Q 97:=fun h hr=>aBk gJ rfl [86,90,94,99] (by kernel_rfl) (fun W=>rfl) NU (fun W=>rfl) (hI:=rfl) (by kernel_rfl) h hr
theorem s98:xU bm om W0 R ds listed a w Q 98:=fun h hr=>aBg gJ rfl (by kernel_rfl) (oR Tryz.underlying3 rfl) Tryz.underlying265 (by kernel_rfl) (by kernel_rfl) h hr
theorem aBo:∀ (i:Nat),i < 101→∀ {listed:Array Bool} {a:Act} {w:World},jP zI bm om W0 R ds listed a w→i∈Region.ready .any zI listed→wpOp Tryz.prog zI Q i (fun a' w'=>jP zI bm om W0 R ds (listed.setIfInBounds i true) a' w') a w
 | 0,_,_,_,_,h,hr=>s0 h hr
 | 1,_,_,_,_,h,hr=>tP [3] h hr
 | 2,_,_,_,_,h,hr=>tP [0] h hr
 | 3,_,_,_,_,h,hr=>tP [8] h hr
 | 4,_,_,_,_,h,hr=>tP [9] h hr
 | 5,_,_,_,_,h,hr=>s5 h hr
 | 6,_,_,_,_,h,hr=>tP [0] h hr
 | 7,_,_,_,_,h,hr=>tP [12] h hr
 | 8,_,_,_,_,h,hr=>tP [13] h hr
 | 9,_,_,_,_,h,hr=>tP [14] h hr
 | 10,_,_,_,_,h,hr=>tP [0] h hr
 | 11,_,_,_,_,h,hr=>tP [16] h hr
 | 12,_,_,_,_,h,hr=>tP [17] h hr
 | 13,_,_,_,_,h,hr=>tP [18] h hr
 | 14,_,_,_,_,h,hr=>tP [4] h hr
 | 15,_,_,_,_,h,hr=>tP [0] h hr
 | 16,_,_,_,_,h,hr=>tP [21] h hr
 | 17,_,_,_,_,h,hr=>tP [22] h hr
 | 18,_,_,_,_,h,hr=>s18 h hr
 | 19,_,_,_,_,h,hr=>tP [4] h hr
 | 20,_,_,_,_,h,hr=>tP [0] h hr
 | 21,_,_,_,_,h,hr=>tP [26] h hr
 | 22,_,_,_,_,h,hr=>tP [27] h hr
 | 23,_,_,_,_,h,hr=>s23 h hr
 | 24,_,_,_,_,h,hr=>tP [4] h hr
 | 25,_,_,_,_,h,hr=>tP [0] h hr
 | 26,_,_,_,_,h,hr=>tP [31] h hr
 | 27,_,_,_,_,h,hr=>tP [32] h hr
 | 28,_,_,_,_,h,hr=>s28 h hr
 | 29,_,_,_,_,h,hr=>tP [4] h hr
 | 30,_,_,_,_,h,hr=>tP [0] h hr
 | 31,_,_,_,_,h,hr=>tP [36] h hr
 | 32,_,_,_,_,h,hr=>tP [37] h hr
 | 33,_,_,_,_,h,hr=>s33 h hr
 | 34,_,_,_,_,h,hr=>tP [4] h hr
 | 35,_,_,_,_,h,hr=>tP [0] h hr
 | 36,_,_,_,_,h,hr=>tP [41] h hr
 | 37,_,_,_,_,h,hr=>tP [42] h hr
 | 38,_,_,_,_,h,hr=>s38 h hr
 | 39,_,_,_,_,h,hr=>s39 h hr
 | 40,_,_,_,_,h,hr=>s40 h hr
 | 41,_,_,_,_,h,hr=>tP [3] h hr
 | 42,_,_,_,_,h,hr=>tP [0] h hr
 | 43,_,_,_,_,h,hr=>tP [47] h hr
 | 44,_,_,_,_,h,hr=>tP [48] h hr
 | 45,_,_,_,_,h,hr=>s45 h hr
 | 46,_,_,_,_,h,hr=>tP [3] h hr
 | 47,_,_,_,_,h,hr=>tP [0] h hr
 | 48,_,_,_,_,h,hr=>tP [52] h hr
 | 49,_,_,_,_,h,hr=>tP [53] h hr
 | 50,_,_,_,_,h,hr=>s50 h hr
 | 51,_,_,_,_,h,hr=>tP [4] h hr
 | 52,_,_,_,_,h,hr=>tP [0] h hr
 | 53,_,_,_,_,h,hr=>tP [57] h hr
 | 54,_,_,_,_,h,hr=>tP [58] h hr
 | 55,_,_,_,_,h,hr=>s55 h hr
 | 56,_,_,_,_,h,hr=>tP [4] h hr
 | 57,_,_,_,_,h,hr=>tP [0] h hr
 | 58,_,_,_,_,h,hr=>tP [62] h hr
 | 59,_,_,_,_,h,hr=>tP [63] h hr
 | 60,_,_,_,_,h,hr=>s60 h hr
 | 61,_,_,_,_,h,hr=>tP [4] h hr
 | 62,_,_,_,_,h,hr=>tP [0] h hr
 | 63,_,_,_,_,h,hr=>tP [67] h hr
 | 64,_,_,_,_,h,hr=>tP [68] h hr
 | 65,_,_,_,_,h,hr=>s65 h hr
 | 66,_,_,_,_,h,hr=>s66 h hr
 | 67,_,_,_,_,h,hr=>s67 h hr
 | 68,_,_,_,_,h,hr=>tP [3] h hr
 | 69,_,_,_,_,h,hr=>tP [0] h hr
 | 70,_,_,_,_,h,hr=>tP [73] h hr
 | 71,_,_,_,_,h,hr=>tP [74] h hr
 | 72,_,_,_,_,h,hr=>s72 h hr
 | 73,_,_,_,_,h,hr=>tP [0] h hr
 | 74,_,_,_,_,h,hr=>tP [77] h hr
 | 75,_,_,_,_,h,hr=>tP [78] h hr
 | 76,_,_,_,_,h,hr=>tP [79] h hr
 | 77,_,_,_,_,h,hr=>s77 h hr
 | 78,_,_,_,_,h,hr=>s78 h hr
 | 79,_,_,_,_,h,hr=>tP [3] h hr
 | 80,_,_,_,_,h,hr=>tP [0] h hr
 | 81,_,_,_,_,h,hr=>tP [83] h hr
 | 82,_,_,_,_,h,hr=>tP [84] h hr
 | 83,_,_,_,_,h,hr=>s83 h hr
 | 84,_,_,_,_,h,hr=>tP [0] h hr
 | 85,_,_,_,_,h,hr=>tP [87] h hr
 | 86,_,_,_,_,h,hr=>tP [88] h hr
 | 87,_,_,_,_,h,hr=>tP [89] h hr
 | 88,_,_,_,_,h,hr=>tP [0] h hr
 | 89,_,_,_,_,h,hr=>tP [91] h hr
 | 90,_,_,_,_,h,hr=>tP [92] h hr
 | 91,_,_,_,_,h,hr=>tP [93] h hr
 | 92,_,_,_,_,h,hr=>tP [4] h hr
 | 93,_,_,_,_,h,hr=>tP [0] h hr
 | 94,_,_,_,_,h,hr=>tP [96] h hr
 | 95,_,_,_,_,h,hr=>tP [97] h hr
 | 96,_,_,_,_,h,hr=>s96 h hr
 | 97,_,_,_,_,h,hr=>s97 h hr
 | 98,_,_,_,_,h,hr=>s98 h hr
 | 99,_,_,_,_,h,hr=>tP [6] h hr
 | 100,_,_,_,_,h,hr=>tP [101] h hr
 | n + 101,hn,_,_,_,_,_=>absurd hn (by omega)
def wS (W:Wt):List (Int × Value):=[(1,slc (W.b 1) 8),(2,slc (W.b 2) 5),(3,slc (W.b 3) 2),(4,slc (W.b 4) 4)]
theorem UD {id:Nat} (h1:a.tmps.size=108) (h2:a.defers=ds) (h3:a.tmps[0]?=some (pt bm om)) (h4:a.tmps[3]?=some (DA 118)) (h5:a.tmps[4]?=some (DA 119)) (hs:aB W0 w R)
  (hQ:∀ a' w' W aD,a'.tmps.size=108→a'.defers=ds→a'.tmps[0]?=some (pt bm om)→a'.tmps[5]?=some (.map (some W.m))→aD.Perm (wS W)→aB W0 w' (Mp (aC .i64) W.m aD::Bk (W.b 1) 188 (oG bm om)::Bk (W.b 2) 188 (oF bm om)::Bk (W.b 3) 188 (oE bm om)::Bk (W.b 4) 188 (oD bm om)::R)→Q .normal a' w') :
  (Code.region id zI true).wp Tryz.prog Q a w:=by
 have hno:∀ k,(Array.replicate zI.size false).getD k false=false:=fun k=>bJ (bP _ _);have hI:jP zI bm om W0 R ds (Array.replicate zI.size false) a { w with drawn:=w.drawn + 1 }:=by
  refine ⟨by simp,fun j oj hj hl=>(bP _ _ hl).elim,h1,h2,⟨0,fun _=>0⟩,[],?_,?_,fun i o d _ hl=>(bP _ _ hl).elim,?_⟩
  ·unfold eU; simp only [hno,cond_false,List.append_nil]; exact List.Perm.refl _
  ·rintro t (rfl | rfl | rfl)
   ·exact h3
   ·exact h4
   exact h5
  unfold fM; simp only [hno,cond_false,List.append_nil,List.nil_append]; exact hs.drew
 refine wp_region_any (show Tryz.prog.follows .mixedOrders=true by kernel_rfl) (nX (I:=jP zI bm om W0 R ds) (fun l a w h=>h.fS) (fun l a w i h hi=>?_) (fun l a w h hr=>?_) _ _ _ _ hI (by unfold left; exact Nat.le_trans List.countP_le_length (by simp)))
 ·obtain ⟨o,r⟩:=cJ h.fS hi;exact aBo i (by have:=r.lt; rw [gJ.sz] at this; exact this) h hi
 have hall:=qU h.fS gJ.tp hr;rw [gJ.sz] at hall;have hf:∀ k,k < 101→l.getD k false=true:=hall;obtain ⟨W,aD,e1,e2,e3,e4⟩:=h.st;have q5:a.tmps[5]?=some (.map (some W.m)):=e3 100 _ 5 rfl (hall 100 (by decide)) rfl;refine hQ a w W aD h.OL h.HE (e2 0 (.inl rfl)) q5 ?_ ?_
 ·have:eU W (fun j=>l.getD j false)=wS W:=by
   unfold eU; simp only [hf 40 (by decide),hf 67 (by decide),hf 78 (by decide),hf 98 (by decide),cond_true]; rfl
  rw [← this]; exact e1
 unfold fM at e4; simp only [hf 0 (by decide),hf 39 (by decide),hf 66 (by decide),hf 77 (by decide),hf 97 (by decide),cond_true] at e4;exact e4
end
end
noncomputable section
section
variable {bm om:Nat} {W0 W w:World} {R:List aA} {g:G} {me:T Ob} {nx:Pos}
def rowOf (k:Int) (bm om:Nat):Option (Nat × List Value):=if k=1 then some (8,oG bm om) else if k=2 then some (5,oF bm om) else if k=3 then some (2,oE bm om) else if k=4 then some (4,oD bm om) else none
theorem EX.ldc {kn:Kn} {L:List aA} {d g t' x ty ps af v} {b o:Nat} (hx:Proofs.YtadggjnohohedaaGreatDoor.ev kn x=some (.pointer (some ⟨b,o,none⟩))) (hc:∀ w,aB W0 w L→w.cell? ⟨b,o,none⟩=some v) (h1:One Tryz.prog t'):EX Tryz.prog W0 kn L ⟨d,.load t' x,ty,ps,af,g⟩ v:=fun ρ w he hs=>by
 have hrd:=hc w hs;simp only [execOp,he x _ hx,Sem.run_bind,Instr.loadAt,Instr.sureAddr,loadVar,h1 w,Result.andThen_ok,Sem.run_pure,Bool.false_eq_true,if_false,run_load,hrd]
theorem IT {A B:List (Int × Value)} (h:A.Perm B) (hn:(B.map (·.1)).Nodup) (k:Int):Proofs.YtadggjnohohedaaGreatDoor.look A k=Proofs.YtadggjnohohedaaGreatDoor.look B k:=by
 have hA:(A.map (·.1)).Nodup:=(h.map (·.1)).nodup_iff.2 hn;have key:∀ {L:List (Int × Value)},(L.map (·.1)).Nodup→∀ v,Proofs.YtadggjnohohedaaGreatDoor.look L k=some v↔(k,v)∈L:=by
  intro L;induction L with
  | nil=>intro _ v; simp [Proofs.YtadggjnohohedaaGreatDoor.look]
  | cons p r ih =>
   intro hL v;simp only [List.map_cons,List.nodup_cons] at hL;have:=ih hL.2 v;unfold Proofs.YtadggjnohohedaaGreatDoor.look at this ⊢;simp only [List.find?_cons]
   by_cases e:k=p.1
   ·subst e;simp only [decide_true,Option.map_some,Option.some.injEq,List.mem_cons];refine ⟨fun h=>.inl (by rw [← h]),?_⟩;rintro (h | h)
    ·rw [← h]
    exact (hL.1 (List.mem_map.2 ⟨_,h,rfl⟩)).elim
   simp only [decide_eq_false e,List.mem_cons];rw [this];refine ⟨.inr,?_⟩;rintro (h | h)
   ·exact (e (by rw [← h])).elim
   exact h
 cases hb:Proofs.YtadggjnohohedaaGreatDoor.look B k with
 | some v=>exact (key hA v).2 (h.mem_iff.2 ((key hn v).1 hb))
 | none =>
  cases ha:Proofs.YtadggjnohohedaaGreatDoor.look A k with
  | none=>rfl
  | some v=>rw [(key hn v).2 (h.mem_iff.1 ((key hA v).1 ha))] at hb; cases hb
theorem aGj:ZV Tryz.prog 182 (.slice none 0 0):=by unfold ZV; kernel_rfl
theorem AC {k:Int} (hs:aB W0 w R) (hcell:∀ w,aB W0 w R→w.cell? ⟨bm,om,none⟩=some (.int .i64 k)) :
  Calls Tryz.prog 73 [pt bm om].toArray w fun e w'=>(∃ b n xs,rowOf k bm om=some (n,xs)∧e=.returned (slc b n)∧aB W0 w' (Bk b 188 xs::R))∨(rowOf k bm om=none∧e=.returned (.slice none 0 0)∧aB W0 w' R):=by
 refine calls_of_wp Tryz.func73 rfl ?_;refine (show GC Tryz.prog W0 Tryz.f73.ntmps [] _ (bodyPost Tryz.prog Tryz.f73 _) (iQ 0 [pt bm om]) R from ?_) _ _ (fF [pt bm om] (Nat.le_of_ble_eq_true rfl)) hs;rw [show Tryz.f73.ntmps=108 from Tryz.ntmps73];refine GC.seq (GC.region (L.v (EX.assign rfl) rfl rfl rfl (GL.nil (GE.seq ?_))));refine GC.seq (GC.region (L.v (EX.assign rfl) rfl rfl rfl (GL.nil (GE.seq ?_))));refine GC.seq (GC.region (L.v (EX.assign rfl) rfl rfl rfl (GL.nil (GE.seq ?_))));refine GC.seq ?_;intro a w ha hs;refine UD (bm:=bm) (om:=om) (ds:=[]) ha.size ha.defers (ha.known 0 _ rfl) (ha.known 3 _ rfl) (ha.known 4 _ rfl) hs ?_;intro a' w' W aD h1 h2 h3 h4 h5 h6;have ha':Has 108 [] [(0,pt bm om),(5,.map (some W.m))] a':=by
  refine ⟨h1,h2,fun d v hd=>?_⟩;simp only [Proofs.YtadggjnohohedaaGreatDoor.lk] at hd;cases e0:Nat.beq 0 d with
  | true=>rw [e0] at hd; simp only [cond_true,Option.some.injEq] at hd; have:=Nat.eq_of_beq_eq_true e0; subst this; subst hd; exact h3
  | false =>
   rw [e0] at hd;cases e5:Nat.beq 5 d with
   | true=>rw [e5] at hd; simp only [cond_true,cond_false,Option.some.injEq] at hd; have:=Nat.eq_of_beq_eq_true e5; subst this; subst hd; exact h4
   | false=>rw [e5] at hd; cases hd
 refine (show GC Tryz.prog W0 108 [] _ _ [(0,pt bm om),(5,.map (some W.m))] (Mp (aC .i64) W.m aD::Bk (W.b 1) 188 (oG bm om)::Bk (W.b 2) 188 (oF bm om)::Bk (W.b 3) 188 (oE bm om)::Bk (W.b 4) 188 (oD bm om)::R) from ?_) a' w' ha' h6;have hlk:Proofs.YtadggjnohohedaaGreatDoor.look aD k=Proofs.YtadggjnohohedaaGreatDoor.look (wS W) k:=IT h5 (by simp [wS]) k;refine GC.seq (GC.region ?_);refine L.v (EX.move rfl) rfl rfl rfl ?_;refine L.v (EX.move rfl) rfl rfl rfl ?_;refine L.v (EX.nilCheck rfl) rfl rfl rfl ?_;refine L.v (EX.fieldAddr rfl fA) rfl rfl rfl ?_;refine L.v (EX.ldc (v:=.int .i64 k) (b:=bm) (o:=om + 0) rfl (fun w h=>hcell w h.tail.tail.tail.tail.tail) (One.of uN rfl)) rfl rfl rfl ?_;refine L.v (EX.lookup (enc:=aC .i64) (a:=k) rfl rfl .here (oR uN rfl) Tryz.underlying265 aGj) rfl rfl rfl ?_;refine L.v (EX.assign rfl) rfl rfl rfl ?_;refine GL.nil (GE.seq ?_);refine GC.ret (GE.out rfl rfl (fun w h=>?_));rw [hlk];have hh:=h.tail;unfold rowOf wS Proofs.YtadggjnohohedaaGreatDoor.look
 by_cases k1:k=1
 ·subst k1; left; exact ⟨W.b 1,8,_,rfl,rfl,hh.perm ((List.Perm.cons _ (List.Perm.refl _))) |>.p1.tail.p1.tail.p1.tail⟩
 by_cases k2:k=2
 ·subst k2; left; exact ⟨W.b 2,5,_,rfl,rfl,hh.tail.p1.tail.p1.tail⟩
 by_cases k3:k=3
 ·subst k3; left; exact ⟨W.b 3,2,_,rfl,rfl,hh.tail.tail.p1.tail⟩
 by_cases k4:k=4
 ·subst k4; left; exact ⟨W.b 4,4,_,rfl,rfl,hh.tail.tail.tail⟩
 right;refine ⟨by simp [k1,k2,k3,k4],by simp [k1,k2,k3,k4,fT],hh.tail.tail.tail.tail⟩
theorem NI {i:Pos} {oo:Nat} (h:g.fQ i=some (bm,oo)) (o k n:Nat) (l:List SV) (hk:fieldsOf k i o=some (n,l)):∃ xs,rowOf k bm o=some (n,xs)∧aF (aE g) l=some xs:=by
 unfold fieldsOf at hk;split at hk;all_goals first | (injection hk with hk; injection hk with h1 h2; subst h1; subst h2; exact ⟨_,rfl,by simp [app,fd1,B7,fdN,fdI,fdT,uu,aF,aE,aI,h,oG,oF,oE,oD,c1,c2,cN,cI,cT,pt]⟩) | cases hk
theorem FV (hF:eT.Ok Tryz.prog W0) (bU:Tryz.prog.follows .mixedOrders=true):qY Tryz.prog W0 73 qM:=by
 refine ⟨eN,fun vs me nx v me' nx' h W R g xs hf hx hm=>?_,fun vs me nx v me' nx' h=>?_⟩
 ·unfold qM at h;split at h
  ·rename_i i o;split at h
   ·rename_i cs hc;split at h
    ·rename_i k hn;obtain ⟨x,us,d1,d2,rfl⟩:=aK hx;have:us=[]:=by simpa [aF] using d2.symm
     subst this;obtain ⟨q,q1,rfl⟩:=fH d1;have hcell:∀ w,aB W0 w (mem g me++R)→w.cell? ⟨q.1,o,none⟩=some (.int .i64 (k:Int)):=by
      intro w hw;obtain ⟨q',xs,e1,e2,e3⟩:=hD hw hc;rw [q1] at e1; obtain rfl:=Option.some.inj e1;refine e3 o _ ?_;obtain ⟨x,f1,f2⟩:=gZ e2 (show cs[o]?=some _ by rw [← hZ]; exact hn);rw [f1,← f2]; rfl
     refine (AC hm hcell).mono ?_;rintro e w' (⟨b,n,xs,r1,rfl,r3⟩ | ⟨r1,rfl,r3⟩)
     ·split at h
      ·rename_i n' l hfo;injection h with h1 h2 h3; subst h1; subst h2; subst h3;obtain ⟨ys,y1,y2⟩:=NI (show g.fQ i=some (q.1,q.2) from q1) o k n' l hfo;have hr:rowOf (k:Int) q.1 o=rowOf k q.1 o:=rfl;rw [y1] at r1; injection r1 with r1; injection r1 with r1 r2; subst r1; subst r2;have hlen:ys.length=n' * 5:=by
        rcases k with _ | _ | _ | _ | _ | k <;> first | (injection hfo with hfo; injection hfo with aE0 aR9; subst aE0; injection y1 with y1; injection y1 with _ y1; subst y1; rfl) | cases hfo
       have h6:=r3.uC (e:=188) (s:=5) (n:=n') hlen (by
        rcases k with _ | _ | _ | _ | _ | k <;> first | (injection hfo with hfo; injection hfo with aE0 aR9; subst aE0; decide) | cases hfo)
       exact ⟨g.set nx (b,n'),slc b n',rfl,G.bX _ _ _,G.aY hf _,by rw [Pos.bW]; omega,mF (G.bL g nx _),tR hf (dW hm hf) y2 h6⟩
      rename_i hfo;exfalso;rcases k with _ | _ | _ | _ | _ | k;all_goals first | (cases hfo; done) | skip
      ·simp [rowOf] at r1
      have h1:((k + 1 + 1 + 1 + 1 + 1:Nat):Int)≠1∧((k + 1 + 1 + 1 + 1 + 1:Nat):Int)≠2∧((k + 1 + 1 + 1 + 1 + 1:Nat):Int)≠3∧((k + 1 + 1 + 1 + 1 + 1:Nat):Int)≠4:=by omega
      unfold rowOf at r1;rw [if_neg h1.1,if_neg h1.2.1,if_neg h1.2.2.1,if_neg h1.2.2.2] at r1;cases r1
     split at h
     ·rename_i n' l hfo;obtain ⟨ys,y1,y2⟩:=NI (show g.fQ i=some (q.1,q.2) from q1) o k n' l hfo;rw [r1] at y1; cases y1
     injection h with h1 h2 h3; subst h1; subst h2; subst h3;exact ⟨g,_,rfl,G.ext.refl _ _,hf,Nat.le_refl _,rfl,r3⟩
    cases h
   cases h
  cases h
 unfold qM at h;split at h
 ·split at h
  ·split at h
   ·split at h <;> cases h
   cases h
  cases h
 cases h
end
end
noncomputable section
def Hp (b:Nat) (o:Obj):aA where
 is W F:=W.heap[b]?=some o∧∀ x,F x↔x=b
 lt W F h x hx:=by
  rw [(h.2 x).1 hx];rcases Nat.lt_or_ge b W.heap.size with h2 | h2
  ·exact h2
  have:=h.1; rw [Array.getElem?_eq_none h2] at this; cases this
 keep W W' F h e:=⟨(e b ((h.2 b).2 rfl)).trans h.1,h.2⟩
section
variable {P:Program} {W0 W w:World} {L L' R:List aA} {b:Nat} {o o':Obj} {kn:Kn} {N:Nat} {ds:List Deferred} {ops:Array Oper} {Q:Exit→Act→World→Prop} {r:List Oper} {F:Fence} {n:Nat}
theorem aB.hp (h:aB W0 W (Hp b o::L)):W.heap[b]?=some o:=by obtain ⟨A,hA⟩:=h.fact; exact hA.1
theorem aB.WI (o:Obj) (h:aB W0 W L):aB W0 (W.alloc o) (Hp W.heap.size o::L) :=
 h.more ((Below.refl _ _).alloc (Nat.le_refl _) _) (A:=fun x=>x=W.heap.size) ⟨heap_alloc_new W _,fun x=>Iff.rfl⟩ (fun b e=>by rw [e]; exact Nat.le_refl _)
theorem aB.zF (h:aB W0 W (Hp b o::L)) (o':Obj):aB W0 (W.putObj b o') (Hp b o'::L):=by
 have hb:=aB.hp h;have hlt:b < W.heap.size:=by
  rcases Nat.lt_or_ge b W.heap.size with h2 | h2
  ·exact h2
  rw [Array.getElem?_eq_none h2] at hb; cases hb
 refine h.turn (A:=fun x=>x=b) ⟨rfl,rfl,rfl⟩ (by simp) (fun F hF=>⟨⟨by simp [World.putObj,hlt],fun x=>Iff.rfl⟩,fun x hx=>.inl ((hF.2 x).2 hx),fun x hx hn=>?_⟩);have hne:b≠x:=fun e=>hn ((hF.2 x).2 e.symm);simp [World.putObj,Array.getElem?_setIfInBounds_ne hne]
theorem EX.min2 {d g ty ps af x y k m n r tys} (hx:Proofs.YtadggjnohohedaaGreatDoor.ev kn x=some (.int k m)) (hy:Proofs.YtadggjnohohedaaGreatDoor.ev kn y=some (.int k n)) (hr:(if n < m then n else m)=r):EX P W0 kn L ⟨d,.call { callee:=.builtin .min,args:=#[x,y],argTypes:=tys },ty,ps,af,g⟩ (.int k r):=fun ρ w he hs=>by
 subst hr; simp [execOp,resolve,invoke,builtin,Builtin.min_,Builtin.min2,he x _ hx,he y _ hy]
theorem EX.slice3 {d g ty ps af T e x y z a m c} {i:TypeInfo} (hx:Proofs.YtadggjnohohedaaGreatDoor.ev kn x=some (.slice (some a) m c)) (hy:Proofs.YtadggjnohohedaaGreatDoor.ev kn y=some (.int .i64 (m:Nat))) (hz:Proofs.YtadggjnohohedaaGreatDoor.ev kn z=some (.int .i64 (m:Nat))) (hT:P.underlying T=some (.slice e)) (hi:P.info? e=some i) (hm:m≤c) (h0:0 < m) :
  EX P W0 kn L ⟨d,.slice T x none (some y) (some z),ty,ps,af,g⟩ (.slice (some (a.add 0)) m m):=fun ρ w he hs=>by
 have hne:m≠0:=by omega
 simp only [execOp,he x _ hx,Option.map_none,Option.map_some,he y _ hy,he z _ hz,Sem.run_bind,Instr.sliceAt,Instr.slice,underlying,run_program,Result.andThen_ok,hT,Sem.run_pure,Instr.sliceBounds,Instr.sliceBound,asIntOf,sizeOf,typeInfo,hi];simp [hm,hne]
theorem EX.BC {d g ty ps af T e x y a m c} {i:TypeInfo} (hx:Proofs.YtadggjnohohedaaGreatDoor.ev kn x=some (.slice (some a) m c)) (hy:Proofs.YtadggjnohohedaaGreatDoor.ev kn y=some (.int .i64 (m:Nat))) (hT:P.underlying T=some (.slice e)) (hi:P.info? e=some i) :
  ∃ a' c',EX P W0 kn L ⟨d,.slice T x (some y) none none,ty,ps,af,g⟩ (.slice a' 0 c'):=by
 refine ⟨(if c=m then some a else (some a).map (·.add (m * i.size))),c - m,fun ρ w he hs=>?_⟩;simp only [execOp,he x _ hx,Option.map_none,Option.map_some,he y _ hy,Sem.run_bind,Instr.sliceAt,Instr.slice,underlying,run_program,Result.andThen_ok,hT,Sem.run_pure,Instr.sliceBounds,Instr.sliceBound,asIntOf,sizeOf,typeInfo,hi];simp
theorem EF.cvb {d g ty ps af S T e x} {s:ByteArray} (hx:Proofs.YtadggjnohohedaaGreatDoor.ev kn x=some (.string s)) (h1:P.underlying S=some .string) (h2:P.underlying T=some (.slice e)) (h3:P.underlying e=some (.int .u8)) :
  EF P W0 kn L ⟨d,.convert S T x,ty,ps,af,g⟩ (fun q:Nat × Nat=>.slice (some ⟨q.1,0,none⟩) s.size q.2) (fun q=>Ro q.1 (s.data.toList.map fun c=>Value.int .u8 c.toNat)::L) (fun q=>s.size≤q.2):=fun ρ w he hs=>by
 refine ⟨(w.heap.size,grownCap w s.size 0 e),Lib.bytesWorld w e s,?_,?_,?_⟩
 ·exact grownCap_ge w s.size 0 e
 ·simp only [execOp,he x _ hx,Sem.run_bind,Lib.run_convert_string_bytes w S T e s h1 h2 h3,Result.andThen_ok]; rfl
 have hbel:Below w.heap.size w (Lib.bytesWorld w e s):=by
  refine ⟨rfl,rfl,rfl,?_,fun b hb=>Lib.bytesWorld_at_old w e _ b hb⟩;rw [Lib.bytesWorld_size]; omega
 refine hs.more hbel (A:=fun x=>x=w.heap.size) ⟨⟨_,_,_,Lib.bytesWorld_at_new w e _,fun j v hv=>?_⟩,fun x=>Iff.rfl⟩ (fun b e=>by rw [e]; exact Nat.le_refl _);have hj:j < s.data.toList.length:=by
  rcases Nat.lt_or_ge j s.data.toList.length with h' | h'
  ·exact h'
  rw [List.getElem?_eq_none (by simpa using h')] at hv; cases hv
 rw [List.getElem?_map,List.getElem?_eq_getElem hj] at hv;simp only [Option.map_some,Option.some.injEq] at hv;subst hv;unfold Lib.bytesCells;rw [Array.getElem?_append_left (by simpa using hj)];simp at hj;simp [hj]
theorem aB.ro {xs:List Value} (h:aB W0 W L) (p:Pick L (Ro b xs) R):∀ j v,xs[j]?=some v→W.cell? ⟨b,j,none⟩=some v:=by
 have h1:=h.perm p.perm;obtain ⟨A,hA⟩:=h1.fact;obtain ⟨⟨C,e,f,hb,hc⟩,_⟩:=hA;intro j v hv;simp [World.cell?,hb,hc j v hv]
theorem EX.cvs {d g ty ps af S T e x c o} {s:ByteArray} (hx:Proofs.YtadggjnohohedaaGreatDoor.ev kn x=some (.slice (some ⟨b,o,none⟩) s.size c)) (ho:o=0) (p:Pick L (Ro b (s.data.toList.map fun c=>Value.int .u8 c.toNat)) R) (h1:P.underlying S=some (.slice e)) (h2:P.underlying e=some (.int .u8)) (h3:P.underlying T=some .string) :
  EX P W0 kn L ⟨d,.convert S T x,ty,ps,af,g⟩ (.string s):=fun ρ w he hs=>by
 subst ho;have hrd:=aB.ro hs p;have hr:=run_convert_bytes_arg (P:=P) w S e h1 h2 b 0 s.size c (s.data.toList.map fun c=>(c.toNat:Int)) (by rw [List.length_map,Array.length_toList]; rfl) (fun i hi=>by
  have hi':i < s.data.toList.length:=by rw [Array.length_toList]; exact hi
  rw [Nat.zero_add,hrd i (.int .u8 (s.data.toList[i].toNat)) (by rw [List.getElem?_map,List.getElem?_eq_getElem hi']; rfl)];rw [List.getD,List.getElem?_map,List.getElem?_eq_getElem hi']; rfl) T h3
 have hst:strOfNums (s.data.toList.map fun c=>(c.toNat:Int))=s:=by
  unfold strOfNums;simp [Function.comp_def]
 rw [hst] at hr;simp only [execOp,he x _ hx,Sem.run_bind,hr,Result.andThen_ok]; rfl
theorem GL.v_ {o:Oper} {v:Value} {d:Nat} (hx:EX P W0 kn L o v) (hd:o.dst=some d) (hN:Nat.blt d N=true) (hg:o.guard=none) (h:GL P W0 N ds ops Q r ((d,v)::kn) L):GL P W0 N ds ops Q (o::r) kn L:=GL.val hx hd hN (.free hg) h
theorem GL.u_ {o:Oper} {T:List aA} (hx:EU P W0 kn L o T) (hd:o.dst=none) (hg:o.guard=none) (h:GL P W0 N ds ops Q r kn T):GL P W0 N ds ops Q (o::r) kn L:=GL.do hx hd (.free hg) h
theorem GL.BC {d ty ps af T e x y a m c} {g:Option (Nat × Bool)} {i:TypeInfo} (hx:Proofs.YtadggjnohohedaaGreatDoor.ev kn x=some (.slice (some a) m c)) (hy:Proofs.YtadggjnohohedaaGreatDoor.ev kn y=some (.int .i64 (m:Nat))) (hT:P.underlying T=some (.slice e)) (hi:P.info? e=some i) {d':Nat} (hd:d=some d') (hN:Nat.blt d' N=true) (hg:g=none)
  (h:∀ a' c',GL P W0 N ds ops Q r ((d',.slice a' 0 c')::kn) L):GL P W0 N ds ops Q (⟨d,.slice T x (some y) none none,ty,ps,af,g⟩::r) kn L:=by
 obtain ⟨a',c',hh⟩:=EX.BC (W0:=W0) (L:=L) (d:=d) (g:=g) (ty:=ty) (ps:=ps) (af:=af) hx hy hT hi;exact GL.val hh hd hN (.free hg) (h a' c')
def HI (F:Fence) (n:Nat) (P:Program) (ops:Array Oper) (Q:Exit→Act→World→Prop):List Oper→Act→World→Prop
 | [],a,w=>Q .normal a w
 | o::r,a,w=>Region.wanted o (yielded ops a.tmps)=true∧o.wpIn F n P a w (HI F n P ops Q r) Q
theorem eW {F:Fence}:∀ (r:List Oper) (k:Nat) (a:Act) (w:World),(∀ j,r[j]?=ops[k + j]?)→HI F n P ops Q r a w→wpOpsIn F n P ops Q (List.range' k r.length) a w
 | [],k,a,w,hr,h=>h
 | o::r,k,a,w,hr,h=>by
  have h0:ops[k]?=some o:=by have:=hr 0; simpa using this.symm
  simp only [List.length_cons,List.range'_succ,wpOpsIn,h0];have hr':∀ j,r[j]?=ops[k + 1 + j]?:=fun j=>by have:=hr (j + 1); rw [show k + 1 + j=k + (j + 1) by omega]; simpa using this
  rw [if_pos h.1];refine ⟨h.2.1,?_⟩;have h2:=h.2.2;generalize (o.semAt F.round a.eval).run P w=q at h2 ⊢;cases q with
  | ok nx w' =>
   cases nx <;> simp only [Oper.uponIn] at h2 ⊢
   case value v=>exact eW r (k + 1) _ _ hr' h2
   case skip=>exact eW r (k + 1) _ _ hr' h2
   case defer d=>exact eW r (k + 1) _ _ hr' h2
   case enter f args =>
    refine ⟨h2.1,h2.2.mono fun e w'' he=>?_⟩;cases e with
    | returned v=>exact eW r (k + 1) _ _ hr' he
    | panicked ch=>exact he
    | outgrown=>exact he
   case row rr args =>
    refine ⟨h2.1,fun c cs hroom=>?_⟩;obtain ⟨v,w3,h3,h4⟩:=h2.2 c cs hroom;exact ⟨v,w3,eW r (k + 1) _ _ hr' h3,h4⟩
   case round l f tmps assign body =>
    refine ⟨h2.1,h2.2.mono fun e w'' he=>?_⟩;cases e with
    | returned v=>exact eW r (k + 1) _ _ hr' he
    | panicked ch=>exact he
    | outgrown=>exact he
  | halt x w'=>cases x <;> simp only [Oper.uponIn] at h2 ⊢ <;> exact h2
theorem gQ {id:Nat} {a:Act} (h:HI F n P ops Q ops.toList a w):(Code.region id ops false).wpIn F n P Q a w:=by
 refine wpIn_region ?_;have:=eW (P:=P) (Q:=Q) (F:=F) (n:=n) ops.toList 0 a w (fun j=>by simp) h;rw [List.range_eq_range'];simpa using this
def iT (F:Fence) (n:Nat) (P:Program) (W0:World) (N:Nat) (ds:List Deferred) (ops:Array Oper) (Q:Exit→Act→World→Prop) (l:List Oper) (kn:Kn) (L:List aA):Prop :=
 ∀ a w,Has N ds kn a→aB W0 w L→HI F n P ops Q l a w
theorem iT.nil (h:∀ a w,Has N ds kn a→aB W0 w L→Q .normal a w):iT F n P W0 N ds ops Q [] kn L:=h
theorem iT.val {o:Oper} {v:Value} {d:Nat} (hF:∀ f,F.fn f) (hnd:∀ c,o.op≠.defer c) (hx:EX P W0 kn L o v) (hd:o.dst=some d) (hN:Nat.blt d N=true) (hg:o.guard=none) (h:iT F n P W0 N ds ops Q r ((d,v)::kn) L):iT F n P W0 N ds ops Q (o::r) kn L:=by
 intro a w ha hs;refine ⟨aU hg _,fun f _=>hF f,?_⟩;rw [Oper.semAt_eq _ _ _ hnd,hx a.eval w ha.ev hs];show HI F n P ops Q r (a.put o.dst v) w;rw [hd]; exact h _ _ (ha.put d v hN) hs
theorem iT.nB {α:Type} {o:Oper} {v:α→Value} {T:α→List aA} {C:α→Prop} {d:Nat} (hF:∀ f,F.fn f) (hnd:∀ c,o.op≠.defer c) (hx:EF P W0 kn L o v T C) (hd:o.dst=some d) (hN:Nat.blt d N=true) (hg:o.guard=none)
  (h:∀ x,C x→iT F n P W0 N ds ops Q r ((d,v x)::kn) (T x)):iT F n P W0 N ds ops Q (o::r) kn L:=by
 intro a w ha hs;refine ⟨aU hg _,fun f _=>hF f,?_⟩;obtain ⟨x,w',h1,h2,h3⟩:=hx a.eval w ha.ev hs;rw [Oper.semAt_eq _ _ _ hnd,h2];show HI F n P ops Q r (a.put o.dst (v x)) w';rw [hd]; exact h x h1 _ _ (ha.put d _ hN) h3
theorem iT.do {o:Oper} {T:List aA} (hF:∀ f,F.fn f) (hnd:∀ c,o.op≠.defer c) (hx:EU P W0 kn L o T) (hd:o.dst=none) (hg:o.guard=none) (h:iT F n P W0 N ds ops Q r kn T):iT F n P W0 N ds ops Q (o::r) kn L:=by
 intro a w ha hs;refine ⟨aU hg _,fun f _=>hF f,?_⟩;obtain ⟨w',h2,h3⟩:=hx a.eval w ha.ev hs;rw [Oper.semAt_eq _ _ _ hnd,h2];show HI F n P ops Q r (a.put o.dst undef) w';rw [hd]; exact h _ _ (ha.aOq _) h3
theorem iT.yield {σ:Type} {C:σ→Prop} {d t l:Nat} {xs:List Operand} {tys:Array TypeId} {ty ps af} {vs:List Value} {T:σ→List aA} {v:Value} (hF:∀ f,F.fn f) (hdp:F.depth=none) (ht:Proofs.YtadggjnohohedaaGreatDoor.lk kn t=some (.func (.yield l) #[] #[])) (hx:evs kn xs=some vs) (hN:Nat.blt d N=true)
  (hY:∀ w,aB W0 w L→YieldAt F (n - 1) P l vs.toArray w fun e w'=>∃ x,C x∧e=.returned v∧aB W0 w' (T x)) (h:∀ x,C x→iT F n P W0 N ds ops Q r ((d,v)::kn) (T x)):iT F n P W0 N ds ops Q (⟨some d,.call { callee:=.value (.tmp t),args:=xs.toArray,argTypes:=tys },ty,ps,af,none⟩::r) kn L:=by
 intro a w ha hs;refine ⟨aU rfl _,fun f _=>hF f,?_⟩;obtain ⟨fn,tmps,assign,body,h1,h2⟩:=hY w hs;have e1:xs.toArray.map a.eval=vs.toArray:=by rw [← kE ha.ev hx]; simp
 have e0:a.eval (.tmp t)=.func (.yield l) #[] #[]:=ha.ev _ _ ht;rw [Oper.semAt_eq _ _ _ (fun c hc=>by cases hc)];have hr:(execOp a.eval ⟨some d,.call { callee:=.value (.tmp t),args:=xs.toArray,argTypes:=tys },ty,ps,af,none⟩).run P w=.ok (.round l fn tmps assign body) w:=by
  simp only [execOp,resolve,e0,e1,Deferred.ofValue,Sem.run_bind,Sem.run_pure,Result.andThen_ok,invoke,Array.empty_append,Array.append_empty,h1]
 rw [hr];refine ⟨fun hd=>(by rw [hdp] at hd; cases hd),h2.mono ?_⟩;rintro e w' ⟨x,hx,rfl,hs'⟩;exact h x hx _ _ (ha.put d v hN) hs'
end
end
noncomputable section
section
variable {P:Program} {W0 W w:World} {L L' R X:List aA} {kn:Kn} {N:Nat} {ds:List Deferred} {Q:Exit→Act→World→Prop}
theorem GC.aIx {c:Code} (h:GC P W0 N ds c (Exit.then (c.wp P (Exit.then (fun _ _=>False) Q)) Q) kn L):GC P W0 N ds (.loop c) Q kn L:=fun a w ha hs=>wp_loop_rounds 2 (h a w ha hs)
theorem GE.again {c:Code} {Q1:Exit→Act→World→Prop} (h:GC P W0 N ds c Q1 kn L):GE W0 N ds .normal (Exit.then (c.wp P Q1) Q) kn L:=h
theorem i5:∃ i,Tryz.prog.info? 5=some i:=⟨_,rfl⟩
theorem ZB {σ:Type} {C:σ→Prop} {X':σ→List aA} {l b2 b3 m:Nat} {a0:Addr} {n cap:Nat} {size:Int} (hn:0 < n) (hcap:n≤cap) (hsz:(n:Int)≤size)
  (hY:∀ w,aB W0 w (Bk b2 248 [.slice (some a0) n cap]::Bk b3 3 [.int .i64 size]::X)→YieldAt Fence.wide m Tryz.prog l #[.int .i64 0,.slice (some (a0.add 0)) n n] w fun e w'=>∃ x,C x∧e=.returned (.bool true)∧aB W0 w' (Bk b2 248 [.slice (some a0) n cap]::Bk b3 3 [.int .i64 size]::X' x))
  (hs:aB W0 w (Bk b2 248 [.slice (some a0) n cap]::Bk b3 3 [.int .i64 size]::X)) :
  Calls Tryz.prog 155 [.func (.yield l) #[] #[],.pointer (some ⟨b2,0,none⟩),.pointer (some ⟨b3,0,none⟩)].toArray w fun e w'=>∃ x,C x∧e=.returned (.tuple #[])∧aB W0 w' (X' x):=by
 obtain ⟨i,hi⟩:=i5;have hmin:(if (n:Int) < size then (n:Int) else size)=(n:Int):=by split <;> omega
 refine calls_of_wp Tryz.func155 rfl ?_;refine (show GC Tryz.prog W0 Tryz.f155.ntmps [] _ (bodyPost Tryz.prog Tryz.f155 _) (iQ 0 [.func (.yield l) #[] #[],.pointer (some ⟨b2,0,none⟩),.pointer (some ⟨b3,0,none⟩)]) _ from ?_) _ _ (fF [_,_,_] (Nat.le_of_ble_eq_true rfl)) hs;rw [show Tryz.f155.ntmps=26 from Tryz.ntmps155];refine GC.seq (GC.region (GL.v_ (EX.assign rfl) rfl rfl rfl (GL.nil (GE.seq ?_))));refine GC.block (GC.aIx ?_);refine GC.seq (GC.seq (GC.region ?_));refine GL.v_ (EX.ld rfl rfl (One.of Tryz.underlying248 rfl)) rfl rfl rfl ?_;refine GL.v_ (EX.rT rfl Tryz.underlying248) rfl rfl rfl ?_;refine GL.v_ (EX.gtr rfl rfl) rfl rfl rfl ?_;refine GL.nil (GE.seq ?_);refine GC.aQ rfl (by simp; omega) (GC.skip (GE.seq ?_));refine GC.seq (GC.block (GC.seq (GC.region ?_)));refine GL.v_ (EX.ld rfl rfl (One.of Tryz.underlying3 rfl)) rfl rfl rfl ?_;refine GL.v_ (EX.ld rfl rfl (One.of Tryz.underlying248 rfl)) rfl rfl rfl ?_;refine GL.v_ (EX.rT rfl Tryz.underlying248) rfl rfl rfl ?_;refine GL.v_ (EX.min2 rfl rfl hmin) rfl rfl rfl ?_;refine GL.v_ (EX.assign rfl) rfl rfl rfl ?_;refine GL.nil (GE.seq ?_);refine GC.seq (GC.seq ?_);intro a w ha hs;refine (wpIn_wide (n:=m + 1)).1 (gQ ?_);refine (show iT Fence.wide (m + 1) Tryz.prog W0 26 [] _ _ _ _ _ from ?_) a w ha hs;have hF:∀ f,Fence.wide.fn f:=fun _=>trivial;refine iT.val hF (fun c hc=>by cases hc) (EX.move rfl) rfl rfl rfl ?_;refine iT.val hF (fun c hc=>by cases hc) (EX.move rfl) rfl rfl rfl ?_;refine iT.val hF (fun c hc=>by cases hc) (EX.ld rfl rfl (One.of Tryz.underlying248 rfl)) rfl rfl rfl ?_;refine iT.val hF (fun c hc=>by cases hc) (EX.move rfl) rfl rfl rfl ?_;refine iT.val hF (fun c hc=>by cases hc) (EX.move rfl) rfl rfl rfl ?_;refine iT.val hF (fun c hc=>by cases hc) (EX.slice3 rfl rfl rfl Tryz.underlying248 hi hcap hn) rfl rfl rfl ?_;refine iT.yield (vs:=[.int .i64 0,.slice (some (a0.add 0)) n n]) (l:=l) hF rfl rfl rfl rfl hY (fun x hx=>?_);refine iT.val hF (fun c hc=>by cases hc) (EX.not rfl) rfl rfl rfl ?_;refine iT.nil ?_;intro a w ha hs;refine (show GC Tryz.prog W0 26 [] _ _ _ _ from ?_) a w ha hs;refine GC.bH rfl rfl (GC.skip (GE.seq ?_));refine GC.region ?_;refine GL.v_ (EX.ld rfl rfl (One.of Tryz.underlying248 rfl)) rfl rfl rfl ?_;refine GL.v_ (EX.move rfl) rfl rfl rfl ?_;refine GL.BC rfl rfl Tryz.underlying248 hi rfl rfl rfl (fun a' c'=>?_);refine GL.u_ (EU.st rfl rfl (show SZ Tryz.prog 248 1 by unfold SZ; kernel_rfl) rfl rfl rfl) rfl rfl ?_;refine GL.nil (GE.block (GE.seq ?_));refine GC.region ?_;refine GL.v_ (EX.move rfl) rfl rfl rfl ?_;refine GL.v_ (EX.add rfl rfl rfl) rfl rfl rfl ?_;refine GL.v_ (EX.assign rfl) rfl rfl rfl ?_;refine GL.nil (GE.again ?_);refine GC.seq (GC.seq (GC.region ?_));refine GL.v_ (EX.ld rfl rfl (One.of Tryz.underlying248 rfl)) rfl rfl rfl ?_;refine GL.v_ (EX.rT rfl Tryz.underlying248) rfl rfl rfl ?_;refine GL.v_ (EX.gtr rfl rfl) rfl rfl rfl ?_;refine GL.nil (GE.seq ?_);refine GC.bH rfl (by simp) (GC.exit ?_);refine GE.bE (GE.bE ?_);intro a w ha hs;simp only [Exit.inBlock,if_true];exact (GE.lW (L:=Bk b2 248 [.slice a' 0 c']::Bk b3 3 [.int .i64 size]::X' x) rfl (fun w h=>⟨x,hx,rfl,h.tail.tail⟩)) a w (ha.sub (cZ:=[]) (fun p hp=>by cases hp)) hs
end
end
noncomputable section
section
variable {W0 W w:World} {L L' R X X':List aA} {kn:Kn} {N:Nat} {ds:List Deferred} {Q:Exit→Act→World→Prop}
def pp (b:Nat):Value:=.pointer (some ⟨b,0,none⟩)
theorem T6 (v:Value) (size:Int) (h1:vc v=[v]):bQ Tryz.prog 116 [v,.int .i64 size] [] (fun x:Nat × Nat=>.func (.func 155) #[] #[pp x.1,pp x.2]) (fun x=>[Bk x.1 248 [v],Bk x.2 3 [.int .i64 size]]) (fun _=>True):=by
 refine Fn.go Tryz.func116 rfl Tryz.ntmps116 rfl (fun W0 R=>?_);refine GC.app .a0 ?_;refine GC.seq (GC.region ?_);refine GL.nB (EF.box rfl) rfl rfl (.free rfl) (fun b2 _=>?_);refine GL.nB (EF.box rfl) rfl rfl (.free rfl) (fun b3 _=>?_);refine GL.v_ (EX.assign rfl) rfl rfl rfl ?_;refine GL.nil (GE.seq ?_);refine GC.seq (GC.region ?_);refine GL.v_ (EX.makeFunc (us:=[]) (vs:=[pp b2,pp b3]) rfl rfl) rfl rfl rfl ?_;refine GL.v_ (EX.assign rfl) rfl rfl rfl ?_;refine GL.nil (GE.seq ?_);refine GC.ret (GE.out rfl rfl (fun w h=>?_));rw [h1] at h;exact ⟨(b2,b3),trivial,rfl,h.p1⟩
theorem iT.turn {F:Fence} {n:Nat} {P:Program} {ops:Array Oper} {r:List Oper} (hL:∀ w,aB W0 w L→aB W0 w L') (h:iT F n P W0 N ds ops Q r kn L'):iT F n P W0 N ds ops Q r kn L:=fun a w ha hs=>h a w ha (hL w hs)
def mark (b:Nat):Deferred:={ target:=.collected b,args:=#[] }
theorem aNj:C2 Tryz.prog 172 96 4 40 (.agg #[.int .u64 0,.int .i64 0,.int .i64 0,.string ⟨#[]⟩]):=⟨Tryz.underlying172,by kernel_rfl,rfl,by decide⟩
theorem EH {b2 b3 l D:aA} (Y:List aA):(b2::b3::l::D::Y).Perm (Y++[b2,b3,l,D]):=List.perm_append_comm (l₁:=[b2,b3,l,D]) (l₂:=Y)
theorem aA7 {a:Act} {G:Prop} (ha:Has N ds kn a) (k:∀ cZ,cZ=kn→Has N ds cZ a→G):G:=k kn rfl ha
theorem aLh (t:Array Value) (x y:Value):((#[49,50]:Array Tmp).zip #[x,y]).foldl (fun t (p,v)=>t.setIfInBounds p v) t=(t.setIfInBounds 49 x).setIfInBounds 50 y:=by simp
theorem aB1 {σ:Type} {C:σ→Prop} {Y:List aA} {Y':σ→List aA} {g:Operand} {ps:Array Tmp} {assign body:Code} {a:Act} {A:Act→Prop} {b2 b3 n cap:Nat} {a0:Addr} {size:Int} (hg:a.eval g=.func (.func 155) #[] #[pp b2,pp b3]) (hps:ps.size=2) (hn:0 < n) (hcap:n≤cap) (hsz:(n:Int)≤size)
  (hs:aB W0 w (Bk b2 248 [.slice (some a0) n cap]::Bk b3 3 [.int .i64 size]::Y))
  (ha:∀ (l m:Nat) (w:World) (Z:List aA) (K:Act→World→Prop),aB W0 w (Y++Z)→(∀ a1 w1,A a1→aB W0 w1 (Y++Z)→K a1 w1)→assign.wpIn (Fence.wide.inRound l) m Tryz.prog (Exit.then K (fun _ _ _=>False)) { tmps:=(ps.zip #[.int .i64 0,.slice (some (a0.add 0)) n n]).foldl (fun t (p,v)=>t.setIfInBounds p v) a.tmps,defers:=[] } w)
  (hb:∀ (l m:Nat) (w:World) (Z:List aA) (a1:Act),A a1→aB W0 w (Y++Z)→body.wpIn (Fence.wide.inRound l) m Tryz.prog (fun e a' w'=>e=.normal∧∃ x,C x∧aB W0 w' (Y' x++Z)) a1 w)
  (hQ:∀ x D w',C x→aB W0 w' (Hp D (.deferred (some []))::Y' x)→Q .normal { a with defers:=mark D::a.defers } w'):(Code.rangeFunc g ps assign body).wp Tryz.prog Q a w:=by
 refine (wpIn_wide (n:=3)).1 (wpIn_rangeFunc (fun fn hfn=>?_));obtain ⟨rec,hrec⟩:∃ rec:LoopState→Loop,rec=fun st=>{ state:=st,pending:=none,fn,tmps:=a.tmps,params:=ps,assign,body,defers:=w.heap.size }:=⟨_,rfl⟩;obtain ⟨W1,hW1⟩:∃ W1,(w.alloc (.deferred (some []))).alloc (.loop (rec .ready))=W1:=⟨_,rfl⟩;have hs1:aB W0 W1 (Hp (w.heap.size + 1) (.loop (rec .ready))::Hp w.heap.size (.deferred (some []))::Bk b2 248 [.slice (some a0) n cap]::Bk b3 3 [.int .i64 size]::Y):=by
  have:=aB.WI (.loop (rec .ready)) (aB.WI (.deferred (some [])) hs);rw [hW1,World.size_alloc] at this;exact this
 refine ⟨w.heap.size + 1,[mark w.heap.size],W1,{ target:=.fn (.func 155) #[pp b2,pp b3],args:=#[.func (.yield (w.heap.size + 1)) #[] #[]] },W1,155,#[.func (.yield (w.heap.size + 1)) #[] #[]]++#[pp b2,pp b3],W1,?_,?_,fun _ _=>trivial,?_,fun hd=>(by cases hd),?_⟩
 ·rw [← hW1,hrec]; exact run_enterLoop_outer _ _ _ _ _
 ·simp only [resolve,hg];simp [go_sem]
 ·simp [invoke,go_sem,(eN:Enters Tryz.prog 155) #[.func (.yield (w.heap.size + 1)) #[] #[],pp b2,pp b3] W1]
 refine callsIn_wide.2 ((ZB (W0:=W0) (a0:=a0) (C:=C) (m:=1) (X:=Hp (w.heap.size + 1) (.loop (rec .ready))::Hp w.heap.size (.deferred (some []))::Y) (X':=fun x=>Hp (w.heap.size + 1) (.loop (rec .ready))::Hp w.heap.size (.deferred (some []))::Y' x) hn hcap hsz ?_ ?_).mono ?_)
 ·intro w2 h2;have h3:aB W0 w2 (Hp (w.heap.size + 1) (.loop (rec .ready))::Bk b2 248 [.slice (some a0) n cap]::Bk b3 3 [.int .i64 size]::Hp w.heap.size (.deferred (some []))::Y):=h2.p2;have hl:=aB.hp h3;have hy:=run_yield (P:=Tryz.prog) (args:=#[.int .i64 0,.slice (some (a0.add 0)) n n]) hl (by rw [hrec]; exact hps.symm);rw [hrec] at hy;refine ⟨fn,_,assign,body,hy,roundIn_of_wpIn trivial ?_⟩;refine ha _ _ _ [Bk b2 248 [.slice (some a0) n cap],Bk b3 3 [.int .i64 size],Hp (w.heap.size + 1) (.loop (rec .ready)),Hp w.heap.size (.deferred (some []))] _ (h2.perm (EH Y)) (fun a1 w3 hA h4=>?_);have h5:=(h4.perm (EH Y).symm).p2;have hl3:=aB.hp h5;refine ⟨_,run_beginRound hl3 (by rw [hrec]),?_⟩;have h6:=aB.zF h5 (.loop { rec .ready with state:=.busy });refine wpIn_mono (hb _ _ _ [Bk b2 248 [.slice (some a0) n cap],Bk b3 3 [.int .i64 size],Hp (w.heap.size + 1) (.loop { rec .ready with state:=.busy }),Hp w.heap.size (.deferred (some []))] a1 hA ((h6.perm ((List.Perm.swap _ _ _).trans (List.Perm.cons _ (List.Perm.swap _ _ _)))).perm (EH Y))) ?_;rintro e a4 w4 ⟨rfl,x,hx,h7⟩;have h8:=(h7.perm (EH (Y' x)).symm).p2;have hl4:=aB.hp h8;refine ⟨_,_,run_endRound none hl4,x,hx,rfl,?_⟩;have h9:=aB.zF h8 (.loop { { rec .ready with state:=.busy } with state:=if (none:Option Code).isNone then .ready else .done,pending:=none });have hr:({ { rec .ready with state:=.busy } with state:=if (none:Option Code).isNone then .ready else .done,pending:=none }:Loop)=rec .ready:=by rw [hrec]; rfl
  rw [hr] at h9;rw [hr];exact h9.perm ((List.Perm.swap _ _ _).trans (List.Perm.cons _ (List.Perm.swap _ _ _)))
 ·exact hs1.perm ((EH [Bk b2 248 [.slice (some a0) n cap],Bk b3 3 [.int .i64 size]] (b2:=Hp (w.heap.size + 1) (.loop (rec .ready))) (b3:=Hp w.heap.size (.deferred (some []))) (l:=Bk b2 248 [.slice (some a0) n cap]) (D:=Bk b3 3 [.int .i64 size])) |> fun _=>(List.perm_append_comm (l₁:=[Hp (w.heap.size + 1) (.loop (rec .ready)),Hp w.heap.size (.deferred (some []))]) (l₂:=[Bk b2 248 [.slice (some a0) n cap],Bk b3 3 [.int .i64 size]])).append_right Y)
 rintro e w2 ⟨x,hx,rfl,h2⟩;have hl:=aB.hp h2;refine ⟨_,_,run_endLoop hl (by rw [hrec]; simp),?_⟩;have:(rec .ready).pending=none:=by rw [hrec]
 rw [this];exact hQ x _ _ hx (aB.zF h2 _).tail
theorem MZ {s:ByteArray} {id size:Int} (h1:1≤id) (h2:id≤4294967296) (h3:1≤s.size) (h4:(s.size:Int)≤size) (h5:size≤1000) (hs:aB W0 w R) :
  Calls Tryz.prog 68 [.string s,.int .u64 id,.int .i64 size].toArray w fun e w'=>∃ v',Sl 1 v'∧e=.returned (.tuple #[v',.int .i64 0])∧aB W0 w' (Rw 96 4 v' 1 [.int .u64 id,.int .i64 0,.int .i64 1,.string s]::R):=by
 refine callsIn_wide.1 (callsIn_of_wp_marks (n:=3) Tryz.func68 rfl trivial (wpIn_wide.2 ?_));refine (show GC Tryz.prog W0 Tryz.f68.ntmps [] _ _ (iQ 0 [.string s,.int .u64 id,.int .i64 size]) R from ?_) _ _ (fF [_,_,_] (Nat.le_of_ble_eq_true rfl)) hs;rw [show Tryz.f68.ntmps=61 from Tryz.ntmps68];refine GC.seq (GC.region ?_);refine GL.nB (EF.box rfl) rfl rfl (.free rfl) (fun b4 _=>?_);refine GL.v_ (EX.assign rfl) rfl rfl rfl ?_;refine GL.v_ (EX.assign rfl) rfl rfl rfl ?_;refine GL.nil (GE.seq ?_);refine GC.seq (GC.seq (GC.region ?_));have g14:decide (id < 1)=false:=by simp; omega
 have g16:decide (id > 4294967296)=false:=by simp; omega
 have g20:decide (size < 1)=false:=by simp; omega
 have g24:decide (size > 1000)=false:=by simp; omega
 have CZ:decide ((s.size:Int) < 1)=false:=by simp; omega
 have g34:decide ((s.size:Int) > 4096)=false:=by simp; omega
 refine GL.v_ (EX.ld rfl rfl (One.of uN rfl)) rfl rfl rfl ?_;refine GL.v_ (EX.lss rfl rfl) rfl rfl rfl ?_;refine GL.v_ (EX.move rfl) rfl rfl rfl ?_;refine GL.val (EX.ld rfl rfl (One.of uN rfl)) rfl rfl (.guard rfl rfl rfl rfl g14) ?_;refine GL.val (EX.gtr rfl rfl) rfl rfl (.guard rfl rfl rfl rfl g14) ?_;refine GL.v_ (EX.lG rfl g14 rfl) rfl rfl rfl ?_;refine GL.v_ (EX.move rfl) rfl rfl rfl ?_;refine GL.val (EX.move rfl) rfl rfl (.guard rfl rfl rfl rfl g16) ?_;refine GL.val (EX.lss rfl rfl) rfl rfl (.guard rfl rfl rfl rfl g16) ?_;refine GL.v_ (EX.lG rfl g16 rfl) rfl rfl rfl ?_;refine GL.v_ (EX.move rfl) rfl rfl rfl ?_;refine GL.val (EX.move rfl) rfl rfl (.guard rfl rfl rfl rfl g20) ?_;refine GL.val (EX.gtr rfl rfl) rfl rfl (.guard rfl rfl rfl rfl g20) ?_;refine GL.v_ (EX.lG rfl g20 rfl) rfl rfl rfl ?_;refine GL.v_ (EX.move rfl) rfl rfl rfl ?_;refine GL.val (EX.move rfl) rfl rfl (.guard rfl rfl rfl rfl g24) ?_;refine GL.val (EX.QJ rfl uN) rfl rfl (.guard rfl rfl rfl rfl g24) ?_;refine GL.val (EX.lss rfl rfl) rfl rfl (.guard rfl rfl rfl rfl g24) ?_;refine GL.v_ (EX.lG rfl g24 rfl) rfl rfl rfl ?_;refine GL.v_ (EX.move rfl) rfl rfl rfl ?_;refine GL.val (EX.move rfl) rfl rfl (.guard rfl rfl rfl rfl CZ) ?_;refine GL.val (EX.QJ rfl uN) rfl rfl (.guard rfl rfl rfl rfl CZ) ?_;refine GL.val (EX.gtr rfl rfl) rfl rfl (.guard rfl rfl rfl rfl CZ) ?_;refine GL.v_ (EX.lG rfl CZ rfl) rfl rfl rfl ?_;refine GL.nil (GE.seq ?_);refine GC.bH rfl g34 (GC.skip (GE.seq ?_));have q1:IntKind.i64.wrap ((s.size:Int) + size)=(s.size:Int) + size:=IntWalk.i64_in _ ⟨by omega,by omega⟩;have q2:IntKind.i64.wrap ((s.size:Int) + size - 1)=(s.size:Int) + size - 1:=IntWalk.i64_in _ ⟨by omega,by omega⟩;have q3:IntKind.i64.wrap (((s.size:Int) + size - 1).tdiv size)=1:=by
  have:((s.size:Int) + size - 1).tdiv size=1:=by
   rw [Int.tdiv_eq_ediv_of_nonneg (by omega)];refine (Int.ediv_emod_unique (r:=(s.size:Int) - 1) (by omega)).2 ⟨by omega,by omega,by omega⟩ |>.1
  rw [this]; rfl
 refine GC.seq (GC.region ?_);refine GL.v_ (EX.move rfl) rfl rfl rfl ?_;refine GL.v_ (EX.QJ rfl uN) rfl rfl rfl ?_;refine GL.v_ (EX.move rfl) rfl rfl rfl ?_;refine GL.v_ (EX.add rfl rfl q1) rfl rfl rfl ?_;refine GL.v_ (EX.sub rfl rfl q2) rfl rfl rfl ?_;refine GL.v_ (EX.move rfl) rfl rfl rfl ?_;refine GL.v_ (EX.quo rfl rfl (by omega) q3) rfl rfl rfl ?_;refine GL.nB (EF.alloc aL) rfl rfl (.free rfl) (fun b8 _=>?_);refine GL.u_ (EU.st rfl rfl (show SZ Tryz.prog 3 1 by unfold SZ; kernel_rfl) rfl rfl rfl) rfl rfl ?_;refine GL.nil (GE.seq ?_);refine GC.seq (GC.seq (GC.region ?_));refine GL.v_ (EX.ld rfl rfl (One.of uN rfl)) rfl rfl rfl ?_;refine GL.v_ (EX.gtr rfl rfl) rfl rfl rfl ?_;refine GL.nil (GE.seq ?_);refine GC.bH rfl (by decide) (GC.skip (GE.seq ?_));refine GC.seq (GC.region ?_);refine GL.nB (EF.alloc aL) rfl rfl (.free rfl) (fun b9 _=>?_);refine GL.nil (GE.seq ?_);refine GC.seq (GC.seq (GC.region ?_));refine GL.v_ (EX.move rfl) rfl rfl rfl ?_;refine GL.nB (EF.cvb rfl uN uN uN) rfl rfl (.free rfl) (fun q hq=>?_);refine GL.v_ (EX.move rfl) rfl rfl rfl ?_;refine GL.aAr (EC.direct eN rfl) (T6 _ _ rfl) (.nil) rfl rfl (.free rfl) (fun x _=>?_);refine GL.nil (GE.seq ?_);refine GC.block ?_;intro a w ha hs;have hF:∀ l f,(Fence.wide.inRound l).fn f:=fun _ _=>trivial;refine aA7 ha (fun cZ hkn _=>?_);refine aB1 (C:=Sl 1) (A:=Has 61 [] ((11,.slice (some ((⟨q.1,0,none⟩:Addr).add 0)) s.size s.size)::(10,.int .i64 0)::(50,.slice (some ((⟨q.1,0,none⟩:Addr).add 0)) s.size s.size)::(49,.int .i64 0)::cZ)) (Y:=Ro q.1 (s.data.toList.map fun c=>Value.int .u8 c.toNat)::Bk b9 172 [.slice none 0 0]::Bk b8 3 [.int .i64 1]::Bk b4 30 [.int .u64 id]::R)
  (Y':=fun v=>Rw 96 4 v 1 [.int .u64 id,.int .i64 0,.int .i64 1,.string s]::Bk b9 172 [v]::R) (ha.ev (.tmp 48) _ rfl) rfl (n:=s.size) (cap:=q.2) (a0:=⟨q.1,0,none⟩) (size:=size) (by omega) hq h4 hs ?_ ?_ ?_
 ·subst hkn;intro l m w2 Z K h2 hK;have h0:=(ha.put 49 (.int .i64 0) rfl).put 50 (.slice (some ((⟨q.1,0,none⟩:Addr).add 0)) s.size s.size) rfl;rw [aLh];refine wpIn_seq (gQ ?_);refine (show iT (Fence.wide.inRound l) m Tryz.prog W0 61 [] _ _ _ _ _ from ?_) _ w2 (show Has 61 [] _ _ from ⟨h0.size,rfl,h0.known⟩) h2;refine iT.val (hF l) (fun c hc=>by cases hc) (EX.assign rfl) rfl rfl rfl ?_;refine iT.nil (fun a3 w3 h3 h4=>?_);refine gQ ?_;refine (show iT (Fence.wide.inRound l) m Tryz.prog W0 61 [] _ _ _ _ _ from ?_) _ w3 h3 h4;refine iT.val (hF l) (fun c hc=>by cases hc) (EX.assign rfl) rfl rfl rfl ?_;exact iT.nil (fun a5 w5 h5 h6=>hK a5 w5 h5 h6)
 ·subst hkn;intro l m w2 Z a1 h1 h2;refine wpIn_block (gQ ?_);refine (show iT (Fence.wide.inRound l) m Tryz.prog W0 61 [] _ _ _ _ _ from ?_) _ w2 h1 h2;refine iT.val (hF l) (fun c hc=>by cases hc) (EX.ld rfl rfl (One.of uN rfl)) rfl rfl rfl ?_;refine iT.val (hF l) (fun c hc=>by cases hc) (EX.ld rfl rfl (One.of uN rfl)) rfl rfl rfl ?_;refine iT.val (hF l) (fun c hc=>by cases hc) (EX.move rfl) rfl rfl rfl ?_;refine iT.val (hF l) (fun c hc=>by cases hc) (EX.ld rfl rfl (One.of uN rfl)) rfl rfl rfl ?_;refine iT.val (hF l) (fun c hc=>by cases hc) (EX.move rfl) rfl rfl rfl ?_;refine iT.val (hF l) (fun c hc=>by cases hc) (EX.cvs rfl rfl .here uN uN uN) rfl rfl rfl ?_;refine iT.val (hF l) (fun c hc=>by cases hc) (EX.build rfl bD rfl) rfl rfl rfl ?_;refine iT.nB (hF l) (fun c hc=>by cases hc) (EF.buildSlice rfl bS (n:=1) rfl rfl rfl) rfl rfl rfl (fun b58 _=>?_);refine iT.turn (fun w h=>h.eP 96 4) ?_;refine iT.nB (hF l) (fun c hc=>by cases hc) (EF.append rfl rfl aNj (fun v'=>.here) (.there .here) rfl rfl (by decide) (by decide)) rfl rfl rfl (fun v' hv'=>?_);obtain ⟨av,cv,rfl⟩:=hv';refine iT.do (hF l) (fun c hc=>by cases hc) (EU.st rfl rfl (show SZ Tryz.prog 172 1 by unfold SZ; kernel_rfl) rfl rfl rfl) rfl rfl ?_;refine iT.nil (fun a3 w3 h3 h4=>?_);refine ⟨rfl,.slice av 1 cv,⟨av,cv,rfl⟩,?_⟩;exact h4.p1.tail.p1.tail.p2.tail.p2.tail
 intro v D w2 hv h2;obtain ⟨av,cv,rfl⟩:=hv;have ha2:Has 61 [mark D] _ { a with defers:=mark D::a.defers }:=⟨ha.size,by simp [ha.defers],ha.known⟩;refine (show GE W0 61 [mark D] .normal _ _ _ from ?_) _ w2 ha2 h2;refine GE.block (GE.seq ?_);refine GC.seq (GC.region ?_);refine GL.v_ (EX.ld rfl rfl (One.of uN rfl)) rfl rfl rfl ?_;refine GL.v_ (EX.assign rfl) rfl rfl rfl ?_;refine GL.v_ (EX.assign rfl) rfl rfl rfl ?_;refine GL.nil (GE.seq ?_);refine GC.ret ?_;intro a3 w3 h3 h4;show LeavesInM Fence.wide 3 Tryz.prog Tryz.f68 a3.tmps _ a3.defers .returning w3;rw [h3.defers];have hk:=aB.hp h4;refine ⟨by simp,.inl ⟨D,_,rfl,run_takeDeferred hk,?_⟩⟩;refine ⟨.tuple #[.slice av 1 cv,.int .i64 0],?_,.slice av 1 cv,⟨av,cv,rfl⟩,rfl,?_⟩
 ·exact pR (ts:=[6,7]) (vs:=[.slice av 1 cv,.int .i64 0]) rfl h3 rfl (by simp) _
 exact (aB.zF h4 _).tail.p1.tail
theorem ZK:qY Tryz.prog W0 68 NK:=by
 refine ⟨eN,fun vs me nx v me' nx' h W R g xs hf hx hm=>?_,fun vs me nx v me' nx' h=>?_⟩
 ·unfold NK at h;split at h
  ·rename_i n v0 id size;cases hb:(and (and (Nat.ble 1 id) (Nat.ble id 4294967296)) (and (and (Nat.ble 1 n) (Nat.ble n size)) (Nat.ble size 1000))) with
   | false=>rw [hb] at h; cases h
   | true =>
    rw [hb] at h;simp only [Bool.and_eq_true] at hb;obtain ⟨⟨b1,b2⟩,⟨b3,b4⟩,b5⟩:=hb;have b1:=Nat.le_of_ble_eq_true b1;have b2:=Nat.le_of_ble_eq_true b2;have b3:=Nat.le_of_ble_eq_true b3;have b4:=Nat.le_of_ble_eq_true b4;have b5:=Nat.le_of_ble_eq_true b5;injection h with h1 h2 h3; subst h1; subst h2; subst h3;obtain ⟨x1,us,d1,d2,rfl⟩:=aK hx;obtain ⟨x2,us,d3,d4,rfl⟩:=aK d2;obtain ⟨x3,us,d5,d6,rfl⟩:=aK d4;have:us=[]:=by simpa [aF] using d6.symm
    subst this;obtain ⟨hlt,rfl⟩:=lK d1;have:=cR d3; subst this;have:=cR d5; subst this;have hsz:(dD n v0).size=n:=eB n v0;refine (MZ (s:=dD n v0) (id:=Int.ofNat id) (size:=Int.ofNat size) (by simp; omega) (by simp; omega) (by omega) (by rw [hsz]; simp; omega) (by simp; omega) hm).mono ?_;rintro e w' ⟨v',⟨av,cv,rfl⟩,rfl,h2⟩;obtain ⟨bb,rfl⟩:=h2.dV .here (by decide);have hd:aF (aE g) [.i .u64 (.ofNat id),er 0,er 1,.s n v0]=some [.int .u64 (Int.ofNat id),.int .i64 0,.int .i64 1,.string (dD n v0)]:=by
     simp [aF,aE,aI,er,hlt]
    refine ⟨g.set nx (bb,cv),.tuple #[.slice (some ⟨bb,0,none⟩) 1 cv,.int .i64 0],rfl,G.bX _ _ _,G.aY hf _,by rw [Pos.bW]; omega,?_,tR hf (dW hm hf) hd h2⟩;simp [den,aF,aT,aE,aI,er,G.bL]
  cases h
 unfold NK at h;split at h
 ·cases hb:(and (and (Nat.ble 1 _) (Nat.ble _ 4294967296)) (and (and (Nat.ble 1 _) (Nat.ble _ _)) (Nat.ble _ 1000))) with
  | false=>rw [hb] at h; cases h
  | true=>rw [hb] at h; cases h
 ·cases h
end
end
end EV
end Go.Proofs.YtadggjnohohedaaGreatDoor
namespace Go.Proofs
open Go.Shelf
noncomputable def FB:Shelf.Ren where
 f:=fun | 189=>179 | 125=>203 | 257=>208 | 128=>229 | 129=>113 | 294=>239 | 295=>240 | 296=>241 | 297=>242 | 298=>243 | 299=>244 | 216=>245 | 300=>246 | 301=>247 | 328=>264 | 329=>258 | 330=>259 | 331=>265 | 332=>266 | 215=>267 | 343=>278 | n=>n
 t:=fun | 28=>40 | 3=>3 | 46=>261 | 0=>0 | 51=>386 | 53=>30 | 4=>4 | 183=>379 | 182=>378 | 131=>176 | 5=>5 | 9=>9 | 218=>402 | 222=>185 | 228=>416 | 229=>229 | n=>n
 g:=fun n=>n
theorem P8:Lays.n189 Tryz.prog FB where
 mixed:=by kernel_rfl
 f125:=Tryz.func203.trans (congrArg some (by kernel_rfl))
 f128:=Tryz.func229.trans (congrArg some (by kernel_rfl))
 f129:=Tryz.func113.trans (congrArg some (by kernel_rfl))
 f189:=Tryz.func179.trans (congrArg some (by kernel_rfl))
 f215:=Tryz.func267.trans (congrArg some (by kernel_rfl))
 f216:=Tryz.func245.trans (congrArg some (by kernel_rfl))
 f257:=Tryz.func208.trans (congrArg some (by kernel_rfl))
 f294:=Tryz.func239.trans (congrArg some (by kernel_rfl))
 f295:=Tryz.func240.trans (congrArg some (by kernel_rfl))
 f296:=Tryz.func241.trans (congrArg some (by kernel_rfl))
 f297:=Tryz.func242.trans (congrArg some (by kernel_rfl))
 f298:=Tryz.func243.trans (congrArg some (by kernel_rfl))
 f299:=Tryz.func244.trans (congrArg some (by kernel_rfl))
 f300:=Tryz.func246.trans (congrArg some (by kernel_rfl))
 f301:=Tryz.func247.trans (congrArg some (by kernel_rfl))
 f328:=Tryz.func264.trans (congrArg some (by kernel_rfl))
 f329:=Tryz.func258.trans (congrArg some (by kernel_rfl))
 f330:=Tryz.func259.trans (congrArg some (by kernel_rfl))
 f331:=Tryz.func265.trans (congrArg some (by kernel_rfl))
 f332:=Tryz.func266.trans (congrArg some (by kernel_rfl))
 f343:=Tryz.func278.trans (congrArg some (by kernel_rfl))
 t0:=Tryz.underlying0
 a0:=Tryz.isAgg0
 z0:=Tryz.sizeOf0
 v0:=Tryz.zeroValue0
 t3:=Tryz.underlying3
 a3:=Tryz.isAgg3
 z3:=Tryz.sizeOf3
 v3:=Tryz.zeroValue3
 t4:=Tryz.underlying4
 a4:=Tryz.isAgg4
 z4:=Tryz.sizeOf4
 v4:=Tryz.zeroValue4
 t5:=Tryz.underlying5
 a5:=Tryz.isAgg5
 z5:=Tryz.sizeOf5
 v5:=Tryz.zeroValue5
 t9:=Tryz.underlying9
 a9:=Tryz.isAgg9
 z9:=Tryz.sizeOf9
 v9:=Tryz.zeroValue9
 t28:=Tryz.underlying40
 a28:=Tryz.isAgg40
 z28:=Tryz.sizeOf40
 v28:=Tryz.zeroValue40
 t46:=Tryz.underlying261
 a46:=Tryz.isAgg261
 z46:=Tryz.sizeOf261
 v46:=Tryz.zeroValue261
 t51:=Tryz.underlying386
 a51:=Tryz.isAgg386
 z51:=Tryz.sizeOf386
 v51:=Tryz.zeroValue386
 t53:=Tryz.underlying30
 a53:=Tryz.isAgg30
 z53:=Tryz.sizeOf30
 v53:=Tryz.zeroValue30
 t131:=Tryz.underlying176
 a131:=Tryz.isAgg176
 z131:=Tryz.sizeOf176
 v131:=Tryz.zeroValue176
 t182:=Tryz.underlying378
 a182:=Tryz.isAgg378
 z182:=Tryz.sizeOf378
 v182:=Tryz.zeroValue378
 t183:=Tryz.underlying379
 a183:=Tryz.isAgg379
 z183:=Tryz.sizeOf379
 v183:=Tryz.zeroValue379
 t218:=Tryz.underlying402
 a218:=Tryz.isAgg402
 z218:=Tryz.sizeOf402
 v218:=Tryz.zeroValue402
 t222:=Tryz.underlying185
 a222:=Tryz.isAgg185
 z222:=Tryz.sizeOf185
 v222:=Tryz.zeroValue185
 t228:=Tryz.underlying416
 a228:=Tryz.isAgg416
 z228:=Tryz.sizeOf416
 v228:=Tryz.zeroValue416
 t229:=Tryz.underlying229
 a229:=Tryz.isAgg229
 z229:=Tryz.sizeOf229
 v229:=Tryz.zeroValue229
end Go.Proofs
namespace Go.Proofs.YtadggjnohohedaaGreatDoor
open Go.RowKit Go.Sort
namespace EV
set_option maxRecDepth 100000
noncomputable section
section
variable {P:Program} {W0 W w:World} {L L' R X:List aA} {kn:Kn} {N:Nat} {ds:List Deferred} {ops:Array Oper} {Q:Exit→Act→World→Prop} {r:List Oper}
theorem OP (blk off cap:Nat) (zs:List Int) (w:World) (hH:Holds (Value.int .i64) w blk off zs.toArray) (hblk:blk < w.heap.size) (hsz:zs.length < 4611686018427387904) :
  Calls Tryz.prog 179 #[.slice (some ⟨blk,off,none⟩) zs.length cap] w fun e w' =>
   e=.returned (.tuple #[])∧∃ n os,w'=grow (putRow (Value.int .i64) (Sort.ahead w n) blk off (zs.mergeSort fun x y=>decide (x≤y)).toArray) os:=Any.slices_Sort_int P8 blk off cap zs w hH hblk hsz
theorem TP {v:Value} {zs:List Int} (h1:0 < zs.length) (h2:zs.length≤1000) (hs:aB W0 W (Rw 3 1 v zs.length (zs.map (Value.int .i64))::L)) :
  Calls Tryz.prog 179 #[v] W fun e w'=>e=.returned (.tuple #[])∧aB W0 w' (Rw 3 1 v zs.length ((zs.mergeSort fun x y=>decide (x≤y)).map (Value.int .i64))::L):=by
 obtain ⟨a,c,rfl⟩:=hs.TW .here;obtain ⟨b,rfl⟩:=hs.dV .here h1;have hown:=hs.rw .here;rcases hown.2 with ⟨h0,_⟩ | ⟨g,cap,cur,hv,_,hg,hn,hcap,hsz,ht⟩
 ·cases h0
 cases hv;rw [Nat.mul_one] at ht;have hlt:b < W.heap.size:=(Array.getElem?_eq_some_iff.1 hg).1;have hH:=holds_of_blockI (w:=W) (g:=b) (cur:=cur) (e:=3) (ss:=zs) hg ht;refine (OP b 0 c zs W hH hlt (by omega)).mono ?_;rintro e w' ⟨rfl,n,os,rfl⟩;refine ⟨rfl,hs.kH (ownsRow_sortedI (by simp) (Nat.zero_le _) hg hn hcap hsz) (grownBy_sortedI _) (.inl rfl)⟩
theorem GL.aMu {o:Oper} {f:FuncId} {args:List Value} {d:Nat} {v:Value} {T:List aA} (hx:EC P kn o f args) (hd:o.dst=some d) (hN:Nat.blt d N=true) (hg:o.guard=none)
  {L2:List aA} (hc:∀ w,aB W0 w L→Calls P f args.toArray w fun e w'=>e=.returned v∧aB W0 w' L2) (hT:∀ w,aB W0 w L2→aB W0 w T) (h:GL P W0 N ds ops Q r ((d,v)::kn) T):GL P W0 N ds ops Q (o::r) kn L:=by
 intro a w ha hs;simp only [nP,aU hg,if_true];refine .inl ?_;simp only [Oper.wp,hx a.eval w ha.ev,Oper.upon];refine (hc w hs).mono ?_;rintro e w' ⟨rfl,h'⟩;show nP P ops Q r (a.put o.dst v) w';rw [hd]; exact h _ _ (ha.put d v hN) (hT w' h')
theorem EF.range {d g T x ty pos af K E} {b:Nat} {es:Array MapEntry} {ck:Nat} (hx:Proofs.YtadggjnohohedaaGreatDoor.ev kn x=some (.map (some b))) (hT:P.underlying T=some (.map K E)) (p:Pick L (Hp b (.map es ck)) R) :
  EF P W0 kn L ⟨d,.range T x,ty,pos,af,g⟩ (fun q:Nat=>.pointer (some ⟨q,0,none⟩)) (fun q=>Hp q (.mapIter (some b) ck #[] ck)::L) (fun _=>True):=fun ρ w he hs=>by
 have hb:=aB.hp (hs.pick p);refine ⟨w.heap.size,w.alloc (.mapIter (some b) ck #[] ck),trivial,?_,aB.WI _ hs⟩;simp only [execOp,Instr.range,underlying,Sem.run_bind,run_program,Result.andThen_ok,hT,he x _ hx,Sem.run_pure,cH hb,run_newObj];rfl
theorem GL.next {d ri b:Nat} {x:Operand} {ty pos af} {es:Array MapEntry} {ck:Nat} {seen:Array Nat} (hx:Proofs.YtadggjnohohedaaGreatDoor.ev kn x=some (.pointer (some ⟨ri,0,none⟩))) (hN:Nat.blt d N=true) (hold:∀ e∈es.toList,e.born < ck)
  (h0:(leftOf es seen).size=0→GL P W0 N ds ops Q r ((d,.tuple #[.bool false])::kn) (Hp ri (.mapIter (some b) ck seen ck)::Hp b (.map es ck)::L))
  (h1:∀ e∈(leftOf es seen).toList,GL P W0 N ds ops Q r ((d,.tuple #[.bool true,e.key,e.val])::kn) (Hp ri (.mapIter (some b) ck (seen.push e.born) ck)::Hp b (.map es ck)::L)) :
  GL P W0 N ds ops Q (⟨some d,.next x false,ty,pos,af,none⟩::r) kn (Hp ri (.mapIter (some b) ck seen ck)::Hp b (.map es ck)::L):=by
 intro a w ha hs;have hr:=aB.hp hs;have hb:=aB.hp hs.tail;simp only [nP,aU (o:=⟨some d,.next x false,ty,pos,af,none⟩) rfl,if_true];refine .inl ?_;rcases run_next_at (P:=P) w ty ri b ck ck seen es ck hr hb hold (Nat.le_refl _) with ⟨hl,hn⟩ | ⟨e,he,w1,hw,hn⟩
 ·have hrun:(execOp a.eval ⟨some d,.next x false,ty,pos,af,none⟩).run P w=.ok (.value (.tuple #[.bool false])) w:=by
   simp only [execOp,Sem.run_bind,ha.ev x _ hx,hn,Result.andThen_ok]; rfl
  simp only [Oper.wp,hrun,Oper.upon];exact h0 hl _ _ (ha.put d _ hN) hs
 have hrun:(execOp a.eval ⟨some d,.next x false,ty,pos,af,none⟩).run P w=.ok (.value (.tuple #[.bool true,e.key,e.val])) (w1.putObj ri (.mapIter (some b) ck (seen.push e.born) ck)):=by
  simp only [execOp,Sem.run_bind,ha.ev x _ hx,hn,Result.andThen_ok]; rfl
 simp only [Oper.wp,hrun,Oper.upon];refine h1 e he _ _ (ha.put d _ hN) ?_;have hs1:aB W0 w1 (Hp ri (.mapIter (some b) ck seen ck)::Hp b (.map es ck)::L):=by
  rcases hw with rfl | rfl
  ·exact hs
  exact hs.drew
 exact aB.zF hs1 _
theorem EX.entry {d g x ty pos af} {ri b:Nat} {es:Array MapEntry} {ck:Nat} {seen:Array Nat} {e:MapEntry} (hx:Proofs.YtadggjnohohedaaGreatDoor.ev kn x=some (.pointer (some ⟨ri,0,none⟩))) (hf:es.find? (fun q=>q.born == e.born)=some e) :
  EX P W0 kn (Hp ri (.mapIter (some b) ck (seen.push e.born) ck)::Hp b (.map es ck)::L) ⟨d,.entry x,ty,pos,af,g⟩ (.tuple #[e.key,e.val]):=fun ρ w he hs=>by
 have hr:=aB.hp hs;have hb:=aB.hp hs.tail;simp [execOp,Instr.entry,he x _ hx,getObj,Sem.run_bind,Sem.run,hr,hb,hf]
def kV:Value→Int
 | .int _ n=>n
 | _=>0
def kI (e:MapEntry):Int:=kV e.key
theorem zS {es:List MapEntry} (hn:(es.map (·.born)).Nodup) {seen:Array Nat} {e:MapEntry} (he:e∈es.filter fun q=>!seen.contains q.born) :
  (es.filter fun q=>!seen.contains q.born).Perm (e::es.filter fun q=>!(seen.push e.born).contains q.born):=by
 induction es with
 | nil=>cases he
 | cons q r ih =>
  simp only [List.map_cons,List.nodup_cons] at hn;have hstep:∀ q':MapEntry,q'.born≠e.born→(!(seen.push e.born).contains q'.born)=!seen.contains q'.born:=fun q' hq=>by
   simp [Array.contains_push,hq]
  by_cases hqe:q.born=e.born
  ·have aR4:q=e:=by
    rcases List.mem_filter.1 he with ⟨h1,h2⟩;rcases List.mem_cons.1 h1 with h1 | h1
    ·exact h1.symm
    exact (hn.1 (by rw [hqe]; exact List.mem_map.2 ⟨e,h1,rfl⟩)).elim
   subst aR4;have h2:(!seen.contains q.born)=true:=(List.mem_filter.1 he).2;have h3:(!(seen.push q.born).contains q.born)=false:=by simp [Array.contains_push]
   have hr:(r.filter fun x=>!seen.contains x.born)=r.filter fun x=>!(seen.push q.born).contains x.born:=by
    refine List.filter_congr (fun x hx=>(hstep x (fun e1=>hn.1 (by rw [← e1]; exact List.mem_map.2 ⟨x,hx,rfl⟩))).symm)
   rw [List.filter_cons_of_pos (by simpa using h2),List.filter_cons_of_neg (by simp [h3]),hr]
  have he':e∈r.filter fun q=>!seen.contains q.born:=by
   rcases List.mem_filter.1 he with ⟨h1,h2⟩;rcases List.mem_cons.1 h1 with h1 | h1
   ·exact (hqe (by rw [h1])).elim
   exact List.mem_filter.2 ⟨h1,h2⟩
  have h1:=ih hn.2 he';have h2:=hstep q hqe;cases hc:(!seen.contains q.born) with
  | true =>
   rw [List.filter_cons_of_pos (by simpa using hc),List.filter_cons_of_pos (by rw [hc] at h2; simpa using h2)];exact (List.Perm.cons q h1).trans (List.Perm.swap _ _ _)
  | false =>
   rw [List.filter_cons_of_neg (by show ¬ (!seen.contains q.born)=true; rw [hc]; decide),List.filter_cons_of_neg (by show ¬ (!(seen.push e.born).contains q.born)=true; rw [h2,hc]; decide)];exact h1
theorem dJ (es:Array MapEntry) (seen:Array Nat):(leftOf es seen).toList=es.toList.filter fun q=>!seen.contains q.born:=by
 unfold leftOf; simp
theorem aIu {bm:Nat} {aD:List (Int × Value)} {es:Array MapEntry} {ck:Nat} (h:aB W0 W (Mp (aC .i64) bm aD::L)) (hb:W.heap[bm]?=some (.map es ck)):aB W0 W (Hp bm (.map es ck)::L):=by
 obtain ⟨hB,A,h1,h2,h3⟩:=h;unfold Mp at h1;exact ⟨hB,A,⟨hb,h1.2⟩,h2,h3⟩
theorem aK8 {bm:Nat} {aD:List (Int × Value)} {es:Array MapEntry} {ck:Nat} (h:aB W0 W (Hp bm (.map es ck)::L)) (he:cX (aC .i64) aD es ck):aB W0 W (Mp (aC .i64) bm aD::L):=by
 obtain ⟨hB,A,h1,h2,h3⟩:=h;refine ⟨hB,A,?_,h2,h3⟩;unfold Mp;exact ⟨⟨es,ck,h1.1,he⟩,h1.2⟩
theorem find_born {es:Array MapEntry} {e:MapEntry} (hn:(es.toList.map (·.born)).Nodup) (he:e∈es.toList):es.find? (fun q=>q.born == e.born)=some e:=by
 rw [← Array.find?_toList];generalize es.toList=l at *;induction l with
 | nil=>cases he
 | cons q r ih =>
  simp only [List.map_cons,List.nodup_cons] at hn;rw [List.find?_cons]
  by_cases h:q.born=e.born
  ·rw [h,beq_self_eq_true];rcases List.mem_cons.1 he with rfl | h1
   ·rfl
   exact (hn.1 (by rw [h]; exact List.mem_map.2 ⟨e,h1,rfl⟩)).elim
  rw [beq_eq_false_iff_ne.2 h];rcases List.mem_cons.1 he with rfl | h1
  ·exact (h rfl).elim
  exact ih hn.2 h1
theorem aS5:C2 Tryz.prog 40 3 1 8 (.int .i64 0):=⟨Tryz.underlying40,by kernel_rfl,rfl,by decide⟩
structure Kst (es:Array MapEntry) (ks:List Int) where
 seen:Array Nat
 done:List Int
 v:Value
 pm:(done++(leftOf es seen).toList.map kI).Perm ks
theorem FW {bm:Nat} {aD:List (Int × Value)} {b o:Nat} (h1:0 < aD.length) (h2:aD.length≤999) (hs:aB W0 w (Mp (aC .i64) bm aD::X)) (hcell:∀ w,aB W0 w X→w.cell? ⟨b,o + 6,none⟩=some (.map (some bm))) :
  Calls Tryz.prog 149 [.pointer (some ⟨b,o,none⟩)].toArray w fun e w'=>∃ (v:Value) (zs:List Int),zs.Perm (aD.map (·.1))∧Sl zs.length v∧e=.returned v∧aB W0 w' (Rw 3 1 v zs.length ((zs.mergeSort fun x y=>decide (x≤y)).map (Value.int .i64))::Mp (aC .i64) bm aD::X):=by
 obtain ⟨es,ck,hb,hen⟩:=hs.mp .here;have hs0:aB W0 w (Hp bm (.map es ck)::X):=aIu hs hb;have hkv:es.toList.map kI=aD.map (·.1):=by
  have h3:=congrArg (List.map fun q:Value × Value=>kV q.1) hen.kv;rw [List.map_map,List.map_map] at h3;exact h3
 have hkey:∀ e∈es.toList,e.key=.int .i64 (kI e):=fun e he=>by
  have:(e.key,e.val)∈aD.map (fun p=>(aC .i64 p.1,p.2)):=by rw [← hen.kv]; exact List.mem_map.2 ⟨e,he,rfl⟩
  obtain ⟨p,_,hp⟩:=List.mem_map.1 this;injection hp with hp1 hp2;have:e.key=.int .i64 p.1:=hp1.symm;unfold kI; rw [this]; rfl
 have hlen:es.toList.length=aD.length:=by have:=congrArg List.length hkv; simpa using this
 have hL0:(leftOf es #[]).toList=es.toList:=by rw [dJ]; simp
 refine calls_of_wp Tryz.func149 rfl ?_;refine (show GC Tryz.prog W0 Tryz.f149.ntmps [] _ (bodyPost Tryz.prog Tryz.f149 _) (iQ 0 [.pointer (some ⟨b,o,none⟩)]) (Hp bm (.map es ck)::X) from ?_) _ _ (fF [_] (Nat.le_of_ble_eq_true rfl)) hs0;rw [show Tryz.f149.ntmps=21 from Tryz.ntmps149];refine GC.seq (GC.region (GL.v_ (EX.assign rfl) rfl rfl rfl (GL.nil (GE.seq ?_))));refine GC.seq (GC.region (GL.v_ (EX.assign rfl) rfl rfl rfl (GL.nil (GE.seq ?_))));refine GC.seq (GC.seq (GC.region ?_));refine GL.v_ (EX.move rfl) rfl rfl rfl ?_;refine GL.v_ (EX.nilCheck rfl) rfl rfl rfl ?_;refine GL.v_ (EX.fieldAddr rfl fA) rfl rfl rfl ?_;refine GL.v_ (EX.ldc (v:=.map (some bm)) (b:=b) (o:=o + 6) rfl (fun w h=>hcell w h.tail) (One.of uN rfl)) rfl rfl rfl ?_;refine GL.nB (EF.range rfl uN .here) rfl rfl (.free rfl) (fun ri _=>?_);refine GL.nil (GE.seq ?_);refine GC.turn (fun w h=>h.eP 3 1) ?_;refine GC.block (GC.loop (σ:=Kst es (aD.map (·.1))) (fun s=>[(9,.pointer (some ⟨ri,0,none⟩)),(3,s.v)]) (fun s=>Hp ri (.mapIter (some bm) ck s.seen ck)::Hp bm (.map es ck)::Rw 3 1 s.v s.done.length (s.done.map (Value.int .i64))::X) (fun s=>(leftOf es s.seen).size) ⟨#[],[],.slice none 0 0,by rw [hL0,hkv]; exact List.Perm.refl _⟩ (fun s=>?_) ?_ ?_)
 ·have aAg:s.done.length + (leftOf es s.seen).toList.length=aD.length:=by
   have:=s.pm.length_eq; simpa using this
  refine GC.seq (GC.region ?_);refine GL.next rfl rfl hen.born (fun hz=>?_) (fun e he=>?_)
  ·refine GL.v_ (EX.extract rfl rfl) rfl rfl rfl ?_;refine GL.nil (GE.seq ?_);refine GC.seq (GC.bH rfl rfl (GC.exit ?_));refine GE.bE (GE.bE (GE.dT (GE.seq ?_)));have hnil:(leftOf es s.seen).toList=[]:=List.length_eq_zero_iff.1 (by simpa using hz);have hdone:s.done.Perm (aD.map (·.1)):=by
    have:=s.pm;rw [hnil] at this;simpa using this
   rw [hnil] at aAg;simp only [List.length_nil,Nat.add_zero] at aAg;refine GC.seq (GC.region ?_);refine GL.v_ (EX.move rfl) rfl rfl rfl ?_;refine GL.aMu (EC.direct eN rfl) rfl rfl rfl (fun w h=>TP (zs:=s.done) (by omega) (by omega) h.tail.p1) (fun w h=>h) ?_;refine GL.nil (GE.seq ?_);refine GC.seq (GC.region ?_);refine GL.v_ (EX.move rfl) rfl rfl rfl ?_;refine GL.v_ (EX.assign rfl) rfl rfl rfl ?_;refine GL.nil (GE.seq ?_);refine GC.ret (GE.out rfl rfl (fun w h=>?_));obtain ⟨a,c,hv⟩:=h.TW .here;exact ⟨s.v,s.done,hdone,⟨a,c,hv⟩,rfl,(aK8 h.p1 hen).p1⟩
  have he':e∈es.toList:=by rw [dJ] at he; exact (List.mem_filter.1 he).1
  have hpos:0 < (leftOf es s.seen).toList.length:=List.length_pos_of_mem he;refine GL.v_ (EX.extract rfl rfl) rfl rfl rfl ?_;refine GL.nil (GE.seq ?_);refine GC.seq (GC.aQ rfl rfl (GC.skip (GE.seq ?_)));refine GC.block (GC.seq (GC.region ?_));refine GL.v_ (EX.entry rfl (find_born hen.nodup he')) rfl rfl rfl ?_;rw [hkey e he'];refine GL.v_ (EX.extract rfl rfl) rfl rfl rfl ?_;refine GL.v_ (EX.assign rfl) rfl rfl rfl ?_;refine GL.nil (GE.seq ?_);refine GC.region ?_;refine GL.v_ (EX.move rfl) rfl rfl rfl ?_;refine GL.v_ (EX.move rfl) rfl rfl rfl ?_;refine GL.nB (EF.buildSlice rfl bS (n:=1) rfl rfl rfl) rfl rfl (.free rfl) (fun b58 _=>?_);refine GL.nB (EF.append (e:=3) (size:=1) (n:=s.done.length) (xs:=s.done.map (Value.int .i64)) rfl rfl aS5 (fun v'=>.there (.there (.there .here))) .here rfl rfl (by unfold maxLen; omega) (by omega)) rfl rfl (.free rfl) (fun v' hv'=>?_);refine GL.v_ (EX.assign rfl) rfl rfl rfl ?_;refine GL.nil (GE.block ?_);intro a w ha hs;have hp1:(leftOf es s.seen).toList.Perm (e::(leftOf es (s.seen.push e.born)).toList):=by
   rw [dJ,dJ];exact zS hen.nodup (by rw [← dJ]; exact he)
  have hpm:((s.done++[kI e])++(leftOf es (s.seen.push e.born)).toList.map kI).Perm (aD.map (·.1)):=by
   refine List.Perm.trans ?_ s.pm;rw [List.append_assoc];refine List.Perm.append_left _ ?_;exact (hp1.map kI).symm
  refine ⟨⟨s.seen.push e.born,s.done++[kI e],v',hpm⟩,?_,ha.sub ?_,?_⟩
  ·have:=hp1.length_eq;simp only [List.length_cons,Array.length_toList] at this;show (leftOf es (s.seen.push e.born)).size < (leftOf es s.seen).size;omega
  ·intro p hp;simp only [List.mem_cons,List.not_mem_nil,or_false] at hp;rcases hp with rfl | rfl <;> rfl
  have:=hs.tail;simpa [zeros] using this
 ·intro p hp;simp only [List.mem_cons,List.not_mem_nil,or_false] at hp;rcases hp with rfl | rfl <;> rfl
 exact .take (.there .here) (.take (.there .here) .refl)
end
end
end EV
end Go.Proofs.YtadggjnohohedaaGreatDoor
namespace Go.Proofs.YtadggjnohohedaaGreatDoor
namespace EV
noncomputable section
def kX:List (Int × SV)→Option (List Nat)
 | []=>some []
 | (.ofNat k,_)::r=>match kX r with
  | some l=>some (k::l)
  | none=>none
 | _=>none
def JE (a:Nat):List Nat→List Nat
 | []=>[a]
 | b::r=>bif Nat.ble a b then a::b::r else b::JE a r
def vN:List Nat→List Nat
 | []=>[]
 | a::r=>JE a (vN r)
def S3:List Nat→List SV
 | []=>[]
 | a::r=>.i .i64 (.ofNat a)::S3 r
def qG:BI:=fun vs me nx=>match vs with
 | [.p i o]=>match cellsOf me i with
  | some cs=>match nth cs (Nat.add o 6) with
   | some (.m j)=>match T.get j me with
    | some (.m .i64 aD)=>match kX aD with
     | some ks=>bif and (Nat.ble 1 ks.length) (Nat.ble ks.length 999) then .ret (.sr nx ks.length) (T.put nx (some (.r 3 1 (S3 (vN ks)))) me) (Pos.succ nx) else .no
     | none=>.no
    | _=>.no
   | _=>.no
  | none=>.no
 | _=>.no
theorem sA (a:Nat):∀ l,(JE a l).Perm (a::l)
 | []=>.refl _
 | b::r=>by
  simp only [JE];cases Nat.ble a b with
  | true=>exact .refl _
  | false=>exact ((sA a r).cons b).trans (.swap _ _ _)
theorem vM:∀ l,(vN l).Perm l
 | []=>.refl _
 | a::r=>(sA a _).trans ((vM r).cons a)
theorem tV (a:Nat):∀ l:List Nat,l.Pairwise (·≤·)→(JE a l).Pairwise (·≤·)
 | [],_=>by simp [JE]
 | b::r,h=>by
  simp only [JE];cases hb:Nat.ble a b with
  | true =>
   have hab:=Nat.le_of_ble_eq_true hb;refine List.Pairwise.cons (fun x hx=>?_) h;rcases List.mem_cons.1 hx with rfl | hx
   ·exact hab
   exact Nat.le_trans hab ((List.pairwise_cons.1 h).1 x hx)
  | false =>
   have hab:b≤a:=by
    rcases Nat.lt_or_ge b a with h1 | h1
    ·omega
    rw [Nat.ble_eq_true_of_le h1] at hb; cases hb
   refine List.Pairwise.cons (fun x hx=>?_) (tV a r (List.pairwise_cons.1 h).2);have:=(sA a r).mem_iff.1 hx;rcases List.mem_cons.1 this with rfl | hx
   ·exact hab
   exact (List.pairwise_cons.1 h).1 x hx
theorem pO:∀ l,(vN l).Pairwise (·≤·)
 | []=>List.Pairwise.nil
 | a::r=>tV a _ (pO r)
theorem E1 {zs:List Int} {ks:List Nat} (h:zs.Perm (ks.map Int.ofNat)):(zs.mergeSort fun x y=>decide (x≤y))=(vN ks).map Int.ofNat:=by
 have tr:∀ a b c:Int,decide (a≤b)=true→decide (b≤c)=true→decide (a≤c)=true:=fun a b c h1 h2=>by simp only [decide_eq_true_eq] at *; omega
 have to:∀ a b:Int,(decide (a≤b) || decide (b≤a))=true:=fun a b=>by simp only [Bool.or_eq_true,decide_eq_true_eq]; omega
 refine List.Perm.eq_of_pairwise (le:=fun a b=>decide (a≤b)=true) (fun a b _ _ h1 h2=>by simp only [decide_eq_true_eq] at h1 h2; omega) (List.pairwise_mergeSort tr to zs) ?_ (((List.mergeSort_perm zs _).trans h).trans ((vM ks).map Int.ofNat).symm);refine List.pairwise_map.2 ((pO ks).imp (fun {a b} hab=>?_));simp only [decide_eq_true_eq];show (a:Int)≤(b:Int);omega
theorem pZ:∀ {aD:List (Int × SV)} {ks:List Nat},kX aD=some ks→aD.map (·.1)=ks.map Int.ofNat
 | [],ks,h=>by simp only [kX,Option.some.injEq] at h; subst h; rfl
 | (.ofNat k,x)::r,ks,h=>by
  simp only [kX] at h;cases hr:kX r with
  | none=>rw [hr] at h; cases h
  | some l=>rw [hr] at h; injection h with h; subst h; simp [pZ hr]
 | (.negSucc k,x)::r,ks,h=>by simp [kX] at h
theorem FH (g:G):∀ l:List Nat,aF (aE g) (S3 l)=some ((l.map Int.ofNat).map (Value.int .i64))
 | []=>rfl
 | a::r=>by simp [S3,aF,aE,aI,FH g r]
theorem FF {W0:World}:qY Tryz.prog W0 149 qG:=by
 refine ⟨eN,fun vs me nx v me' nx' h W R g xs hf hx hm=>?_,fun vs me nx v me' nx' h=>?_⟩
 ·unfold qG at h;split at h
  ·rename_i i o;split at h
   ·rename_i cs hc;split at h
    ·rename_i j hn;split at h
     ·rename_i aD hj;split at h
      ·rename_i ks hks;cases hb:(and (Nat.ble 1 ks.length) (Nat.ble ks.length 999)) with
       | false=>rw [hb] at h; cases h
       | true =>
        rw [hb] at h;simp only [Bool.and_eq_true] at hb;have b1:=Nat.le_of_ble_eq_true hb.1;have b2:=Nat.le_of_ble_eq_true hb.2;injection h with h1 h2 h3; subst h1; subst h2; subst h3;obtain ⟨x,us,d1,d2,rfl⟩:=aK hx;have:us=[]:=by simpa [aF] using d2.symm
        subst this;obtain ⟨q,q1,rfl⟩:=fH d1;have hne:i≠j:=fun e=>by
         subst e;unfold cellsOf at hc; rw [hj] at hc; cases hc
        have hc':cellsOf (T.put j none me) i=some cs:=by
         unfold cellsOf at hc ⊢;rw [T.bO _ _ _ _ hne]; exact hc
        obtain ⟨y,k1⟩:=(fO hm hj).aP;obtain ⟨⟨k2,k3,k4,k5⟩,k6⟩:=k1.aS.aN;have aR7:=pZ hks;have hkeys:(y.2.2.2.map (·.1)).Perm (ks.map Int.ofNat):=by
         rw [← aR7,← dN k3];exact k4.map _
        have hlen:y.2.2.2.length=ks.length:=by have:=hkeys.length_eq; simpa using this
        have hcell:∀ w,aB W0 w (mem g (T.put j none me)++R)→w.cell? ⟨q.1,o + 6,none⟩=some (.map (some y.1)):=by
         intro w hw;obtain ⟨q',xs,e1,e2,e3⟩:=hD hw hc';rw [q1] at e1; obtain rfl:=Option.some.inj e1;refine e3 (o + 6) _ ?_;obtain ⟨x,f1,f2⟩:=gZ e2 (show cs[o + 6]?=some (.m j) by rw [← hZ]; exact hn);rw [f1];simp only [aE,aI,k2] at f2;rw [← f2]; rfl
        refine (FW (b:=q.1) (o:=o) (by omega) (by omega) k6 hcell).mono ?_;rintro e w' ⟨v',zs,z1,⟨av,cv,rfl⟩,rfl,z4⟩;have hz:zs.Perm (ks.map Int.ofNat):=z1.trans hkeys;have hzl:zs.length=ks.length:=by have:=hz.length_eq; simpa using this
        rw [E1 hz,hzl] at z4;obtain ⟨bb,rfl⟩:=z4.dV .here (by omega);have s1:aB W0 w' (OT g j (.m .i64 aD)::(Rw 3 1 (.slice (some ⟨bb,0,none⟩) ks.length cv) ks.length (((vN ks).map Int.ofNat).map (Value.int .i64))::(mem g (T.put j none me)++R))):=aB.bR y (aB.cB (aB.bB ⟨k2,k3,k4,k5⟩ z4.p1));have s2:=pN hj (jA (s1.perm (List.Perm.cons _ (List.perm_middle (l₁:=mem g (T.put j none me)) (a:=Rw 3 1 (.slice (some ⟨bb,0,none⟩) ks.length cv) ks.length (((vN ks).map Int.ofNat).map (Value.int .i64))) (l₂:=R)).symm)));have s3:=s2.perm List.perm_middle;exact ⟨g.set nx (bb,cv),.slice (some ⟨bb,0,none⟩) ks.length cv,by rw [hzl],G.bX _ _ _,G.aY hf _,by rw [Pos.bW]; omega,mF (G.bL g nx _),tR hf (dW hm hf) (FH g _) s3⟩
      cases h
     cases h
    cases h
   cases h
  cases h
 unfold qG at h;split at h
 ·split at h
  ·split at h
   ·split at h
    ·split at h
     ·rename_i ks hks;cases hb:(and (Nat.ble 1 ks.length) (Nat.ble ks.length 999)) with
      | false=>rw [hb] at h; cases h
      | true=>rw [hb] at h; cases h
     ·cases h
    cases h
   cases h
  cases h
 cases h
end
end EV
end Go.Proofs.YtadggjnohohedaaGreatDoor
namespace Go.Proofs.YtadggjnohohedaaGreatDoor
section
def AP (s:ByteArray):List Value:=s.data.toList.map fun c=>Value.int .u8 c.toNat
theorem W2 (s:ByteArray):(AP s).length=s.size:=by unfold AP; rw [List.length_map,Array.length_toList]; rfl
theorem NS {s:ByteArray} {k:Nat} (h:k < s.size):(AP s)[k]?=some (.int .u8 (s[k].toNat:Int)):=by
 have h':k < s.data.toList.length:=by rw [Array.length_toList]; exact h
 unfold AP;rw [List.getElem?_map,List.getElem?_eq_getElem h'];rfl
section
variable {P:Program} {W0 W w:World} {L L' R X F:List aA} {kn:Kn} {b:Nat} {xs:List Value} {U:aA}
class jE (L:List aA) (b:Nat) (xs:outParam (List Value)):Prop where
 ex:∃ R,Pick L (EV.Ro b xs) R
instance (priority:=high) jE.here:jE (EV.Ro b xs::L) b xs:=⟨_,.here⟩
instance (priority:=low) jE.there [h:jE L b xs]:jE (U::L) b xs:=⟨h.ex.elim fun R p=>⟨_,.there p⟩⟩
instance (priority:=high) jE.MP:jE ((EV.Ro b xs::F)++X) b xs:=⟨_,.here⟩
instance (priority:=low) jE.AY [h:jE (F++X) b xs]:jE ((U::F)++X) b xs:=⟨h.ex.elim fun R p=>⟨_,.there p⟩⟩
instance (priority:=high) jE.N9 [h:jE X b xs]:jE ([]++X) b xs:=⟨h.ex⟩
theorem EX.ldO {d g t' x ty ps af v k} (hx:ev kn x=some (.pointer (some ⟨b,k,none⟩))) [p:jE L b xs] (hc:xs[k]?=some v) (h1:One P t'):EX P W0 kn L ⟨d,.load t' x,ty,ps,af,g⟩ v:=p.ex.elim fun R p=>fun ρ w he hs=>by
 have hrd:=EV.aB.ro hs p k v hc;simp only [execOp,he x _ hx,Sem.run_bind,Instr.loadAt,Instr.sureAddr,loadVar,h1 w,Result.andThen_ok,Sem.run_pure,Bool.false_eq_true,if_false,run_load,hrd]
theorem EX.BB {d g ty ps af T x s} {lo hi:Option Operand} {l h:Nat} (hx:ev kn x=some (.string s)) (hT:P.underlying T=some .string) (hlo:(lo=none∧l=0)∨∃ y k i,lo=some y∧ev kn y=some (.int k i)∧i=(l:Int))
  (hhi:(hi=none∧h=s.size)∨∃ y k i,hi=some y∧ev kn y=some (.int k i)∧i=(h:Int)) (h1:l≤h) (h2:h≤s.size):EX P W0 kn L ⟨d,.slice T x lo hi none,ty,ps,af,g⟩ (.string (s.extract l h)):=fun ρ w he hs=>by
 have q1:(lo.map ρ=none∧l=0)∨∃ k,lo.map ρ=some (.int k (l:Int)):=by
  rcases hlo with ⟨rfl,e⟩ | ⟨y,k,i,rfl,e,rfl⟩
  ·exact .inl ⟨rfl,e⟩
  exact .inr ⟨k,by simp [he y _ e]⟩
 have q2:(hi.map ρ=none∧h=s.size)∨∃ k,hi.map ρ=some (.int k (h:Int)):=by
  rcases hhi with ⟨rfl,e⟩ | ⟨y,k,i,rfl,e,rfl⟩
  ·exact .inl ⟨rfl,e⟩
  exact .inr ⟨k,by simp [he y _ e]⟩
 have hr:=EV.oY (P:=P) (w:=w) (n:=s.size) q1 q2 h1 h2;simp only [execOp,Option.map_none,he x _ hx,Sem.run_bind,run_sliceAt_string w T _ _ _ _ hT,Instr.slice,underlying,run_program,Result.andThen_ok,hT,Sem.run_pure,Option.isSome_none,Bool.false_eq_true,if_false,hr]
theorem ZR (s:ByteArray):strOfNums (s.data.toList.map fun c=>(c.toNat:Int))=s:=by
 unfold strOfNums;simp [Function.comp_def]
theorem EX.aFm {d g ty ps af S T e x v} {s:ByteArray} {n:Nat} (hx:ev kn x=some v) (p:Pick L (Rw e 1 v n (AP s)) R) (h1:P.underlying S=some (.slice e)) (h2:P.underlying e=some (.int .u8)) (h3:P.underlying T=some .string) :
  EX P W0 kn L ⟨d,.convert S T x,ty,ps,af,g⟩ (.string s):=fun ρ w he hs=>by
 have hown:=hs.rw p;have hn:n=s.size:=by have:=hown.1; rw [W2] at this; omega
 subst hn;rcases hown.2 with ⟨hv,h0⟩ | ⟨q,cap,cur,hv,_⟩
 ·have hs0:s=⟨#[]⟩:=by
   cases s with
   | mk d=>have:d.size=0:=h0; rw [Array.size_eq_zero_iff.1 this]
  subst hs0;subst hv;have hr:(convert S T (.slice none 0 0)).run P w=.ok (.string ⟨#[]⟩) w:=by
   rw [run_convert_bytes_string w S T e none 0 0 h1 h2 h3];simp [Conv.bytesToString];rfl
  simp only [execOp,he x _ hx,Sem.run_bind,hr,Result.andThen_ok]; rfl
 subst hv;have hr:=run_convert_bytes_arg (P:=P) w S e h1 h2 q 0 s.size cap (s.data.toList.map fun c=>(c.toNat:Int)) (by rw [List.length_map,Array.length_toList]; rfl) (fun i hi=>by
  have hi':i < s.data.toList.length:=by rw [Array.length_toList]; exact hi
  rw [Nat.zero_add,pQ hown (NS hi)];rw [List.getD,List.getElem?_map,List.getElem?_eq_getElem hi']; rfl) T h3
 rw [ZR] at hr;simp only [execOp,he x _ hx,Sem.run_bind,hr,Result.andThen_ok]; rfl
theorem size_push (s:ByteArray) (c:UInt8):(s.push c).size=s.size + 1:=by
 show (s.data.push c).size=_;rw [Array.size_push]; rfl
end
end
section
theorem u8r (n:Int):0≤IntKind.u8.wrap n∧IntKind.u8.wrap n < 256:=by rw [IntKind.wrap_u8]; omega
theorem aHf (n:Int):0≤IntKind.u64.wrap n∧IntKind.u64.wrap n < 18446744073709551616:=by rw [IntKind.wrap_u64]; omega
theorem wi8 (c:UInt8):IntKind.i64.wrap (c.toNat:Int)=c.toNat:=wi (by have:=c.toNat_lt; omega)
theorem aNz {n:Int} (c:UInt8) (h:0≤n∧n≤56):IntKind.i64.wrap (n + c.toNat)=n + c.toNat:=wi (by have:=c.toNat_lt; omega)
theorem aKm {p:Prop} (h:p:=by
  first
  | exact ⟨(aHf _).1,fun _=>⟨by omega,by dsimp only; omega,by dsimp only; omega⟩,fun c hc h1=>YQ (MN c hc) h1 (hs.2.2 c hc h1)⟩
  | exact ⟨Int.le_refl _,fun h=>(by cases h),fun c hc h1=>(by have h2:=hc.1; have h3:=ZW hc.2; omega)⟩
  | exact ⟨Int.le_refl _,fun h=>(by cases h),fun c hc h1=>(by have h2:=hs.2.2 c hc h1; have h3:=ZW (MN c hc); omega)⟩
  | exact ⟨Int.le_refl _,fun h=>(by cases h),fun c hc h1=>(by have h2:=hs.2.2 c hc h1; have h3:=byte_at (i:=s.1) (by omega) (MN c hc) h2.1; omega)⟩):p:=h
theorem aKl {p:Prop} (h:p:=by
  refine Au ?_;refine GC.cond rfl (fun c38=>?_) (fun c38=>?_)
  ·exact Q9
  refine Au ?_;refine Lu rfl (EX.shl rfl rfl (by omega) rfl) ?_;refine Au ?_;refine Lu rfl (EX.and rfl rfl rfl) ?_;refine Lu rfl (EX.conv rfl uN uN rfl) ?_;refine Lu rfl (EX.or rfl rfl rfl) ?_;refine Au ?_;refine GC.cond rfl (fun c46=>?_) (fun c46=>?_)
  ·refine Au ?_;refine La ?_;refine La ?_;exact Q9
  refine Au ?_;refine La ?_;refine Au ?_;simp only [dB,ne_eq,dC] at *;exact GE.ag (s.1 + 1,_) (.c (by rw [← Int.natCast_succ]; rfl) (.c rfl (.c rfl (.c rfl (.c rfl .n))))) .refl (by dsimp only; omega) (⟨by dsimp only; omega,(aHf _).1,fun c hc h1=>by exfalso; have h2:=hs.2.2 c hc h1; have h3:=byte_at (i:=s.1) (by omega) (MN c hc) h2.1; omega⟩)):p:=h
theorem R0 {p:Prop} (h:p:=by
  refine Au ?_;refine Gs fun w h=>?_;refine ⟨(_,_,_),?_,rfl,h.part .refl⟩;first
  | exact ⟨aE8 _ _ _,fun _=>⟨by omega,by dsimp only; omega,by dsimp only; omega⟩⟩
  | exact ⟨Nat.zero_le _,fun h=>by cases h⟩
  | exact ⟨Nat.zero_le _,fun h=>absurd h (by simpa using c20)⟩):p:=h
theorem QL {p:Prop} (h:p:=by
  refine Au ?_;simp only [dB] at *;exact GE.jn (_,_) (.c rfl (.c rfl .n)) .refl (by dsimp only; refine ⟨by omega,by omega,fun h=>by omega,fun h=>by omega⟩)):p:=h
theorem Q9 {p:Prop} (h:p:=by
  refine Au ?_;refine Gs fun w h=>?_;simp only [dB,ne_eq,dC] at *;refine ⟨(_,_,_),?_,rfl,h.part (.d .refl)⟩;exact aKm):p:=h
theorem aKk {p:Prop} (h:p:=by
  refine Au ?_;refine Gs fun w h=>?_;simp only [dB,ne_eq,dC] at *;refine ⟨(_,_,_),?_,rfl,h.part .refl⟩;exact aKm):p:=h
theorem aHl (m:Int):m.fdiv (2 ^ (min (32:Int).toNat IntKind.u64.bits))=m / 4294967296:=by
 rw [show (2:Int) ^ (min (32:Int).toNat IntKind.u64.bits)=4294967296 from by decide]; exact Int.fdiv_eq_ediv_of_nonneg _ (by decide)
theorem aHm (m:Int):m.fdiv (2 ^ (min (16:Int).toNat IntKind.u64.bits))=m / 65536:=by
 rw [show (2:Int) ^ (min (16:Int).toNat IntKind.u64.bits)=65536 from by decide]; exact Int.fdiv_eq_ediv_of_nonneg _ (by decide)
theorem aN5 (m:Int):m.fdiv (2 ^ (min (8:Int).toNat IntKind.u64.bits))=m / 256:=by
 rw [show (2:Int) ^ (min (8:Int).toNat IntKind.u64.bits)=256 from by decide]; exact Int.fdiv_eq_ediv_of_nonneg _ (by decide)
theorem aS6 {s:ByteArray} (h:s.data.toList.all (fun c=>decide (c.toNat≤8))=true) (i:Nat) (hi:i < s.size):s[i].toNat≤8:=by
 have h':i < s.data.toList.length:=by rw [Array.length_toList]; exact hi
 have:=List.all_eq_true.1 h _ (List.getElem_mem h');have h2:s.data[i].toNat≤8:=by simpa using this
 exact h2
theorem P4 {x0 n:Int} {s:ByteArray} {i:Nat} {hi:i < s.size} (h:s.data.toList.all (fun c=>decide (c.toNat≤8))=true) (h7:(s.data.toList.take 128).all (fun c=>decide (c.toNat≤7))=true) {y:Int} (hy:i=(IntKind.u8.wrap y).toNat) (hs:0≤n∧n≤56∧(x0 < 256→y=x0∧n=0)∧(x0≤4294967296→n≤32)) :
  0≤n + (s[i].toNat:Int)∧n + (s[i].toNat:Int)≤64∧(x0 < 256→n + (s[i].toNat:Int)≤8)∧(x0≤4294967296→n + (s[i].toNat:Int)≤40)∧(0≤x0→x0 < 128→n + (s[i].toNat:Int)≤7):=by
 have:=aS6 h i hi;refine ⟨by omega,by omega,fun h=>by omega,fun h=>by omega,fun h0 h1=>?_⟩;have hi2:i < 128:=by
  have:=(hs.2.2.1 (by omega)).1;subst this;rw [hy,wb (by omega)]; omega
 have h3:s[i].toNat≤7:=by
  have hl:i < (s.data.toList.take 128).length:=by rw [List.length_take,Array.length_toList]; have:i < s.data.size:=hi; omega
  have:=List.all_eq_true.1 h7 _ (List.getElem_mem hl);rw [List.getElem_take] at this;have h2:s.data[i].toNat≤7:=by simpa using this
  exact h2
 have:=(hs.2.2.1 (by omega)).2;omega
theorem qE (x0:Int) :
  bQ Tryz.prog 113 [.int .u64 x0] [] (fun x:Int=>.int .i64 x) (fun x=>[]) (fun x=>0≤x∧x≤64∧(x0 < 256→x≤8)∧(x0≤4294967296→x≤40)∧(0≤x0→x0 < 128→x≤7)):=by
 refine Fg Tryz.func113 Tryz.ntmps113 fun W0 R=>?_;refine Zt ?_;refine Lu rfl (EX.assign rfl) ?_;refine Zn ?_;refine GC.join (σ:=Int × Int) (fun s=>[(0,.int .u64 s.1),(2,.int .i64 s.2)]) (fun s=>R) (fun s=>0≤s.2∧s.2≤32∧(x0 < 256→s.1=x0∧s.2=0)∧(x0≤4294967296→s.2=0∨s.1=1∧s.2=32)) (fun s hs=>?_) ?_
 ·obtain ⟨s0,s2⟩:=s;simp only at hs;refine GC.join (σ:=Int × Int) (fun s=>[(0,.int .u64 s.1),(2,.int .i64 s.2)]) (fun s=>R) (fun s=>0≤s.2∧s.2≤48∧(x0 < 256→s.1=x0∧s.2=0)∧(x0≤4294967296→s.2≤16∨s.1=1∧s.2=32)) (fun s hs=>?_) ?_
  ·obtain ⟨s0,s2⟩:=s;simp only at hs;refine GC.join (σ:=Int × Int) (fun s=>[(0,.int .u64 s.1),(2,.int .i64 s.2)]) (fun s=>R) (fun s=>0≤s.2∧s.2≤56∧(x0 < 256→s.1=x0∧s.2=0)∧(x0≤4294967296→s.2≤32)) (fun s hs=>?_) ?_
   ·obtain ⟨s0,s2⟩:=s;simp only at hs;refine Au ?_;refine Lu rfl (EX.conv rfl uN uN rfl) ?_;refine Lu rfl (EX.sB rfl rfl uN (by have:=u8r s0; exact ⟨this.1,by change _ < 256; simp only []; omega⟩)) ?_;refine Lu rfl (EX.conv rfl uN uN (wi8 _)) ?_;refine Lu rfl (EX.add rfl rfl (aNz _ ⟨hs.1,hs.2.1⟩)) ?_;refine Au ?_;refine Go fun w h=>?_;refine ⟨_,?_,rfl,h.part .refl⟩;exact P4 (by decide) (by decide) rfl hs
   refine Au ?_;refine GC.cond rfl (fun c14=>?_) (fun c14=>?_)
   ·refine Au ?_;refine Lu rfl (EX.shr rfl rfl (by omega) (aN5 _)) ?_;refine Au ?_;refine La ?_;exact QL
   exact QL
  refine Au ?_;refine GC.cond rfl (fun c8=>?_) (fun c8=>?_)
  ·refine Au ?_;refine Lu rfl (EX.shr rfl rfl (by omega) (aHm _)) ?_;refine Au ?_;refine La ?_;exact QL
  exact QL
 refine Au ?_;refine GC.cond rfl (fun c4=>?_) (fun c4=>?_)
 ·refine Au ?_;refine Lu rfl (EX.shr rfl rfl (by omega) (aHl _)) ?_;exact QL
 exact QL
theorem aGd:∀ k:Fin 128,IntKind.u8.wrap (IntKind.u64.wrap ((BitVec.ofInt IntKind.u64.bits (k.val:Int) &&& BitVec.ofInt IntKind.u64.bits 127).toNat:Int))=(k.val:Int):=by decide
theorem UM {i m n:Int} (hi:0≤i∧i < m) (h:m=1) (h0:0≤n) (h1:n < 128):IntKind.u8.wrap (IntKind.u64.wrap ((BitVec.ofInt IntKind.u64.bits (n.fdiv (2 ^ (min (7 * (m - 1 - i)).toNat IntKind.u64.bits))) &&& BitVec.ofInt IntKind.u64.bits 127).toNat:Int))=n:=by
 obtain rfl:i=0:=by omega
 subst h;have e:n.fdiv (2 ^ (min ((7:Int) * (1 - 1 - 0)).toNat IntKind.u64.bits))=n:=by
  rw [show (2:Int) ^ (min ((7:Int) * (1 - 1 - 0)).toNat IntKind.u64.bits)=1 from by decide]; exact Int.fdiv_one n
 rw [e];have:=aGd ⟨n.toNat,by omega⟩;simp only at this;rw [Int.toNat_of_nonneg h0] at this;exact this
theorem G9 (bn bm bb c k:Nat) (a:Option Addr) (n m i:Int) (xs:List Value) (hi:0≤i∧i < m) (hm:m≤1000) (hk:k≤1000000) :
  bQ Tryz.prog 114 [.int .i64 i,ptr bn,ptr bm,ptr bb] [Bk bn 30 [.int .u64 n],Bk bm 3 [.int .i64 m],Bk bb 248 [.slice a k c],Rw 5 1 (.slice a k c) k xs] (fun x:Value × Int=>Go.undef) (fun x=>[Bk bn 30 [.int .u64 n],Bk bm 3 [.int .i64 m],Bk bb 248 [x.1],Rw 5 1 x.1 (k + 1) (xs++[.int .u8 x.2])]) (fun x=>Sl (k + 1) x.1∧0≤x.2∧x.2 < 256∧(m=1→0≤n→n < 128→x.2=n)):=by
 refine Fg Tryz.func114 Tryz.ntmps114 fun W0 R=>?_;refine Au ?_;refine La ?_;refine Au ?_;refine La ?_;refine Lu rfl (EX.mul rfl rfl (wi (by omega))) ?_;refine Lu rfl (EX.shr rfl rfl (by omega) rfl) ?_;refine Lu rfl (EX.and rfl rfl rfl) ?_;refine Lu rfl (EX.conv rfl uN uN rfl) ?_;refine Lr.run (.a rfl .s) rfl ?_;refine Zn ?_;refine GC.join (σ:=Int) (fun s=>[(5,.int .u8 s),(1,ptr bn),(2,ptr bm),(3,ptr bb)]) (fun s=>[Bk bn 30 [.int .u64 n],Bk bm 3 [.int .i64 m],Bk bb 248 [.slice a k c],Rw 5 1 (.slice a k c) k xs]++R) (fun s=>0≤s∧s < 256∧(m=1→0≤n→n < 128→s=n)) (fun s hs=>?_) ?_
 ·refine GC.app .a4 ?_;refine Au ?_;refine Ef (EF.buildSlice rfl bS rfl rfl rfl) fun b23 _=>?_;refine Ef (EF.append rfl rfl NV (fun v=>.there (.there (.there (.there (.here))))) .p0 (rfl) (rfl) (by unfold maxLen; omega) (by omega)) fun v24 hv24=>?_;obtain ⟨aTt,aTn,rfl⟩:=hv24;refine Au ?_;refine GE.lW rfl (fun w h=>?_);exact ⟨(_,_),⟨⟨_,_,rfl⟩,hs⟩,rfl,h.part (.t1 (.t1 (.t1 (.t1 (.d .refl)))))⟩
 refine Au ?_;refine La ?_;refine Au ?_;refine GC.cond rfl (fun c18=>?_) (fun c18=>?_)
 ·refine Au ?_;refine Lu rfl (EX.or rfl rfl rfl) ?_;refine Au ?_;simp only [decide_eq_true_eq] at *;exact GE.jn _ (.c rfl (.c rfl (.c rfl (.c rfl .n)))) .refl (⟨(u8r _).1,(u8r _).2,fun h=>by omega⟩)
 refine Au ?_;exact GE.jn _ (.c rfl (.c rfl (.c rfl (.c rfl .n)))) .refl (⟨(u8r _).1,(u8r _).2,fun h h0 h1=>UM hi h h0 h1⟩)
theorem SB (s:ByteArray) (n:Int) (h:0≤n∧n < 256):AP s++[.int .u8 n]=AP (s.push (UInt8.ofNat n.toNat)):=by
 unfold AP;have:(UInt8.ofNat n.toNat).toNat=n.toNat:=by simp; omega
 have e:(s.push (UInt8.ofNat n.toNat)).data.toList=s.data.toList++[UInt8.ofNat n.toNat]:=by
  show (s.data.push _).toList=_;simp
 rw [e,List.map_append,List.map_cons,List.map_nil,this];congr 3; omega
theorem UJ {i:Nat} {m x0 n:Int} {bs:ByteArray} (hm:m=1) (hi:(i:Int) < m) (hn:n=x0) (hb:bs=if i=0 then ⟨#[]⟩ else ⟨#[UInt8.ofNat x0.toNat]⟩):bs.push (UInt8.ofNat n.toNat)=if i + 1=0 then ⟨#[]⟩ else ⟨#[UInt8.ofNat x0.toNat]⟩:=by
 obtain rfl:i=0:=by omega
 rw [if_pos rfl] at hb;subst hb; subst hn;rw [if_neg (by omega)]; rfl
theorem aHh {m:Int} (h:0≤m∧m≤1000):IntKind.i64.wrap (m.tdiv 7)=m / 7:=by
 rw [Int.tdiv_eq_ediv_of_nonneg h.1]; exact wi (by omega)
theorem P0 {x0 r:Int} (hr:0≤r∧r≤64∧(x0 < 256→r≤8)∧(x0≤4294967296→r≤40)∧(0≤x0→x0 < 128→r≤7)):∃ m:Int,(if (r + 7 - 1) / 7 > 1 then (r + 7 - 1) / 7 else 1)=m∧1≤m∧m≤10∧(x0 < 256→m≤2)∧(x0≤4294967296→m≤6)∧(0≤x0→x0 < 128→m=1):=by
 refine ⟨_,rfl,?_⟩;split <;> refine ⟨by omega,by omega,fun h=>by omega,fun h=>by omega,fun h0 h=>by omega⟩
theorem pJ (x0:Int) :
  bQ Tryz.prog 66 [.int .u64 x0] [] (fun x:ByteArray=>.string x) (fun x=>[]) (fun x=>(0≤x0→x0 < 128→x=⟨#[UInt8.ofNat x0.toNat]⟩)∧1≤x.size∧x.size≤10∧(x0 < 256→x.size≤2)∧(x0≤4294967296→x.size≤6)):=by
 refine Fg Tryz.func66 Tryz.ntmps66 fun W0 R=>?_;refine Au ?_;refine Ef (EF.ZS rfl rfl) fun b1 _=>?_;refine Au ?_;refine Ky (qE _) fun r hr=>?_;refine La ?_;refine La ?_;refine Lu rfl (EX.quo rfl rfl (by decide) (aHh (by omega))) ?_;obtain ⟨many,aLa,hm1,hm2,hm3,hm4,hm5⟩:=P0 hr;refine Lu rfl (EX.max2 rfl rfl aLa) ?_;refine Ef (EF.alloc aL) fun b3 _=>?_;refine Au ?_;refine Ef (EF.alloc aL) fun b4 _=>?_;refine Au ?_;refine Lu rfl (EX.makeFunc (fs:=[]) (cs:=[_,_,_]) rfl rfl) ?_;refine Lr.run (.a rfl .s) rfl ?_;refine Zn (Zs (Zt ?_));refine Lr.run (.l rfl rfl oN (.m rfl .s)) rfl ?_;refine Zn (GC.block ?_);refine GC.turn (fun w h=>h.eP 5 1) ?_;refine GC.lp (σ:=Nat × Option Addr × Nat × ByteArray) (fun s=>[(15,.int .i64 (s.1:Int)),(14,.int .i64 many),(5,.func (.func 114) #[] #[ptr b1,ptr b3,ptr b4]),(4,ptr b4)]) (fun s=>[Bk b1 30 [.int .u64 x0],Bk b3 3 [.int .i64 many],Bk b4 248 [.slice s.2.1 s.1 s.2.2.1],Rw 5 1 (.slice s.2.1 s.1 s.2.2.1) s.1 (AP s.2.2.2)]++R) (fun s=>(s.1:Int)≤many∧s.2.2.2.size=s.1∧(0≤x0→x0 < 128→s.2.2.2=if s.1=0 then ⟨#[]⟩ else ⟨#[UInt8.ofNat x0.toNat]⟩)) (fun s=>many.toNat - s.1) (0,none,0,⟨#[]⟩) (.c rfl (.c rfl (.c rfl (.c rfl .n)))) (.t3 (.t2 (.t1 .refl))) (⟨by dsimp only; omega,rfl,fun _ _=>rfl⟩) (fun s hs=>?_);refine GC.app .a4 ?_;obtain ⟨i,a,c,bs⟩:=s;dsimp only at hs;refine Au ?_;refine GC.cond rfl (fun c16=>?_) (fun c16=>?_)
 ·simp only [decide_eq_true_eq] at c16;refine Au ?_;refine K.x (EC.closure rfl eN rfl) (G9 b1 b3 b4 c i a x0 many i (AP bs) ⟨by omega,by omega⟩ (by omega) (by omega)) (.cons .p0 (.cons .p0 (.cons .p0 (.cons .p0 .nil)))) (fun _=>.a4) rfl rfl (.free rfl) (fun x hx=>?_);obtain ⟨v,n⟩:=x;obtain ⟨⟨a',c',hv⟩,hn⟩:=hx;dsimp only at hv hn;subst hv;have hch:=SB bs n ⟨hn.1,hn.2.1⟩;dsimp only;rw [hch];refine Au ?_;refine La ?_;refine Au ?_;exact GE.ag (s:=(i,a,c,bs)) (i + 1,a',c',bs.push (UInt8.ofNat n.toNat)) (.c (by rw [← Int.natCast_succ]; rfl) (.c rfl (.c rfl (.c rfl .n)))) .refl (by omega) (⟨by dsimp only; omega,by rw [size_push]; omega,fun h0 h1=>UJ (hm5 h0 h1) (by omega) (hn.2.2 (hm5 h0 h1) h0 h1) (hs.2.2 h0 h1)⟩)
 simp only [decide_eq_false_iff_not] at c16;refine Au ?_;refine Lu rfl (EX.aFm rfl .p3 uN uN uN) ?_;refine Au ?_;refine Go fun w h=>?_;refine ⟨bs,?_,rfl,h.part (.d (.d (.d (.d .refl))))⟩;refine ⟨fun h0 h1=>(hs.2.2 h0 h1).trans (if_neg (by omega)),by omega,by omega,fun h=>by have:=hm3 h; omega,fun h=>by have:=hm4 h; omega⟩
theorem aE8 (s:ByteArray) (a b:Nat):(s.extract a b).size≤s.size:=by rw [ByteArray.size_extract]; omega
theorem TL {s:ByteArray} {i:Int} (h:0≤i∧i≤s.size):((s.extract i.toNat s.size).size:Int)=s.size - i:=by
 rw [ByteArray.size_extract]; omega
def W7 (s:ByteArray) (i:Int) (c:UInt8):Prop:=0≤i∧s.data.toList[i.toNat]?=some c
theorem ZW {s:ByteArray} {i:Nat} {c:UInt8} (h:s.data.toList[i]?=some c):i < s.size:=by
 have:=(List.getElem?_eq_some_iff.1 h).1;rw [Array.length_toList] at this; exact this
theorem ext_list (s:ByteArray) (a b:Nat):(s.extract a b).data.toList=(s.data.toList.take b).drop a:=by
 have:(s.extract a b).data=s.data.extract a b:=ByteArray.data_extract;rw [this,Array.toList_extract,List.extract_eq_take_drop,List.drop_take]
theorem aHj {s:ByteArray} {i:Int} {c:UInt8} (h:W7 s i c):(s.extract i.toNat s.size).data.toList[0]?=some c:=by
 have hl:=ZW h.2;rw [ext_list,List.getElem?_drop,List.getElem?_take_of_lt (by omega),Nat.add_zero];exact h.2
theorem byte_at {s:ByteArray} {i:Nat} (hi:i < s.size) {c:UInt8} (h:s.data.toList[0]?=some c) (h0:i=0):s[i].toNat=c.toNat:=by
 subst h0;have:s.data.toList[0]?=some s.data[0]:=by rw [List.getElem?_eq_getElem (by rw [Array.length_toList]; exact hi)]; simp
 rw [this] at h;have h2:s.data[0]=c:=Option.some.inj h;exact congrArg UInt8.toNat h2
theorem or7:∀ k:Fin 128,IntKind.u64.wrap ((BitVec.ofInt IntKind.u64.bits (IntKind.u64.wrap (0 * 2 ^ (min (7:Int).toNat IntKind.u64.bits))) ||| BitVec.ofInt IntKind.u64.bits (IntKind.u64.wrap (IntKind.u8.wrap ((BitVec.ofInt IntKind.u8.bits (k.val:Int) &&& BitVec.ofInt IntKind.u8.bits 127).toNat:Int)))).toNat:Int)=(k.val:Int):=by decide
theorem S7 {s:ByteArray} {i:Nat} {n:Int} {hi:i < s.size} {c:UInt8} (h:s.data.toList[0]?=some c) (h1:c.toNat < 128) (hs:i=0∧n=0) :
  IntKind.u64.wrap ((BitVec.ofInt IntKind.u64.bits (IntKind.u64.wrap (n * 2 ^ (min (7:Int).toNat IntKind.u64.bits))) ||| BitVec.ofInt IntKind.u64.bits (IntKind.u64.wrap (IntKind.u8.wrap ((BitVec.ofInt IntKind.u8.bits (s[i].toNat:Int) &&& BitVec.ofInt IntKind.u8.bits 127).toNat:Int)))).toNat:Int)=c.toNat:=by
 rw [byte_at hi h hs.1,hs.2];exact or7 ⟨c.toNat,h1⟩
theorem YQ {s:ByteArray} {i:Nat} {n x1:Int} {hi:i < s.size} {c:UInt8} (h:s.data.toList[0]?=some c) (h1:c.toNat < 128) (hs:i=0∧n=0) :
  (IntKind.u64.wrap ((BitVec.ofInt IntKind.u64.bits (IntKind.u64.wrap (n * 2 ^ (min (7:Int).toNat IntKind.u64.bits))) ||| BitVec.ofInt IntKind.u64.bits (IntKind.u64.wrap (IntKind.u8.wrap ((BitVec.ofInt IntKind.u8.bits (s[i].toNat:Int) &&& BitVec.ofInt IntKind.u8.bits 127).toNat:Int)))).toNat:Int),x1 + (i:Int) + 1,(0:Int))=((c.toNat:Int),x1 + 1,0):=by
 rw [S7 h h1 hs,hs.1]; simp
theorem pK (x0:ByteArray) (x1:Int) (hz:x0.size≤1000000) :
  bQ Tryz.prog 71 [.string x0,.int .i64 x1] [] (fun x:Int × Int × Int=>.tuple #[.int .u64 x.1,.int .i64 x.2.1,.int .i64 x.2.2]) (fun x=>[]) (fun x=>0≤x.1∧(x.2.2=0→0≤x1∧x1 < x.2.1∧x.2.1≤x0.size)∧(∀ c,W7 x0 x1 c→c.toNat < 128→x=((c.toNat:Int),x1 + 1,0))):=by
 refine Fg Tryz.func71 Tryz.ntmps71 fun W0 R=>?_;refine Au ?_;refine GL.case 12 rfl (fun g12=>?_) (fun g12=>?_)
 ·refine Au ?_;refine GC.aQ rfl rfl ?_;exact aKk
 refine Au ?_;refine GC.cond rfl (fun c17=>?_) (fun c17=>?_)
 ·exact aKk
 refine Au ?_;simp only [dB,ne_eq,dC] at *;have hat:0≤x1∧x1≤x0.size:=by omega
 have hsub:=TL hat;have MN:∀ c,W7 x0 x1 c→(x0.extract x1.toNat x0.size).data.toList[0]?=some c:=fun c hc=>aHj hc;refine Au ?_;refine Lu rfl (EX.BB (l:=x1.toNat) rfl uN (.inr ⟨_,_,_,rfl,rfl,by omega⟩) (.inl ⟨rfl,rfl⟩) (by omega) (Nat.le_refl _)) ?_;refine Ef (EV.EF.cvb rfl uN uN uN) fun q hq=>?_;refine GL.turn (fun w h=>(h:aB W0 w (EV.Ro q.1 (AP (x0.extract x1.toNat x0.size))::R))) ?_;generalize x0.extract x1.toNat x0.size=sub at *;refine Au ?_;refine GC.lp (σ:=Nat × Int) (fun s=>[(23,.int .i64 (s.1:Int)),(22,.int .i64 (sub.size:Int)),(21,.slice (some ⟨q.1,0,none⟩) sub.size q.2),(7,.int .u64 s.2),(1,.int .i64 x1)]) (fun s=>EV.Ro q.1 (AP sub)::R) (fun s=>s.1≤sub.size∧0≤s.2∧∀ c,W7 x0 x1 c→c.toNat < 128→s.1=0∧s.2=0) (fun s=>sub.size - s.1) (0,0) (.c rfl (.c rfl (.c rfl (.c rfl (.c rfl .n))))) .refl (⟨Nat.zero_le _,by simp,fun _ _ _=>⟨rfl,rfl⟩⟩) (fun s hs=>?_);refine Au ?_;refine GC.cond rfl (fun c24=>?_) (fun c24=>?_)
 ·simp only [decide_eq_true_eq] at c24;refine Au ?_;refine Lu rfl (EX.indexAddr (a:=s.1) rfl rfl sL (by omega) (by simp)) ?_;refine Lu rfl (EX.ldO rfl (NS (by omega)) oN) ?_;refine Au ?_;refine GL.case 30 rfl (fun g30=>?_) (fun g30=>?_)
  ·refine Au ?_;refine GL.case 34 rfl (fun g34=>?_) (fun g34=>?_)
   ·refine Au ?_;refine GC.aQ rfl rfl ?_;exact Q9
   refine Au ?_;refine K.x (EC.direct eN rfl) (qE _) .nil (fun _=>.a0) rfl rfl (.guard rfl rfl rfl rfl g34) (fun r hr=>?_);exact aKl
  refine Au ?_;refine K.x (EC.direct eN rfl) (qE _) .nil (fun _=>.a0) rfl rfl (.guard rfl rfl rfl rfl rfl) (fun r hr=>?_);exact aKl
 exact Q9
theorem DL (x0:ByteArray) (x1:Int) (x2:Int) (hz:x0.size≤1000000) :
  bQ Tryz.prog 120 [.string x0,.int .i64 x1,.int .i64 x2] [] (fun x:ByteArray × Int × Int=>.tuple #[.string x.1,.int .i64 x.2.1,.int .i64 x.2.2]) (fun x=>[]) (fun x=>x.1.size≤x0.size∧(x.2.2=0→0≤x1∧x1 < x.2.1∧x.2.1≤x0.size)):=by
 refine Fg Tryz.func120 Tryz.ntmps120 fun W0 R=>?_;refine Au ?_;refine Ky (pK _ _ hz) fun z hz2=>?_;obtain ⟨hz3,hz4,_⟩:=hz2;refine Au ?_;refine GC.cond rfl (fun c20=>?_) (fun c20=>?_)
 ·exact R0
 simp only [decide_eq_false_iff_not,ne_eq,Decidable.not_not] at c20;obtain ⟨hz5,hz6⟩:=hz4 c20;refine Au ?_;refine Lu rfl (EX.max2 rfl rfl rfl) ?_;refine Lu rfl (EX.conv rfl uN uN rfl) ?_;refine Au ?_;refine GC.cond rfl (fun c24=>?_) (fun c24=>?_)
 ·exact R0
 simp only [decide_eq_false_iff_not] at c24;refine Au ?_;refine La ?_;refine Lu rfl (EX.conv rfl uN uN (wu (by omega))) ?_;refine Au ?_;refine GC.cond rfl (fun c30=>?_) (fun c30=>?_)
 ·exact R0
 simp only [decide_eq_false_iff_not] at c30;refine Au ?_;refine Lu rfl (EX.conv rfl uN uN (wi (by omega))) ?_;refine La ?_;refine Au ?_;refine Lu rfl (EX.BB (l:=z.2.1.toNat) (h:=(z.2.1 + z.1).toNat) rfl uN (.inr ⟨_,_,_,rfl,rfl,by omega⟩) (.inr ⟨_,_,_,rfl,rfl,by omega⟩) (by omega) (by omega)) ?_;exact R0
end
end Go.Proofs.YtadggjnohohedaaGreatDoor
