/- TopAlone: for every input the call returns true; part A2 of the proof. -/
import Derived.Test.YtadggjnohohedaaGreatDoorA1
import Derived.Maps.RangeRun
import Derived.Laws.RangeString
import Derived.Lib.ConvBytes
set_option linter.unusedVariables false
set_option linter.unusedSimpArgs false
set_option linter.unusedSectionVars false
set_option maxRecDepth 1000000
open Go.RowKit
namespace Go.Proofs.YtadggjnohohedaaGreatDoor
namespace EV
noncomputable section
def Ye (P:Program) (w:World) (rv:Operand→Value) (o:Oper) (x:Value) (w':World):Prop :=
 (execOp rv o).run P w=.ok (.value x) w'∨((execOp rv o).run P w=.ok .skip w'∧x=undef)
structure After (P:Program) (W0:World) (g:G) (nx:Pos) (R:List aA) (w:World) (rv:Operand→Value) (op:Oper) (v:SV) (me':T Ob) (nx':Pos) (g':G) (x:Value) (w':World):Prop where
 ext:g.ext g' nx
 fresh:g'.fresh nx'
 le:nx.nat≤nx'.nat
 den:den g' v=some x
 TM:aB W0 w' (mem g' me'++R)
 run:Ye P w rv op x w'
section
variable {P:Program} {w W0:World} {rv:Operand→Value} {g:G} {me me':T Ob} {R:List aA} {nx nx':Pos} {y z u:Operand} {a b c v:SV} {d:Option Tmp} {ty:TypeId} {pos:String} {af:Array Edge} {gd:Option (Nat × Bool)} (hs:Std rv)
theorem aBw {i:Pos} {o:Ob} (hm:aB W0 w (mem g me++R)) (h:T.get i me=some o):∃ q,g.fQ i=some q:=by
 cases o with
 | c t cs=>obtain ⟨x,h1⟩:=(fO hm h).aP; exact ⟨_,h1.aS.aN.1.1⟩
 | r t z cs=>obtain ⟨x,h1⟩:=(fO hm h).aP; exact ⟨_,h1.aS.aN.1.1⟩
 | m k aD=>obtain ⟨x,h1⟩:=(fO hm h).aP; exact ⟨_,h1.aS.aN.1.1⟩
 | it m=>obtain ⟨x,h1⟩:=(fO hm h).aP; exact ⟨_,h1.aN.1⟩
 | mi j n k aD=>obtain ⟨x,h1⟩:=(fO hm h).aP; exact ⟨_,h1.aS.aN.1.1⟩
 | me j k n aD=>obtain ⟨x,h1⟩:=(fO hm h).aP; exact ⟨_,h1.aS.aN.1.1⟩
 | ro t cs=>obtain ⟨x,h1⟩:=(fO hm h).aP; exact ⟨_,h1.aS.aN.1.1⟩
 | si n v pos=>obtain ⟨x,h1⟩:=(fO hm h).aP; exact ⟨_,h1.aS.aN.1.1⟩
 | st n rev most F=>obtain ⟨x,h1⟩:=(fO hm h).aP; exact ⟨_,h1.aS.aN.1.1⟩
theorem dW (hm:aB W0 w (mem g me++R)) (hf:g.fresh nx):T.get nx me=none:=by
 cases h:T.get nx me with
 | none=>rfl
 | some o =>
  obtain ⟨q,hq⟩:=aBw hm h;rw [hf nx (Nat.le_refl _)] at hq; cases hq
theorem le_succ (p:Pos):p.nat≤p.succ.nat:=by rw [Pos.bW]; omega
theorem LS {t bb:Nat} {cs:List SV} {xs:List Value} (hf:g.fresh nx) (hm:aB W0 w (mem g me++R)) (hd:aF (aE g) cs=some xs) {w':World} (h:aB W0 w' (Bk bb t xs::(mem g me++R))) :
  aB W0 w' (mem (g.set nx (bb,0)) (T.put nx (some (.c t cs)) me)++R):=by
 have hle:=(G.bX g nx (bb,0)).le hf;have h2:aB W0 w' (OT (g.set nx (bb,0)) nx (.c t cs)::(mem g me++R)):=aB.bR (bb,0,xs) (aB.cB (aB.bB ⟨G.bL g nx _,cS (fJ hle) hd⟩ h));have h3:aB W0 w' (mem g me++(OT (g.set nx (bb,0)) nx (.c t cs)::R)):=h2.perm List.perm_middle.symm;have h4:=gY hle h3;exact wE (h4.perm List.perm_middle) (dW hm hf)
theorem tR {t zz n cc bb:Nat} {cs:List SV} {xs:List Value} (hf:g.fresh nx) (hn:T.get nx me=none) (hd:aF (aE g) cs=some xs) {w':World} (h:aB W0 w' (Rw t zz (.slice (some ⟨bb,0,none⟩) n cc) n xs::(mem g me++R))) :
  aB W0 w' (mem (g.set nx (bb,cc)) (T.put nx (some (.r t zz cs)) me)++R):=by
 have hle:=(G.bX g nx (bb,cc)).le hf;have h2:aB W0 w' (OT (g.set nx (bb,cc)) nx (.r t zz cs)::(mem g me++R)):=aB.bR (bb,cc,xs,n) (aB.cB (aB.bB ⟨G.bL g nx _,cS (fJ hle) hd⟩ h));have h3:aB W0 w' (mem g me++(OT (g.set nx (bb,cc)) nx (.r t zz cs)::R)):=h2.perm List.perm_middle.symm;have h4:=gY hle h3;exact wE (h4.perm List.perm_middle) hn
theorem mF {i:Pos} {n:Nat} {q:Nat × Nat} (h:g.fQ i=some q):den g (.sr i n)=some (.slice (some ⟨q.1,0,none⟩) n q.2):=by simp [den,aT,aE,aI,h]
include hs
theorem aL5 {t:Nat} {zz:List SV} {zs:List Value} (ha:AL P t zs) (hz:aF (aE g) zz=some zs) (hf:g.fresh nx) (hm:aB W0 w (mem g me++R)):∃ g' x w',After P W0 g nx R w rv ⟨d,.alloc t,ty,pos,af,gd⟩ (.p nx 0) (T.put nx (some (.c t zz)) me) nx.succ g' x w':=by
 obtain ⟨bb,w',_,hr,hst⟩:=(EF.alloc (kn:=[]) (d:=d) (g:=gd) (ty:=ty) (pos:=pos) (af:=af) ha) rv w (fun x v h=>bA hs [] x v h) hm;refine ⟨g.set nx (bb,0),.pointer (some ⟨bb,0,none⟩),w',G.bX _ _ _,G.aY hf _,le_succ nx,mG (G.bL g nx _),LS hf hm hz hst,Or.inl hr⟩
theorem aL4 {t:Nat} {cs:List SV} (hy:den g a=some (rv y)) (hc:cells a=some cs) (hf:g.fresh nx) (hm:aB W0 w (mem g me++R)):∃ g' x w',After P W0 g nx R w rv ⟨d,.box t y,ty,pos,af,gd⟩ (.p nx 0) (T.put nx (some (.c t cs)) me) nx.succ g' x w':=by
 obtain ⟨b1,b2⟩:=sQ hy hc;obtain ⟨bb,w',_,hr,hst⟩:=(EF.box (T:=t) (d:=d) (g:=gd) (ty:=ty) (pos:=pos) (af:=af) (QO hs y rfl)) rv w (bA hs [y]) hm;refine ⟨g.set nx (bb,0),.pointer (some ⟨bb,0,none⟩),w',G.bX _ _ _,G.aY hf _,le_succ nx,mG (G.bL g nx _),LS hf hm b1 hst,Or.inl hr⟩
theorem aSj {t n:Nat} {v:SV} (hsz:SZ P t n) (hy:den g a=some (rv y)) (hz:den g b=some (rv z)) (hf:g.fresh nx) (hm:aB W0 w (mem g me++R)) (h:stE n me nx a b=.ok v me' nx'):∃ g' x w',After P W0 g nx R w rv ⟨d,.store t y z,ty,pos,af,gd⟩ v me' nx' g' x w':=by
 unfold stE at h;split at h
 ·rename_i i o;split at h
  ·rename_i t' cs hg;cases a1:cells b with
   | none=>rw [a1] at h; cases h
   | some ys =>
    rw [a1] at h; dsimp only at h;cases a2:Nat.beq (len ys) n with
    | false=>rw [a2] at h; cases h
    | true =>
     rw [a2] at h; simp only [cond_true] at h;cases a3:iP o ys cs with
     | none=>rw [a3] at h; cases h
     | some cs' =>
      rw [a3] at h; dsimp only at h;injection h with h1 h2 h3; subst h1; subst h2; subst h3;obtain ⟨b1,b2⟩:=sQ hz a1;obtain ⟨b3,b4⟩:=iO _ _ _ _ a3;obtain ⟨q,e1,e2⟩:=fH hy;obtain ⟨x,k1⟩:=(fO hm hg).aP;obtain ⟨⟨k2,k3⟩,k4⟩:=k1.aS.aN;obtain rfl:q=(x.1,x.2.1):=by rw [e1] at k2; exact Option.some.inj k2
      have hl:(vc (rv z)).length=ys.length:=cF b1;have hl2:ys.length=n:=by rw [← len_eq]; exact Nat.eq_of_beq_eq_true a2
      have hxl:=cF k3;have hp:=uT o (vc (rv z)) x.2.2 (by rw [hl,hxl]; exact b4);have hd:aF (aE g) cs'=some (x.2.2.take o++vc (rv z)++x.2.2.drop (o + (vc (rv z)).length)):=by
       rw [b3,hl];exact cY (cY (eG o k3) b1) (fG _ k3)
      obtain ⟨w',hr,hst⟩:=(EU.store (T:=t) (d:=d) (g:=gd) (ty:=ty) (pos:=pos) (af:=af) (jI hs y z e2) (jH hs y z rfl) hsz (by rw [hl,hl2]; exact Nat.beq_refl n) b2 hp .here) rv w (bA hs [y,z]) k4;refine ⟨g,undef,w',G.ext.refl _ _,hf,Nat.le_refl _,rfl,?_,Or.inr ⟨hr,rfl⟩⟩;exact jA (aB.bR (x.1,x.2.1,(x.2.2.take o++vc (rv z)++x.2.2.drop (o + (vc (rv z)).length))) (aB.cB (aB.bB ⟨e1,hd⟩ hst)))
  cases h
 cases h
theorem NT {T t zz n:Nat} {lk:LK} {oq:O→Operand→Bool} {qs:List (Nat × Nat × O)} {ps:List (Nat × Operand)} {zs l:List SV} {zero:List Value} (hq:∀ x y v,oq x y=true→lk x=some v→den g v=some (rv y))
  (hb:BS P T t zz zero) (hn:n * zz≤1000) (hn0:0 < n) (hz:aF (aE g) zs=some (zeros zero n)) (hml:n≤maxLen) (hp:parts (fun i=>some (i * zz,zz)) oq qs ps=true) (hl:fill lk qs zs=some l) (hm:aB W0 w (mem g me++R)) :
  ∃ bb w' cs,aF (aE g) l=some cs∧(execOp rv ⟨d,.buildSlice T n ps.toArray,ty,pos,af,gd⟩).run P w=.ok (.value (.slice (some ⟨bb,0,none⟩) n n)) w'∧aB W0 w' (Rw t zz (.slice (some ⟨bb,0,none⟩) n n) n cs::(mem g me++R)):=by
 obtain ⟨cs,h1,h2⟩:=wV hq hp hl hz;have he:NA (uH rv (ps.map (·.2))) ps=some (ps.map fun p=>(p.1,rv p.2)):=by
  have:∀ (qs:List (Nat × Operand)),(∀ q∈qs,q.2∈ps.map (·.2))→NA (uH rv (ps.map (·.2))) qs=some (qs.map fun p=>(p.1,rv p.2)):=by
   intro qs;induction qs with
   | nil=>intro _; rfl
   | cons q r ih =>
    intro hall;simp only [NA,dH hs (hall q (by simp)),ih (fun q hq=>hall q (by simp [hq])),List.map_cons]
  exact this ps (fun q hq=>List.mem_map.2 ⟨q,hq,rfl⟩)
 obtain ⟨bb,w',_,hr,hst⟩:=(EF.buildSlice (d:=d) (g:=gd) (ty:=ty) (pos:=pos) (af:=af) he hb (Nat.ble_eq_true_of_le hn) (by simp [Nat.blt]; omega) h2) rv w (bA hs _) hm;have hlen:cs.length=n * zz:=by
  have:=cF h1;have h3:∀ (qs:List (Nat × Nat × O)) (z l:List SV),fill lk qs z=some l→l.length=z.length:=by
   intro qs;induction qs with
   | nil=>intro z l h; have h':some z=some l:=h; injection h' with h'; subst h'; rfl
   | cons q r ih =>
    obtain ⟨off,size,x⟩:=q;intro z l h;have h':Option.rec (motive:=fun _=>Option (List SV)) none (fun v=>Option.rec (motive:=fun _=>Option (List SV)) none (fun cs=>bif Nat.beq (len cs) size then Option.rec (motive:=fun _=>Option (List SV)) none (fun z=>fill lk r z) (iP off cs z) else none) (cells v)) (lk x)=some l:=h;cases a1:lk x with
    | none=>rw [a1] at h'; cases h'
    | some v =>
     rw [a1] at h'; dsimp only at h';cases a2:cells v with
     | none=>rw [a2] at h'; cases h'
     | some cs =>
      rw [a2] at h'; dsimp only at h';cases a3:Nat.beq (len cs) size with
      | false=>rw [a3] at h'; cases h'
      | true =>
       rw [a3] at h'; simp only [cond_true] at h';cases a4:iP off cs z with
       | none=>rw [a4] at h'; cases h'
       | some z' =>
        rw [a4] at h'; dsimp only at h';obtain ⟨b3,b4⟩:=iO _ _ _ _ a4;rw [ih z' l h',b3];simp; omega
  have h4:=h3 qs zs l hl;have h5:=cF hz;rw [rB,hb.2.2.1] at h5;omega
 have hrow:=hst.uC hlen hml;exact ⟨bb,w',cs,h1,hr,hrow⟩
theorem aL3 {T t zz n:Nat} {lk:LK} {oq:O→Operand→Bool} {qs:List (Nat × Nat × O)} {ps:List (Nat × Operand)} {zs l:List SV} {zero:List Value} (hq:∀ x y v,oq x y=true→lk x=some v→den g v=some (rv y))
  (hb:BS P T t zz zero) (hn:n * zz≤1000) (hn0:0 < n) (hz:aF (aE g) zs=some (zeros zero n)) (hml:n≤maxLen) (hp:parts (fun i=>some (i * zz,zz)) oq qs ps=true) (hl:fill lk qs zs=some l) (hf:g.fresh nx) (hm:aB W0 w (mem g me++R)) :
  ∃ g' x w',After P W0 g nx R w rv ⟨d,.buildSlice T n ps.toArray,ty,pos,af,gd⟩ (.sr nx n) (EV.T.put nx (some (.r t zz l)) me) nx.succ g' x w':=by
 obtain ⟨bb,w',cs,h1,hr,hrow⟩:=NT (d:=d) (ty:=ty) (pos:=pos) (af:=af) (gd:=gd) hs hq hb hn hn0 hz hml hp hl hm;exact ⟨g.set nx (bb,n),.slice (some ⟨bb,0,none⟩) n n,w',G.bX _ _ _,G.aY hf _,le_succ nx,mF (G.bL g nx _),tR hf (dW hm hf) h1 hrow,Or.inl hr⟩
end
end
noncomputable section
section
variable {P:Program} {w W0:World} {rv:Operand→Value} {g:G} {me me':T Ob} {R:List aA} {nx nx':Pos} {y z u:Operand} {a b c v:SV} {d:Option Tmp} {ty:TypeId} {pos:String} {af:Array Edge} {gd:Option (Nat × Bool)} (hs:Std rv)
include hs
theorem aFi {T t zz:Nat} (hu:P.underlying T=some (.slice t)) (hi:(P.info? t).map (·.size)=some zz) (hf:g.fresh nx) (hm:aB W0 w (mem g me++R)) :
  ∃ g' x w',After P W0 g nx R w rv ⟨d,.buildSlice T 0 #[],ty,pos,af,gd⟩ (.sr nx 0) (EV.T.put nx (some (.r t zz [])) me) nx.succ g' x w':=by
 have hst:aB W0 (w.alloc (.cells #[] t)) (Bk w.heap.size t []::(mem g me++R)):=hm.wD t [];have hrow:=hst.uC (e:=t) (s:=zz) (n:=0) (by simp) (Nat.zero_le _);obtain ⟨inf,CE,hs1⟩:∃ inf,P.info? t=some inf∧inf.size=zz:=by
  cases h:P.info? t with
  | none=>simp [h] at hi
  | some i=>rw [h] at hi; simp at hi; exact ⟨i,rfl,hi⟩
 refine ⟨g.set nx (w.heap.size,0),.slice (some ⟨w.heap.size,0,none⟩) 0 0,_,G.bX _ _ _,G.aY hf _,le_succ nx,mF (G.bL g nx _),tR hf (dW hm hf) rfl hrow,Or.inl ?_⟩;simp only [execOp,Sem.run_bind,Instr.buildSlice,underlying,run_program,hu,Result.andThen_ok,Sem.run_pure,sizeOf,typeInfo,CE,newRow,run_newObj,Nat.zero_mul];simp [Instr.fill,newRow,run_newObj,Sem.run_bind];congr 2;apply Array.ext';simp
theorem aSk {T e zz bts:Nat} {zv:Value} (hT:C2 P T e zz bts zv) (hy:den g a=some (rv y)) (hz:den g b=some (rv z)) (hf:g.fresh nx) (hm:aB W0 w (mem g me++R)) (h:apE e zz bts me nx a b=.ok v me' nx') :
  ∃ g' x w',After P W0 g nx R w rv ⟨d,.call { callee:=.builtin .append,args:=#[y,z],argTypes:=#[T,T] },ty,pos,af,gd⟩ v me' nx' g' x w':=by
 unfold apE at h;cases hc:gF me zz b with
 | none=>rw [hc] at h; cases h
 | some p =>
  obtain ⟨n,l⟩:=p;rw [hc] at h; dsimp only at h;cases hn0:Nat.beq n 0 with
  | true=>rw [hn0] at h; cases h
  | false =>
   rw [hn0] at h; simp only [cond_false] at h;have hn:0 < n:=Nat.pos_of_ne_zero fun e=>by subst e; simp at hn0
   obtain ⟨bb,oo,cc,xs,e1,e2,e3,e4⟩:=nQ hm hz hc;have hxl:=cF e2;have hnews:∀ j u,xs[j]?=some u→w.cell? ((⟨bb,oo,none⟩:Addr).add j)=some u:=fun j u hj=>by rw [dI]; exact e4 j u hj
   have hone:∀ u∈xs,u.oneCell'=true:=jW (sN e2);cases a with
   | sn =>
    dsimp only at h;cases hb:Nat.ble (Nat.mul n (Nat.succ bts)) 1000000 with
    | false=>rw [hb] at h; cases h
    | true =>
     rw [hb] at h; simp only [cond_true] at h;injection h with h1 h2 h3; subst h1; subst h2; subst h3;have hle:n * (bts + 1)≤1000000:=Nat.le_of_ble_eq_true hb;rw [Nat.mul_add] at hle;have ey:rv y=.slice none 0 0:=(Option.some.inj hy).symm;have h0:=aB.eP e zz hm;have hown:=h0.rw .here;obtain ⟨v',w',r1,r2,r3,r4⟩:=iR (P:=P) (a:=⟨bb,oo,none⟩) (c:=cc) (m:=n) hT hown (by rw [hxl,e3]) hnews hone (by unfold maxLen; omega) (by rw [Nat.zero_add]; omega) ty;have h1:=h0.kH r2 r3 r4;obtain ⟨aa,cap,rfl,hfm⟩:=iJ r2;obtain ⟨gb,rfl,_⟩:=hfm (by omega);rw [Nat.zero_add] at h1 r1;refine ⟨g.set nx (gb,cap),.slice (some ⟨gb,0,none⟩) n cap,w',G.bX _ _ _,G.aY hf _,le_succ nx,mF (G.bL g nx _),tR hf (dW hm hf) e2 (by simpa using h1),Or.inl ?_⟩;simp only [execOp,resolve,invoke,builtin,Sem.run_bind,Sem.run_pure,Result.andThen_ok,List.map_toArray,List.map_cons,List.map_nil,ey,e1,r1]
   | sr i m =>
    dsimp only at h;cases hg:EV.T.get i me with
    | none=>rw [hg] at h; cases h
    | some ob =>
     rw [hg] at h;cases ob with
     | r t' z' cs =>
      dsimp only at h;cases hb:(and (Nat.beq (len cs) (Nat.mul m zz)) (and (Nat.beq e t') (and (Nat.beq zz z') (Nat.ble (Nat.mul (Nat.add m n) (Nat.succ bts)) 1000000)))) with
      | false=>rw [hb] at h; cases h
      | true =>
       rw [hb] at h; simp only [cond_true] at h;injection h with h1 h2 h3; subst h1; subst h2; subst h3;simp only [Bool.and_eq_true] at hb;have q1:=Nat.eq_of_beq_eq_true hb.1;have q2:=Nat.eq_of_beq_eq_true hb.2.1;have q3:=Nat.eq_of_beq_eq_true hb.2.2.1;subst q2; subst q3;have hle:(m + n) * (bts + 1)≤1000000:=Nat.le_of_ble_eq_true hb.2.2.2;rw [Nat.mul_add] at hle;obtain ⟨x,k1⟩:=(fO hm hg).aP;obtain ⟨⟨k2,k3⟩,k4⟩:=k1.aS.aN;simp only [den,aT,aE,aI,Option.map_eq_some_iff] at hy;obtain ⟨q,hq,ey⟩:=hy;obtain rfl:q=(x.1,x.2.1):=by rw [hq] at k2; exact Option.some.inj k2
       have hown:=k4.rw .here;have hz0:0 < zz:=hT.2.2.2;have hmm:x.2.2.2=m:=by
        have a1:=hown.1;have a2:=cF k3;rw [len_eq] at q1;have a3:x.2.2.2 * zz=m * zz:=by rw [← a1,a2]; exact q1
        exact Nat.eq_of_mul_eq_mul_right hz0 a3
       rw [hmm] at hown k4;obtain ⟨v',w',r1,r2,r3,r4⟩:=iR (P:=P) (a:=⟨bb,oo,none⟩) (c:=cc) (m:=n) hT hown (by rw [hxl,e3]) hnews hone (by unfold maxLen; omega) (by omega) ty;have h1:=k4.kH r2 r3 r4;obtain ⟨aa,cap,rfl,hfm⟩:=iJ r2;obtain ⟨gb,rfl,_⟩:=hfm (by omega);have hne:i≠nx:=fun e=>by
        subst e;rw [hf i (Nat.le_refl _)] at hq; cases hq
       have hnn:EV.T.get nx (EV.T.put i none me)=none:=by rw [EV.T.bO none i nx me (Ne.symm hne)]; exact dW hm hf
       refine ⟨g.set nx (gb,cap),.slice (some ⟨gb,0,none⟩) (m + n) cap,w',G.bX _ _ _,G.aY hf _,le_succ nx,mF (G.bL g nx _),tR hf hnn (by rw [pA]; exact cY k3 e2) h1,Or.inl ?_⟩;simp only [execOp,resolve,invoke,builtin,Sem.run_bind,Sem.run_pure,Result.andThen_ok,List.map_toArray,List.map_cons,List.map_nil,← ey,e1,r1]
     | _=>cases h
   | _=>cases h
end
theorem aAq {g:G} {x:SV} {v:Value} {cs:List SV} (h:den g x=some v) (hc:cells x=some cs):aT g x=some v:=by
 cases x with
 | t l=>cases hc
 | _=>exact h
theorem rI {a:Int} {v:Value}:∀ {l:List (Int × Value)},(l.map (·.1)).Nodup→(cG a v l).Perm ((a,v)::l.filter (fun p=>!decide (p.1=a)))
 | [],_=>List.Perm.refl _
 | (k,u)::r,h=>by
  simp only [List.map_cons,List.nodup_cons] at h
  by_cases e:a=k
  ·subst e;have:r.filter (fun p=>!decide (p.1=a))=r:=List.filter_eq_self.2 fun p hp=>by
    have:p.1≠a:=fun e=>h.1 (List.mem_map.2 ⟨p,hp,e⟩);simp [this]
   simp [cG,this]
  have ih:=rI (a:=a) (v:=v) h.2;simp only [cG,e,if_false];rw [List.filter_cons_of_pos (by simp [Ne.symm e])];exact (List.Perm.cons _ ih).trans (List.Perm.swap _ _ _)
theorem nZ {a:Int} {v:Value} {l m:List (Int × Value)} (p:l.Perm m) (h:(m.map (·.1)).Nodup):(cG a v l).Perm (cG a v m) :=
 (rI ((p.map (·.1)).nodup_iff.2 h)).trans ((List.Perm.cons _ (p.filter _)).trans (rI h).symm)
theorem pP {g:G} {n:Int} {x:SV} {v:Value} (hx:aT g x=some v):∀ {l:List (Int × SV)} {vs:List (Int × Value)},aX g l=some vs→aX g (rG l n x)=some (cG n v vs)
 | [],vs,h=>by
  simp [aX] at h; subst h;show aX g [(n,x)]=_;simp [aX,hx,cG]
 | (k1,k2)::r,vs,hv=>by
  simp only [aX] at hv;cases a1:aT g k2 with
  | none=>simp [a1] at hv
  | some v1=>cases a2:aX g r with
   | none=>simp [a1,a2] at hv
   | some v2 =>
    simp [a1,a2] at hv; subst hv;have hl:rG ((k1,k2)::r) n x=bif ieq n k1 then (n,x)::r else (k1,k2)::rG r n x:=rfl;rw [hl,jK]
    by_cases e:n=k1
    ·subst e; simp [aX,hx,a2,cG]
    have ih:=pP (n:=n) hx a2;simp [e,aX,a1,ih,cG]
theorem mS {n : Int} {x : SV} : ∀ {l : List (Int × SV)}, (l.map (·.1)).Nodup → ((rG l n x).map (·.1)).Nodup ∧ ∀ k, k ∈ (rG l n x).map (·.1) → k = n ∨ k ∈ l.map (·.1)
  | [], _ => by
    have : rG [] n x = [(n, x)] := rfl
    rw [this]; simp
  | (k1, k2) :: r, h => by
    simp only [List.map_cons, List.nodup_cons] at h
    have hl : rG ((k1, k2) :: r) n x = bif ieq n k1 then (n, x) :: r else (k1, k2) :: rG r n x := rfl
    rw [hl, jK]
    by_cases e : n = k1
    · subst e
      simp only [decide_true, cond_true, List.map_cons, List.nodup_cons]
      exact ⟨h, fun k hk => by rcases List.mem_cons.1 hk with rfl | hk
                               · exact .inl rfl
                               · exact .inr (List.mem_cons_of_mem _ hk)⟩
    · obtain ⟨i1, i2⟩ := mS (n := n) (x := x) h.2
      simp only [e, decide_false, cond_false, List.map_cons, List.nodup_cons]
      refine ⟨⟨fun hk => ?_, i1⟩, fun k hk => ?_⟩
      · rcases i2 _ hk with rfl | hk
        · exact e rfl
        · exact h.1 hk
      · rcases List.mem_cons.1 hk with rfl | hk
        · exact .inr (List.mem_cons_self ..)
        · exact (i2 _ hk).imp id (List.mem_cons_of_mem _)
def iF (a:Int):List (Int × Value)→List (Int × Value)
 | []=>[]
 | p::r=>if a=p.1 then r else p::iF a r
theorem jB {a:Int}:∀ {l:List (Int × Value)},(l.map (·.1)).Nodup→iF a l=l.filter (fun p=>!decide (p.1=a))
 | [],_=>rfl
 | (k,u)::r,h=>by
  simp only [List.map_cons,List.nodup_cons] at h
  by_cases e:a=k
  ·subst e;have:r.filter (fun p=>!decide (p.1=a))=r:=List.filter_eq_self.2 fun p hp=>by
    have:p.1≠a:=fun e=>h.1 (List.mem_map.2 ⟨p,hp,e⟩);simp [this]
   simp [iF,this]
  rw [List.filter_cons_of_pos (by simp [Ne.symm e])];simp only [iF,e,if_false,jB h.2]
theorem xE {g:G} {n:Int}:∀ {l:List (Int × SV)} {vs:List (Int × Value)},aX g l=some vs→aX g (GI l n)=some (iF n vs)
 | [],vs,h=>by
  simp [aX] at h; subst h; rfl
 | (k1,k2)::r,vs,hv=>by
  simp only [aX] at hv;cases a1:aT g k2 with
  | none=>simp [a1] at hv
  | some v1=>cases a2:aX g r with
   | none=>simp [a1,a2] at hv
   | some v2 =>
    simp [a1,a2] at hv; subst hv;have hl:GI ((k1,k2)::r) n=bif ieq n k1 then r else (k1,k2)::GI r n:=rfl;rw [hl,jK]
    by_cases e:n=k1
    ·subst e; simp [a2,iF]
    have ih:=xE (n:=n) a2;simp [e,aX,a1,ih,iF]
theorem sS {n:Int}:∀ {l:List (Int × SV)},((GI l n).map (·.1)).Sublist (l.map (·.1))
 | []=>List.Sublist.refl _
 | (k1,k2)::r=>by
  have hl:GI ((k1,k2)::r) n=bif ieq n k1 then r else (k1,k2)::GI r n:=rfl;rw [hl,jK]
  by_cases e:n=k1
  ·subst e; simp
  simp only [e,decide_false,cond_false,List.map_cons];exact List.Sublist.cons_cons _ sS
theorem sU {a:Int}:∀ {l:List (Int × Value)} {i:Nat},aM a l i=none→iF a l=l
 | [],_,_=>rfl
 | p::r,i,h=>by
  simp only [aM] at h
  by_cases e:a=p.1
  ·simp [e] at h
  rw [if_neg e] at h; simp [iF,e,sU h]
theorem sT {a:Int}:∀ {l:List (Int × Value)} {i j:Nat} {u:Value},aM a l i=some (j,u)→iF a l=l.eraseIdx (j - i)
 | [],i,j,u,h=>by simp [aM] at h
 | p::r,i,j,u,h=>by
  simp only [aM] at h
  by_cases e:a=p.1
  ·rw [if_pos e] at h; simp at h; obtain ⟨rfl,rfl⟩:=h; simp [iF,e]
  rw [if_neg e] at h;have hg:=fE h;rw [show j - i=(j - (i + 1)) + 1 by omega];simp only [iF,e,if_false,sT h,List.eraseIdx_cons_succ]
section
variable {P:Program} {w W0:World} {rv:Operand→Value} {g:G} {me me':T Ob} {R:List aA} {nx nx':Pos} {y z u:Operand} {a b c v:SV} {d:Option Tmp} {ty:TypeId} {pos:String} {af:Array Edge} {gd:Option (Nat × Bool)} (hs:Std rv)
include hs
theorem aLy {t:Nat} {k:IntKind} (hf:g.fresh nx) (hm:aB W0 w (mem g me++R)) :
  ∃ g' x w',After P W0 g nx R w rv ⟨d,.makeMap t none,ty,pos,af,gd⟩ (.m nx) (EV.T.put nx (some (.m k [])) me) nx.succ g' x w':=by
 obtain ⟨bb,w',_,hr,hst⟩:=(EF.makeMap (aC k) (P:=P) (kn:=[]) (d:=d) (g:=gd) (T:=t) (ty:=ty) (pos:=pos) (af:=af)) rv w (fun x v h=>bA hs [] x v h) hm;have hle:=(G.bX g nx (bb,0)).le hf;have h2:aB W0 w' (OT (g.set nx (bb,0)) nx (.m k [])::(mem g me++R)):=aB.bR (bb,0,[],[]) (aB.cB (aB.bB ⟨G.bL g nx _,rfl,List.Perm.refl _,by simp⟩ hst));have h3:aB W0 w' (mem g me++(OT (g.set nx (bb,0)) nx (.m k [])::R)):=h2.perm List.perm_middle.symm;have h4:=gY hle h3;exact ⟨g.set nx (bb,0),.map (some bb),w',G.bX _ _ _,G.aY hf _,le_succ nx,by simp [den,aT,aE,aI,G.bL],wE (h4.perm List.perm_middle) (dW hm hf),Or.inl hr⟩
theorem aLw {T K E:Nat} {kk:IntKind} (hT:P.underlying T=some (.map K E)) (hK:dX P K (aC kk)) (hy:den g a=some (rv y)) (hz:den g b=some (rv z)) (hu:den g c=some (rv u)) (hf:g.fresh nx) (hm:aB W0 w (mem g me++R)) (h:muE kk me nx a b c=.ok v me' nx') :
  ∃ g' x w',After P W0 g nx R w rv ⟨d,.mapUpdate T y z u,ty,pos,af,gd⟩ v me' nx' g' x w':=by
 unfold muE at h;split at h
 ·rename_i i;cases hg:EV.T.get i me with
  | none=>rw [hg] at h; cases h
  | some o =>
   rw [hg] at h;cases o with
   | m k aD =>
    dsimp only at h;cases hc:kN kk k with
    | false=>rw [hc] at h; cases h
    | true =>
     rw [hc] at h; simp only [cond_true] at h;have e2:=dO hc;subst e2;cases hn:uI kk b with
     | none=>rw [hn] at h; cases h
     | some n =>
     rw [hn] at h; dsimp only at h;obtain ⟨cc,hcc⟩:∃ cc,cells c=some cc:=by
      cases h0:cells c with
      | none=>rw [h0] at h; cases h
      | some cc=>exact ⟨cc,rfl⟩
     rw [hcc] at h; dsimp only at h;have hu:=aAq hu hcc;injection h with h1 h2 h3; subst h1; subst h2; subst h3;simp only [den,aT,aE,aI,Option.map_eq_some_iff] at hy;obtain ⟨q,hq,e⟩:=hy;have ez:=qH hn hz;obtain ⟨x,k1⟩:=(fO hm hg).aP;obtain ⟨⟨k2,k3,k4,k5⟩,k6⟩:=k1.aS.aN;obtain rfl:q=(x.1,x.2.1):=by rw [hq] at k2; exact Option.some.inj k2
     have hlp:ev (uH rv [y,z,u]) u=some (rv u):=dH hs (by simp);obtain ⟨w',hr,hst⟩:=(EU.mapUpdate (P:=P) (d:=d) (g:=gd) (ty:=ty) (ps:=pos) (af:=af) (show ev (uH rv [y,z,u]) y=some (.map (some x.1)) from e ▸ dH hs (by simp)) (show ev (uH rv [y,z,u]) z=some (aC kk n) from by rw [show aC kk n=rv z from ez.symm]; exact dH hs (by simp)) hlp .here hK hT) rv w (bA hs _) k6;refine ⟨g,undef,w',G.ext.refl _ _,hf,Nat.le_refl _,rfl,?_,Or.inr ⟨hr,rfl⟩⟩;refine jA (aB.bR (x.1,x.2.1,cG n (rv u) x.2.2.1,cG n (rv u) x.2.2.2) (aB.cB (aB.bB ⟨hq,pP hu k3,nZ k4 (by rw [dN k3]; exact k5),(mS k5).1⟩ hst)))
   | _=>cases h
 ·cases h
end
end
noncomputable section
open Go.ChangeMaps (setBlock)
section
variable {W0 W W':World} {L:List aA} {b c n:Nat} {k:IntKind} {aD fU:List (Int × Value)}
theorem aB.weak {T T':aA} (h:aB W0 W (T::L)) {A:Nat→Prop} (hT:∀ F,T.is W F→T'.is W A∧∀ x,A x→F x):aB W0 W (T'::L) :=
 h.turn (A:=A) ⟨rfl,rfl,rfl⟩ (Nat.le_refl _) (fun F hF=>⟨(hT F hF).1,fun x hx=>.inl ((hT F hF).2 x hx),fun x hx hn=>rfl⟩)
theorem aB.mit (h:aB W0 W (Mp (aC k) b aD::L)) {es:Array MapEntry} {ck:Nat} (hb:W.heap[b]?=some (.map es ck)) (he:cX (aC k) aD es ck) :
  aB W0 (W.alloc (.mapIter (some b) ck #[] ck)) (Mit b W.heap.size 0 k aD::L):=by
 have hlt:b < W.heap.size:=by
  rcases Nat.lt_or_ge b W.heap.size with h2 | h2
  ·exact h2
  rw [Array.getElem?_eq_none h2] at hb; cases hb
 have hbl:=(Below.refl W.heap.size W).alloc (Nat.le_refl _) (.mapIter (some b) ck #[] ck);refine h.turn (A:=fun x=>x=b∨x=W.heap.size) ⟨rfl,rfl,rfl⟩ hbl.size (fun F hF=>?_);unfold Mp at hF;refine ⟨⟨⟨by omega,es,ck,ck,#[],ck,(hbl.block b hlt).trans hb,heap_alloc_new W _,he,he.born,Nat.le_refl _,rfl,rfl⟩,fun x=>Iff.rfl⟩,fun x hx=>?_,fun x hx hn=>hbl.block x hx⟩;rcases hx with rfl | rfl
 ·exact .inl ((hF.2 _).2 rfl)
 exact .inr (Nat.le_refl _)
theorem aB.aHe (h:aB W0 W (Mit b c n k aD::L)):aB W0 W (Mp (aC k) b aD::L):=by
 refine aB.weak h (A:=fun x=>x=b) (fun F hF=>?_);obtain ⟨⟨hn,es,ck,since,seen,c0,h1,h2,h3,_⟩,h4⟩:=hF;unfold Mp;exact ⟨⟨⟨es,ck,h1,h3⟩,fun x=>Iff.rfl⟩,fun x hx=>(h4 x).2 (.inl hx)⟩
theorem aB.WV (h:aB W0 W (Mit b c n k aD::L)):∃ es ck since seen c0,b≠c∧W.heap[b]?=some (.map es ck)∧W.heap[c]?=some (.mapIter (some b) since seen c0)∧cX (aC k) aD es ck∧(∀ e∈es.toList,e.born < since)∧since≤c0∧c0=ck∧aBt n seen es:=by
 obtain ⟨F,hF⟩:=h.fact;obtain ⟨⟨hn,es,ck,since,seen,c0,hr⟩,h4⟩:=hF;exact ⟨es,ck,since,seen,c0,hn,hr⟩
theorem aB.WU {n' x:Nat} (h:aB W0 W (Mit b c n k aD::L)) {es':Array MapEntry} {sX since':Nat} {seen':Array Nat} {c0':Nat} (hne:b≠c) (hbc:x=b∨x=c) {o:Obj}
  (h1:(setBlock W x o).heap[b]?=some (.map es' sX)) (h2:(setBlock W x o).heap[c]?=some (.mapIter (some b) since' seen' c0')) (h3:cX (aC k) fU es' sX) (h4:∀ e∈es'.toList,e.born < since') (h5:since'≤c0') (h6:c0'=sX)
  (h7:aBt n' seen' es'):aB W0 (setBlock W x o) (Mit b c n' k fU::L):=by
 refine h.turn (A:=fun x=>x=b∨x=c) ⟨rfl,rfl,rfl⟩ (by simp [setBlock]) (fun F hF=>⟨⟨⟨hne,es',sX,since',seen',c0',h1,h2,h3,h4,h5,h6,h7⟩,fun x=>Iff.rfl⟩,fun y hy=>.inl ((hF.2 y).2 hy),fun y hy hn=>?_⟩);have hxy:x≠y:=fun e=>hn ((hF.2 y).2 (e ▸ hbc));simp [setBlock,Array.getElem?_setIfInBounds_ne hxy]
theorem eR {x:Nat} {o:Obj} (hx:x < W.heap.size):(setBlock W x o).heap[x]?=some o:=by simp [setBlock,hx]
theorem dK {x y:Nat} {o:Obj} (hx:x≠y):(setBlock W x o).heap[y]?=W.heap[y]?:=by simp [setBlock,Array.getElem?_setIfInBounds_ne hx]
theorem qC {x:Nat} {o:Obj} (h:W.heap[x]?=some o):x < W.heap.size:=by
 rcases Nat.lt_or_ge x W.heap.size with h2 | h2
 ·exact h2
 rw [Array.getElem?_eq_none h2] at h; cases h
end
theorem GV {α:Type} [DecidableEq α] {enc:α→Value} {aD:List (α × Value)} {es:Array MapEntry} {ck:Nat} (h:cX enc aD es ck) (i:Nat):cX enc (aD.eraseIdx i) (es.eraseIdxIfInBounds i) ck:=by
 have e1:(es.eraseIdxIfInBounds i).toList=es.toList.eraseIdx i:=by
  unfold Array.eraseIdxIfInBounds;split
  ·simp
  rename_i hi; rw [List.eraseIdx_of_length_le (by simpa using hi)]
 refine ⟨?_,?_,?_⟩
 ·rw [e1,Go.ChangeMaps.map_eraseIdx,h.kv,Go.ChangeMaps.map_eraseIdx]
 ·rw [e1,Go.ChangeMaps.map_eraseIdx]; exact h.nodup.sublist (List.eraseIdx_sublist _ _)
 intro e he;rw [e1] at he;exact h.born e ((List.eraseIdx_sublist _ _).subset he)
theorem mem_erase {es:Array MapEntry} {i:Nat} {e:MapEntry} (h:e∈(es.eraseIdxIfInBounds i).toList):e∈es.toList:=by
 unfold Array.eraseIdxIfInBounds at h;split at h
 ·simp at h; have:=(List.eraseIdx_sublist es.toList i).subset h; simpa using this
 exact h
theorem vS {P:Program} {K:TypeId} {k:IntKind} (law:dX P K (aC k)) {T E ty:TypeId} {tys:Array TypeId} (hT:P.underlying T=some (.map K E)) (h0:tys[0]?=some T) {w:World} {b:Nat} {aD:List (Int × Value)} {es:Array MapEntry} {ck:Nat}
  (hb:w.heap[b]?=some (.map es ck)) (hen:cX (aC k) aD es ck) (a:Int) :
  ∃ es',(Builtin.delete_ tys ty #[.map (some b),aC k a]).run P w=.ok (.tuple #[]) (setBlock w b (.map es' ck))∧cX (aC k) (iF a aD) es' ck∧∀ e∈es'.toList,e∈es.toList:=by
 have h1:=run_findKey law a w hen.kv;cases h3:aM a aD 0 with
 | none =>
  refine ⟨es,?_,by rw [sU h3]; exact hen,fun e he=>he⟩;simp only [Builtin.delete_,h0,underlying,Sem.run_bind,run_program,Result.andThen_ok,hT,Sem.run_pure,cH hb,law.check a _ w,h1,h3,dM hb,List.getElem?_toArray,List.getElem?_cons_zero,List.getElem?_cons_succ];rfl
 | some q =>
  obtain ⟨i,u⟩:=q;refine ⟨es.eraseIdxIfInBounds i,?_,by rw [sT h3,Nat.sub_zero]; exact GV hen i,fun e he=>mem_erase he⟩;simp only [Builtin.delete_,h0,underlying,Sem.run_bind,run_program,Result.andThen_ok,hT,Sem.run_pure,cH hb,law.check a _ w,h1,h3,dM hb,List.getElem?_toArray,List.getElem?_cons_zero,List.getElem?_cons_succ];rfl
theorem zQ:Pos.h.nat=1:=rfl
theorem eE:∀ {i j:Pos},i.nat=j.nat→i=j
 | .h,.h,_=>rfl
 | .h,.o q,h=>by have:=Pos.gR q; rw [zQ,Pos.jX] at h; omega
 | .h,.i q,h=>by have:=Pos.gR q; rw [zQ,Pos.jY] at h; omega
 | .o p,.h,h=>by have:=Pos.gR p; rw [zQ,Pos.jX] at h; omega
 | .i p,.h,h=>by have:=Pos.gR p; rw [zQ,Pos.jY] at h; omega
 | .o p,.i q,h=>by rw [Pos.jX,Pos.jY] at h; omega
 | .i p,.o q,h=>by rw [Pos.jX,Pos.jY] at h; omega
 | .o p,.o q,h=>by rw [Pos.jX,Pos.jX] at h; exact congrArg Pos.o (eE (by omega))
 | .i p,.i q,h=>by rw [Pos.jY,Pos.jY] at h; exact congrArg Pos.i (eE (by omega))
theorem AH {a:Int} {l m:List (Int × Value)} (p:l.Perm m) (h:(m.map (·.1)).Nodup):(iF a l).Perm (iF a m):=by
 rw [jB h,jB ((p.map (·.1)).nodup_iff.2 h)];exact p.filter _
theorem wJ {a:Int}:∀ {l:List (Int × Value)} {i j:Nat} {u:Value},aM a l i=some (j,u)→(l[j - i]?).map (·.2)=some u
 | [],i,j,u,h=>by simp [aM] at h
 | p::r,i,j,u,h=>by
  simp only [aM] at h
  by_cases e:a=p.1
  ·rw [if_pos e] at h; simp at h; obtain ⟨rfl,rfl⟩:=h; simp
  rw [if_neg e] at h;have hg:=fE h;rw [show j - i=(j - (i + 1)) + 1 by omega];simpa using wJ h
theorem qD {a:Int} {z:Value}:∀ {l:List (Int × Value)} {i:Nat},aM a l i=none→aM a (l++[(a,z)]) i=some (i + l.length,z)
 | [],i,h=>by simp [aM]
 | p::r,i,h=>by
  simp only [aM] at h
  by_cases e:a=p.1
  ·rw [if_pos e] at h; simp at h
  rw [if_neg e] at h;simp only [List.cons_append,aM,if_neg e,qD h,List.length_cons];congr 2; omega
theorem ET {a:Int} {z:Value} {l:List (Int × Value)} (h:aM a l 0=none):aM a (l++[(a,z)]) 0=some (l.length,z):=by
 rw [qD h]; simp
theorem tS {a:Int} {v:Value}:∀ {l:List (Int × Value)} {i j:Nat} {u:Value},aM a l i=some (j,u)→aM a (l.set (j - i) (a,v)) i=some (j,v)
 | [],i,j,u,h=>by simp [aM] at h
 | p::r,i,j,u,h=>by
  simp only [aM] at h
  by_cases e:a=p.1
  ·rw [if_pos e] at h; simp at h; obtain ⟨rfl,rfl⟩:=h; simp [aM]
  rw [if_neg e] at h;have hg:=fE h;rw [show j - i=(j - (i + 1)) + 1 by omega];simp only [List.set_cons_succ,aM,if_neg e,tS h]
theorem IU {a:Int} {v:Value} {l:List (Int × Value)} {j:Nat} {u:Value} (h:aM a l 0=some (j,u)):aM a (l.set j (a,v)) 0=some (j,v):=by
 have:=tS (v:=v) h; rwa [Nat.sub_zero] at this
section
variable {P:Program} {K E T:TypeId} {k:IntKind} {w W0 W:World} {b:Nat} {aD:List (Int × Value)} {es:Array MapEntry} {ck:Nat} {L:List aA}
theorem lJ {f f':MapEntry→MapEntry} {i:Nat} (h:∀ e,es[i]?=some e→f e=f' e):es.modify i f=es.modify i f':=by
 apply Array.ext_getElem?;intro j;simp only [Array.getElem?_modify]
 by_cases e:i=j
 ·subst e;cases hq:es[i]? with
  | none=>simp
  | some e0=>simp [h e0 hq]
 ·simp [e]
theorem ZD (hen:cX (aC k) aD es ck) {a:Int} {i:Nat} {u:Value} (hl:aM a aD 0=some (i,u)):∃ e,es[i]?=some e∧e.key=aC k a∧e.val=u:=by
 obtain ⟨g1,g2,g3⟩:=fE hl;simp only [Nat.sub_zero] at g2 g3;have hlen:es.toList.length=aD.length:=by have:=congrArg List.length hen.kv; simpa using this
 have hi:i < es.toList.length:=by omega
 refine ⟨es[i]'(by simpa using hi),by simp,?_,?_⟩
 ·have hj:=congrArg (fun l=>(l[i]?).map (·.1)) hen.kv;simp only [List.getElem?_map,Option.map_map] at hj;rw [List.getElem?_eq_getElem hi,List.getElem?_eq_getElem g2] at hj;rw [List.getElem?_eq_getElem g2] at g3;simp at hj g3;rw [hj,g3]
 have hj:=congrArg (fun l=>(l[i]?).map (·.2)) hen.kv;simp only [List.getElem?_map,Option.map_map] at hj;rw [List.getElem?_eq_getElem hi,List.getElem?_eq_getElem g2] at hj;have hu:=wJ hl;rw [Nat.sub_zero,List.getElem?_eq_getElem g2] at hu;simp at hj hu;rw [hj,hu]
theorem BH (law:dX P K (aC k)) (hT:P.underlying T=some (.map K E)) {z:Value} (hz:ZV P E z) (hb:w.heap[b]?=some (.map es ck)) (hen:cX (aC k) aD es ck) (a:Int) :
  ∃ (es':Array MapEntry) (sX born j:Nat),(Instr.mapEntry T (.map (some b)) (aC k a)).run P w=.ok (.tuple #[(eA aD a).getD z,.int .i64 (born:Int)]) (setBlock w b (.map es' sX)) ∧
   cX (aC k) (cG a ((eA aD a).getD z) aD) es' sX∧aM a (cG a ((eA aD a).getD z) aD) 0=some (j,(eA aD a).getD z)∧(es'[j]?).map (·.born)=some born:=by
 have h1:=run_findKey law a w hen.kv;have h2:(aM a aD 0).map (·.2)=eA aD a:=fD a aD 0;cases h3:aM a aD 0 with
 | none =>
  rw [h3] at h2; simp only [Option.map_none] at h2;rw [← h2]; simp only [Option.getD_none];have hlen:es.size=aD.length:=by have:=congrArg List.length hen.kv; simpa using this
  refine ⟨es.push { key:=aC k a,val:=z,born:=ck },ck + 1,ck,aD.length,?_,hen.push h3 z,?_,?_⟩
  ·simp only [Instr.mapEntry,underlying,Sem.run_bind,run_program,Result.andThen_ok,hT,Sem.run_pure,cH hb,law.check a _ w,h1,h3,hz.run,dM hb];rfl
  ·rw [eD h3]; exact ET h3
  rw [← hlen]; simp
 | some q =>
  obtain ⟨i,u⟩:=q;rw [h3] at h2; simp only [Option.map_some] at h2;rw [← h2]; simp only [Option.getD_some];obtain ⟨e,e1,e2,e3⟩:=ZD hen h3;refine ⟨es.modify i fun e=>{ e with key:=aC k a,val:=u },ck,e.born,i,?_,hen.set h3 u,?_,?_⟩
  ·have hm:(es.modify i fun e=>{ e with key:=aC k a })=es.modify i fun e=>{ e with key:=aC k a,val:=u }:=lJ (fun e' he=>by rw [e1] at he; injection he with he; subst he; simp [e3]);have hk:((es[i]?).map (·.key)).getD (aC k a)=aC k a:=by rw [e1]; simp [e2]
   simp only [Instr.mapEntry,underlying,Sem.run_bind,run_program,Result.andThen_ok,hT,Sem.run_pure,cH hb,law.check a _ w,h1,h3,hk,Instr.keyThatStays,law.bits a,if_true,hm,dM hb];rw [e1]; rfl
  ·rw [rH h3,Nat.sub_zero]; exact IU h3
  simp [Array.getElem?_modify,e1]
theorem aB.aHg {n:Int} {fU:List (Int × Value)} {es':Array MapEntry} {sX born j:Nat} {u:Value} (h:aB W0 W (Mp (aC k) b aD::L)) (he:cX (aC k) fU es' sX) (hl:aM n fU 0=some (j,u)) (hj:(es'[j]?).map (·.born)=some born) :
  aB W0 (setBlock W b (.map es' sX)) (Men b born k n fU::L):=by
 obtain ⟨es,ck,hb,hen⟩:=h.mp .here;have hlt:=qC hb;unfold Mp at h;refine h.turn (A:=fun x=>x=b) ⟨rfl,rfl,rfl⟩ (by simp [setBlock]) (fun F hF=>⟨⟨⟨es',sX,j,u,eR hlt,he,hl,hj⟩,fun x=>Iff.rfl⟩,fun x hx=>.inl ((hF.2 x).2 hx),fun x hx hn=>?_⟩);have hne:b≠x:=fun e=>hn ((hF.2 x).2 e.symm);exact dK hne
theorem aB.Z9 {n:Int} {born:Nat} (h:aB W0 W (Men b born k n aD::L)):∃ es ck j u,W.heap[b]?=some (.map es ck)∧cX (aC k) aD es ck∧aM n aD 0=some (j,u)∧(es[j]?).map (·.born)=some born:=by
 obtain ⟨_,A,⟨h1,_⟩,_⟩:=h;exact h1
theorem aB.aIk {n:Int} {fU:List (Int × Value)} {es':Array MapEntry} {sX born:Nat} (h:aB W0 W (Men b born k n aD::L)) (he:cX (aC k) fU es' sX):aB W0 (setBlock W b (.map es' sX)) (Mp (aC k) b fU::L):=by
 obtain ⟨es,ck,j,u,hb,_⟩:=aB.Z9 h;have hlt:=qC hb;unfold Mp;refine h.turn (A:=fun x=>x=b) ⟨rfl,rfl,rfl⟩ (by simp [setBlock]) (fun F hF=>⟨⟨⟨es',sX,eR hlt,he⟩,fun x=>Iff.rfl⟩,fun x hx=>.inl ((hF.2 x).2 hx),fun x hx hn=>?_⟩);have hne:b≠x:=fun e=>hn ((hF.2 x).2 e.symm);exact dK hne
theorem vR {T:TypeId} {n:Int} {born j:Nat} {u:Value} (hb:w.heap[b]?=some (.map es ck)) (hen:cX (aC k) aD es ck) (hl:aM n aD 0=some (j,u)) (hj:(es[j]?).map (·.born)=some born) (v:Value) :
  ∃ es',(Instr.entryStore T (.map (some b)) (.int .i64 (born:Int)) v).run P w=.ok () (setBlock w b (.map es' ck))∧cX (aC k) (cG n v aD) es' ck:=by
 obtain ⟨e,e1,e2,e3⟩:=ZD hen hl;rw [e1] at hj; simp only [Option.map_some,Option.some.injEq] at hj; subst hj;have hjs:j < es.size:=by
  rcases Nat.lt_or_ge j es.size with h | h
  ·exact h
  rw [Array.getElem?_eq_none h] at e1; cases e1
 have hej:es[j]=e:=by rw [Array.getElem?_eq_getElem hjs] at e1; exact Option.some.inj e1
 have hf:es.findIdx? (fun x=>(x.born:Int) == (e.born:Int))=some j:=by
  rw [Array.findIdx?_eq_some_iff_getElem];refine ⟨hjs,by simp [hej],fun i hi=>?_⟩;have hi':i < es.size:=by omega
  have hnd:=hen.nodup;simp only [beq_iff_eq];intro hc;have hc':es[i].born=es[j].born:=by rw [hej]; exact_mod_cast hc
  have:=List.pairwise_iff_getElem.1 hnd i j (by simpa using hi') (by simpa using hjs) hi;exact this (by simpa using hc')
 refine ⟨es.modify j fun e=>{ e with key:=aC k n,val:=v },?_,hen.set hl v⟩;have hm:(es.modify j fun e=>{ e with val:=v })=es.modify j fun e=>{ e with key:=aC k n,val:=v }:=lJ (fun e' he=>by rw [e1] at he; injection he with he; subst he; simp [e2]);simp only [Instr.entryStore,Sem.run_bind,cH hb,Result.andThen_ok,asInt,asIntOf,Sem.run_pure,hf,hm,dM hb];rfl
end
section
variable {P:Program} {w W0:World} {rv:Operand→Value} {g:G} {me me':T Ob} {R:List aA} {nx nx':Pos} {y z u:Operand} {a b c v:SV} {d:Option Tmp} {ty:TypeId} {pos:String} {af:Array Edge} {gd:Option (Nat × Bool)} (hs:Std rv)
include hs
omit hs in
theorem NJ {i:Pos} {x:Value} (h:den g (.m i)=some x):∃ q,g.fQ i=some q∧x=.map (some q.1):=by
 simp only [den,aT,aE,aI,Option.map_eq_some_iff] at h;obtain ⟨q,h1,rfl⟩:=h; exact ⟨q,h1,rfl⟩
theorem aL1 {T K E:Nat} {kk:IntKind} {tys:Array TypeId} (hT:P.underlying T=some (.map K E)) (hK:dX P K (aC kk)) (h0:tys[0]?=some T) (hy:den g a=some (rv y)) (hz:den g b=some (rv z)) (hf:g.fresh nx) (hm:aB W0 w (mem g me++R)) (h:aFk kk me nx a b=.ok v me' nx') :
  ∃ g' x w',After P W0 g nx R w rv ⟨d,.call { callee:=.builtin .delete,args:=#[y,z],argTypes:=tys },ty,pos,af,gd⟩ v me' nx' g' x w':=by
 have hop:∀ x w',(Builtin.delete_ tys ty #[rv y,rv z]).run P w=.ok x w'→(execOp rv ⟨d,.call { callee:=.builtin .delete,args:=#[y,z],argTypes:=tys },ty,pos,af,gd⟩).run P w=.ok (.value x) w':=by
  intro x w' hr;simp only [execOp,resolve,invoke,builtin,Sem.run_bind,Sem.run_pure,Result.andThen_ok,List.map_toArray,List.map_cons,List.map_nil,hr]
 unfold aFk at h;split at h
 ·rename_i i;obtain ⟨q,hq,e⟩:=NJ hy;cases hg:EV.T.get i me with
  | none=>rw [hg] at h; cases h
  | some o =>
   rw [hg] at h;cases o with
   | m k aD =>
    dsimp only at h;cases hc:kN kk k with
    | false=>rw [hc] at h; cases h
    | true =>
     rw [hc] at h; simp only [cond_true] at h;have e2:=dO hc;subst e2;cases hn:uI kk b with
     | none=>rw [hn] at h; cases h
     | some n =>
     rw [hn] at h; dsimp only at h;have ez:=qH hn hz;injection h with h1 h2 h3; subst h1; subst h2; subst h3;obtain ⟨x,k1⟩:=(fO hm hg).aP;obtain ⟨⟨k2,k3,k4,k5⟩,k6⟩:=k1.aS.aN;obtain rfl:q=(x.1,x.2.1):=by rw [hq] at k2; exact Option.some.inj k2
     obtain ⟨es,ck,hb,hen⟩:=k6.mp .here;obtain ⟨es',r1,r2,r3⟩:=vS (ty:=ty) hK hT h0 hb hen n;refine ⟨g,.tuple #[],_,G.ext.refl _ _,hf,Nat.le_refl _,rfl,?_,Or.inl (hop _ _ (by rw [e,ez]; exact r1))⟩;exact jA (aB.bR (x.1,x.2.1,iF n x.2.2.1,iF n x.2.2.2) (aB.cB (aB.bB ⟨hq,xE k3,AH k4 (by rw [dN k3]; exact k5),k5.sublist sS⟩ (k6.Y1 r2))))
   | mi jj nn k aD =>
    dsimp only at h;cases hc:kN kk k with
    | false=>rw [hc] at h; cases h
    | true =>
     rw [hc] at h; simp only [cond_true] at h;have e2:=dO hc;subst e2;cases hn:uI kk b with
     | none=>rw [hn] at h; cases h
     | some n =>
     rw [hn] at h; dsimp only at h;have ez:=qH hn hz;injection h with h1 h2 h3; subst h1; subst h2; subst h3;obtain ⟨x,k1⟩:=(fO hm hg).aP;obtain ⟨⟨k2,k2',k3,k4,k5⟩,k6⟩:=k1.aS.aN;obtain rfl:q=(x.1,x.2.1):=by rw [hq] at k2; exact Option.some.inj k2
     obtain ⟨es,ck,since,seen,c0,m1,m2,m3,m4,m5,m6,m7,m8⟩:=aB.WV k6;obtain ⟨es',r1,r2,r3⟩:=vS (ty:=ty) hK hT h0 m2 m4 n;refine ⟨g,.tuple #[],_,G.ext.refl _ _,hf,Nat.le_refl _,rfl,?_,Or.inl (hop _ _ (by rw [e,ez]; exact r1))⟩;refine jA (aB.bR (x.1,x.2.1,x.2.2.1,x.2.2.2.1,iF n x.2.2.2.2.1,iF n x.2.2.2.2.2) (aB.cB (aB.bB ⟨hq,k2',xE k3,AH k4 (by rw [dN k3]; exact k5),k5.sublist sS⟩ ?_)));refine aB.WU k6 (es':=es') (sX:=ck) (since':=since) (seen':=seen) (c0':=c0) m1 (.inl rfl) (eR (qC m2)) ((dK m1).trans m3) r2 (fun e he=>m5 e (r3 e he)) m6 m7 ?_;cases nn with
     | zero=>exact m8
     | succ nn=>obtain ⟨s,q1,q2⟩:=m8; exact ⟨s,q1,fun e he=>q2 e (r3 e he)⟩
   | _=>cases h
 ·cases h
theorem aLz {T K E:Nat} {kk:IntKind} {zz:SV} {zv:Value} (hT:P.underlying T=some (.map K E)) (hK:dX P K (aC kk)) (hzv:ZV P E zv) (hzz:aT g zz=some zv) (hy:den g a=some (rv y)) (hz:den g b=some (rv z)) (hf:g.fresh nx) (hm:aB W0 w (mem g me++R)) (h:aDu kk zz me nx a b=.ok v me' nx') :
  ∃ g' x w',After P W0 g nx R w rv ⟨d,.mapEntry T y z,ty,pos,af,gd⟩ v me' nx' g' x w':=by
 unfold aDu at h;split at h
 ·rename_i i;obtain ⟨q,hq,e⟩:=NJ hy;cases hg:EV.T.get i me with
  | none=>rw [hg] at h; cases h
  | some o =>
   rw [hg] at h;cases o with
   | m k aD =>
    dsimp only at h;cases hc:kN kk k with
    | false=>rw [hc] at h; cases h
    | true =>
     rw [hc] at h; simp only [cond_true] at h;have e2:=dO hc;subst e2;cases hn:uI kk b with
     | none=>rw [hn] at h; cases h
     | some n =>
     rw [hn] at h; dsimp only at h;have ez:=qH hn hz;obtain ⟨x,k1⟩:=(fO hm hg).aP;obtain ⟨⟨k2,k3,k4,k5⟩,k6⟩:=k1.aS.aN;obtain rfl:q=(x.1,x.2.1):=by rw [hq] at k2; exact Option.some.inj k2
     obtain ⟨es,ck,hb,hen⟩:=k6.mp .here;obtain ⟨es',sX,born,j,r1,r2,r3,r4⟩:=BH hK hT hzv hb hen n;have hlp:=zR k4 (by rw [dN k3]; exact k5) n;obtain ⟨l1,l2⟩:=wH n k3;have key:∀ vv vz,aT g vv=some vz→(eA x.2.2.2 n).getD zv=vz→R3.ok (.t [vv,.q nx]) (EV.T.put i (some (.me nx kk n (rG aD n vv))) me) (Pos.succ nx)=R3.ok v me' nx' →
       ∃ g' x w',After P W0 g nx R w rv ⟨d,.mapEntry T y z,ty,pos,af,gd⟩ v me' nx' g' x w':=by
      intro vv vz hvv hlk hr;injection hr with h1 h2 h3; subst h1; subst h2; subst h3;rw [hlk] at r1 r2 r3;have hle:=(G.bX g nx (born,0)).le hf;have hst:=aB.aHg k6 r2 r3 r4;have s2:=gY hle (hst.perm List.perm_middle.symm);have s3:=s2.perm List.perm_middle;refine ⟨g.set nx (born,0),.tuple #[vz,.int .i64 (born:Int)],setBlock w x.1 (.map es' sX),G.bX _ _ _,G.aY hf _,le_succ nx,?_,?_,Or.inl ?_⟩
      ·exact oX (bT (nD hle _ _ hvv) (bT (x:=.q nx) (v:=.int .i64 (born:Int)) (by simp [aT,aE,aI,G.bL]) rfl))
      ·exact jA (aB.bR (x.1,x.2.1,born,0,cG n vz x.2.2.1,cG n vz x.2.2.2) (aB.cB (aB.bB ⟨hle.2.2 _ _ hq,G.bL g nx _,gN hle (pP hvv k3),nZ k4 (by rw [dN k3]; exact k5),(mS k5).1⟩ s3)))
      simp only [execOp,e,ez,Sem.run_bind,r1,Result.andThen_ok,Sem.run_pure]
     cases hl:look aD n with
     | none =>
      rw [hl] at h;exact key zz zv hzz (by rw [hlp,l2 hl]; rfl) h
     | some v1 =>
      rw [hl] at h;obtain ⟨vv,m1,m2⟩:=l1 v1 hl;exact key v1 vv m1 (by rw [hlp,m2]; rfl) h
   | _=>cases h
 ·cases h
omit hs in
theorem aMc {i:Pos} {x:Value} (h:den g (.q i)=some x):∃ q,g.fQ i=some q∧x=.int .i64 (q.1:Int):=by
 simp only [den,aT,aE,aI,Option.map_eq_some_iff] at h;obtain ⟨q,h1,rfl⟩:=h; exact ⟨q,h1,rfl⟩
theorem aLx {T:Nat} (hy:den g a=some (rv y)) (hz:den g b=some (rv z)) (hu:den g c=some (rv u)) (hf:g.fresh nx) (hm:aB W0 w (mem g me++R)) (h:aDp me nx a b c=.ok v me' nx') :
  ∃ g' x w',After P W0 g nx R w rv ⟨d,.entryStore T y z u,ty,pos,af,gd⟩ v me' nx' g' x w':=by
 unfold aDp at h;split at h
 ·rename_i i j;obtain ⟨q,hq,e⟩:=NJ hy;obtain ⟨q2,hq2,e2⟩:=aMc hz;cases hg:EV.T.get i me with
  | none=>rw [hg] at h; cases h
  | some o =>
   rw [hg] at h;cases o with
   | me j' k n aD =>
    dsimp only at h;cases hb:Nat.beq j.nat j'.nat with
    | false=>rw [hb] at h; cases h
    | true =>
     rw [hb] at h; simp only [cond_true] at h;have:=eE (Nat.eq_of_beq_eq_true hb); subst this;obtain ⟨cc,hcc⟩:∃ cc,cells c=some cc:=by
      cases h0:cells c with
      | none=>rw [h0] at h; cases h
      | some cc=>exact ⟨cc,rfl⟩
     rw [hcc] at h; dsimp only at h;have hu2:=aAq hu hcc;injection h with h1 h2 h3; subst h1; subst h2; subst h3;obtain ⟨x,k1⟩:=(fO hm hg).aP;obtain ⟨⟨k2,k2',k3,k4,k5⟩,k6⟩:=k1.aS.aN;obtain rfl:q=(x.1,x.2.1):=by rw [hq] at k2; exact Option.some.inj k2
     obtain rfl:q2=(x.2.2.1,x.2.2.2.1):=by rw [hq2] at k2'; exact Option.some.inj k2'
     obtain ⟨es,ck,j0,u0,m1,m2,m3,m4⟩:=aB.Z9 k6;obtain ⟨es',r1,r2⟩:=vR (P:=P) (T:=T) m1 m2 m3 m4 (rv u);refine ⟨g,undef,setBlock w x.1 (.map es' ck),G.ext.refl _ _,hf,Nat.le_refl _,rfl,?_,Or.inr ⟨by simp only [execOp,e,e2,Sem.run_bind,r1,Result.andThen_ok,Sem.run_pure],rfl⟩⟩;exact jA (aB.bR (x.1,x.2.1,cG n (rv u) x.2.2.2.2.1,cG n (rv u) x.2.2.2.2.2) (aB.cB (aB.bB ⟨hq,pP hu2 k3,nZ k4 (by rw [dN k3]; exact k5),(mS k5).1⟩ (aB.aIk k6 r2))))
   | _=>cases h
 ·cases h
theorem aLs {T K E:Nat} (hT:P.underlying T=some (.map K E)) (hy:den g a=some (rv y)) (hf:g.fresh nx) (hm:aB W0 w (mem g me++R)) (h:aBv me nx a=.ok v me' nx') :
  ∃ g' x w',After P W0 g nx R w rv ⟨d,.range T y,ty,pos,af,gd⟩ v me' nx' g' x w':=by
 unfold aBv at h;split at h
 ·rename_i i;obtain ⟨q,hq,e⟩:=NJ hy;cases hg:EV.T.get i me with
  | none=>rw [hg] at h; cases h
  | some o =>
   rw [hg] at h;cases o with
   | m k aD =>
    dsimp only at h;cases hc:Nat.ble (len aD) 1 with
    | false=>rw [hc] at h; cases h
    | true =>
     rw [hc] at h; simp only [cond_true] at h;injection h with h1 h2 h3; subst h1; subst h2; subst h3;obtain ⟨x,k1⟩:=(fO hm hg).aP;obtain ⟨⟨k2,k3,k4,k5⟩,k6⟩:=k1.aS.aN;obtain rfl:q=(x.1,x.2.1):=by rw [hq] at k2; exact Option.some.inj k2
     obtain ⟨es,ck,hb,hen⟩:=k6.mp .here;have hst:=aB.mit k6 hb hen;have hle:=(G.bX g nx (w.heap.size,0)).le hf;have hne:nx≠i:=fun e=>by
      subst e; rw [hf nx (Nat.le_refl _)] at hq; cases hq
     have s1:aB W0 (w.alloc (.mapIter (some x.1) ck #[] ck)) (mem g (EV.T.put i none me)++(Mit x.1 w.heap.size 0 k x.2.2.2::R)):=hst.perm List.perm_middle.symm;have s2:=(gY hle s1).perm List.perm_middle;have s3:aB W0 (w.alloc (.mapIter (some x.1) ck #[] ck)) (OT (g.set nx (w.heap.size,0)) i (.mi nx 0 k aD)::(mem (g.set nx (w.heap.size,0)) (EV.T.put i none me)++R)) :=
      aB.bR (x.1,x.2.1,w.heap.size,0,x.2.2.1,x.2.2.2) (aB.cB (aB.bB ⟨hle.2.2 _ _ hq,G.bL g nx _,gN hle k3,k4,k5⟩ s2))
     have s4:=jA s3;have s5:aB W0 (w.alloc (.mapIter (some x.1) ck #[] ck)) (OT (g.set nx (w.heap.size,0)) nx (.it i)::(mem (g.set nx (w.heap.size,0)) (EV.T.put i (some (.mi nx 0 k aD)) me)++R)) :=
      aB.bR (w.heap.size,0) (aB.bB (G.bL g nx _) s4)
     refine ⟨g.set nx (w.heap.size,0),.pointer (some ⟨w.heap.size,0,none⟩),_,G.bX _ _ _,G.aY hf _,le_succ nx,mG (G.bL g nx _),wE s5 ?_,Or.inl ?_⟩
     ·rw [EV.T.bO _ i nx me hne]; exact dW hm hf
     simp only [execOp,Instr.range,underlying,Sem.run_bind,run_program,Result.andThen_ok,hT,e,Sem.run_pure,cH hb,run_newObj];rfl
   | _=>cases h
 ·cases h
omit hs in
theorem aE3 {i j:Pos} {o o':Ob} (h:EV.T.get i me=some o) (h':EV.T.get j me=some o') (hn:o≠o'):i≠j:=fun e=>by subst e; rw [h] at h'; exact hn (Option.some.inj h')
omit hs in
theorem over {i j:Pos} {n:Nat} {k:IntKind} {aD:List (Int × SV)} (hm:aB W0 w (mem g me++R)) (hi:EV.T.get i me=some (.mi j n k aD)) (hj:EV.T.get j me=some (.it i)):aB W0 w (mem g (EV.T.put j none (EV.T.put i (some (.m k aD)) me))++R):=by
 have hne:j≠i:=aE3 hj hi (by intro e; cases e);obtain ⟨x,k1⟩:=(fO hm hi).aP;obtain ⟨⟨k2,k2',k3,k4,k5⟩,k6⟩:=k1.aS.aN;have s0:aB W0 w (OT g i (.m k aD)::(mem g (EV.T.put i none me)++R)):=aB.bR (x.1,x.2.1,x.2.2.2.2.1,x.2.2.2.2.2) (aB.cB (aB.bB ⟨k2,k3,k4,k5⟩ (aB.aHe k6)));have s1:=jA s0;have hg:EV.T.get j (EV.T.put i (some (.m k aD)) me)=some (.it i):=by rw [EV.T.bO _ i j me hne]; exact hj
 exact (fO s1 hg).tail
theorem aLu (hy : den g a = some (rv y)) (hf : g.fresh nx) (hm : aB W0 w (mem g me ++ R)) (h : aDm me nx a = .ok v me' nx') :
    ∃ g' x w', After P W0 g nx R w rv ⟨d, .next y false, ty, pos, af, gd⟩ v me' nx' g' x w' := by
  unfold aDm at h
  split at h
  · rename_i j
    obtain ⟨q, hq, e⟩ := fH hy
    cases hg : EV.T.get j me with
    | none => rw [hg] at h; cases h
    | some o =>
      rw [hg] at h
      cases o with
      | it i =>
        dsimp only at h
        cases hi : EV.T.get i me with
        | none => rw [hi] at h; cases h
        | some o2 =>
          rw [hi] at h
          cases o2 with
          | mi j' n k aD =>
            dsimp only at h
            cases hb : Nat.beq j.nat j'.nat with
            | false => rw [hb] at h; cases h
            | true =>
              rw [hb] at h; simp only [cond_true] at h
              have := eE (Nat.eq_of_beq_eq_true hb); subst this
              obtain ⟨x, k1⟩ := (fO hm hi).aP
              obtain ⟨⟨k2, k2', k3, k4, k5⟩, k6⟩ := k1.aS.aN
              obtain ⟨es, ck, since, seen, c0, m1, m2, m3, m4, m5, m6, m7, m8⟩ := aB.WV k6
              obtain rfl : q = (x.2.2.1, x.2.2.2.1) := by rw [hq] at k2'; exact Option.some.inj k2'
              have hlen : es.toList.length = aD.length := by
                have q1 := congrArg List.length m4.kv
                have q2 := mW k3
                have q3 := k4.length_eq
                simp only [List.length_map] at q1
                omega
              have hlo : leftOf es seen = #[] → (Instr.next (.pointer (some ⟨x.2.2.1, 0, none⟩)) false ty).run P w = .ok (.tuple #[.bool false]) w := by
                intro hl
                rcases run_next_at (P := P) w ty x.2.2.1 x.1 since c0 seen es ck m3 m2 m5 m6 with ⟨_, h2⟩ | ⟨e0, h1, _⟩
                · exact h2
                · rw [hl] at h1; simp at h1
              have hov : ∀ v0, LP me nx i j k aD = .ok v0 me' nx' → leftOf es seen = #[] → v0 = v →
                  ∃ g' x w', After P W0 g nx R w rv ⟨d, .next y false, ty, pos, af, gd⟩ v me' nx' g' x w' := by
                intro v0 ho hl hv
                unfold LP at ho
                injection ho with h1 h2 h3; subst hv; subst h1; subst h2; subst h3
                refine ⟨g, .tuple #[.bool false], w, G.ext.refl _ _, hf, Nat.le_refl _, rfl, over hm hi hg, Or.inl ?_⟩
                simp only [execOp, Sem.run_bind, e, hlo hl, Result.andThen_ok]; rfl
              cases aD with
              | nil =>
                have hes : es = #[] := by
                  have : es.toList = [] := List.length_eq_zero_iff.1 (by simpa using hlen)
                  simpa using this
                exact hov _ h (by rw [hes]; rfl) rfl
              | cons p r =>
                obtain ⟨a1, b1⟩ := p
                cases r with
                | nil =>
                  cases n with
                  | zero =>
                    dsimp only at h
                    cases hu : kN k .u16 with
                    | true => rw [hu] at h; cases h
                    | false =>
                    rw [hu] at h; simp only [cond_false] at h
                    injection h with h1 h2 h3; subst h1; subst h2; subst h3
                    have aK5 : seen = #[] := m8
                    subst aK5
                    obtain ⟨e0, he0⟩ : ∃ e0, es.toList = [e0] := List.length_eq_one_iff.1 (by simpa using hlen)
                    rcases run_next_at (P := P) w ty x.2.2.1 x.1 since c0 #[] es ck m3 m2 m5 m6 with ⟨h1, _⟩ | ⟨e1, h1, w1, h2, h3⟩
                    · simp [leftOf] at h1
                      exact (h1 e0 (by have : e0 ∈ es.toList := by rw [he0]; simp
                                       simpa using this)).elim
                    · have he1 : e1 = e0 := by
                        simp [leftOf] at h1
                        have : e1 ∈ es.toList := by simpa using h1
                        rw [he0] at this; simpa using this
                      subst he1
                      have hkv := m4.kv
                      rw [he0] at hkv
                      obtain ⟨kv0, S6⟩ : ∃ kv0, x.2.2.2.2.2 = [kv0] := by
                        refine List.length_eq_one_iff.1 ?_
                        have := congrArg List.length hkv; simpa using this.symm
                      rw [S6] at hkv k4
                      simp only [List.map_cons, List.map_nil, List.cons.injEq, Prod.mk.injEq, and_true] at hkv
                      have hp : [kv0] = x.2.2.2.2.1 := List.singleton_perm.1 k4
                      simp only [aX] at k3
                      cases q1 : aT g b1 with
                      | none => simp [q1] at k3
                      | some v1 =>
                        simp [q1] at k3
                        rw [← k3] at hp
                        simp only [List.cons.injEq, and_true] at hp
                        subst hp
                        have hst : aB W0 w1 (Mit x.1 x.2.2.1 0 k x.2.2.2.2.2 :: (mem g (EV.T.put i none me) ++ R)) := by
                          rcases h2 with rfl | rfl
                          · exact k6
                          · exact k6.drew
                        have hh : w1.heap = w.heap := by rcases h2 with rfl | rfl <;> rfl
                        refine ⟨g, .tuple #[.bool true, .int k a1, v1], _, G.ext.refl _ _, hf, Nat.le_refl _, ?_, ?_, Or.inl (by simp only [execOp, Sem.run_bind, e, h3, Result.andThen_ok]; rw [hkv.1, hkv.2, CB hu]; rfl)⟩
                        · exact oX (bT rfl (bT rfl (bT q1 rfl)))
                        · refine jA (aB.bR (x.1, x.2.1, x.2.2.1, x.2.2.2.1, x.2.2.2.2.1, x.2.2.2.2.2) (aB.cB (aB.bB ⟨k2, k2', ?_, ?_, k5⟩ ?_)))
                          · simp [aX, q1, k3]
                          · rw [S6, ← k3]
                          · refine aB.WU hst (es' := es) (sX := ck) (since' := since) (seen' := #[].push e1.born) (c0' := ck) m1 (.inr rfl) ?_ (eR (qC (by rw [hh]; exact m3))) m4 m5 (by omega) rfl ⟨e1.born, rfl, fun e he => by rw [he0] at he; simp at he; rw [he]⟩
                            rw [dK (Ne.symm m1), hh]; exact m2
                  | succ n =>
                    dsimp only at h
                    obtain ⟨s, q1, q2⟩ := m8
                    refine hov _ h ?_ rfl
                    unfold leftOf
                    rw [Array.filter_eq_empty_iff]
                    intro e0 he0
                    have := q2 e0 (by simpa using he0)
                    rw [q1, this]; simp
                | cons p2 r2 => dsimp only at h; cases h
          | _ => cases h
      | _ => cases h
  · cases h
theorem aL0 (hy:den g a=some (rv y)) (hf:g.fresh nx) (hm:aB W0 w (mem g me++R)) (h:aFg me nx a=.ok v me' nx') :
  ∃ g' x w',After P W0 g nx R w rv ⟨d,.entry y,ty,pos,af,gd⟩ v me' nx' g' x w':=by
 unfold aFg at h;split at h
 ·rename_i j;obtain ⟨q,hq,e⟩:=fH hy;cases hg:EV.T.get j me with
  | none=>rw [hg] at h; cases h
  | some o =>
   rw [hg] at h;cases o with
   | it i =>
    dsimp only at h;cases hi:EV.T.get i me with
    | none=>rw [hi] at h; cases h
    | some o2 =>
     rw [hi] at h;cases o2 with
     | mi j' n k aD =>
      dsimp only at h;cases hb:Nat.beq j.nat j'.nat with
      | false=>rw [hb] at h; cases h
      | true =>
       rw [hb] at h; simp only [cond_true] at h;have:=eE (Nat.eq_of_beq_eq_true hb); subst this;obtain ⟨x,k1⟩:=(fO hm hi).aP;obtain ⟨⟨k2,k2',k3,k4,k5⟩,k6⟩:=k1.aS.aN;obtain ⟨es,ck,since,seen,c0,m1,m2,m3,m4,m5,m6,m7,m8⟩:=aB.WV k6;obtain rfl:q=(x.2.2.1,x.2.2.2.1):=by rw [hq] at k2'; exact Option.some.inj k2'
       split at h
       ·rename_i a1 b1;cases hu:kN k .u16 with
        | true=>rw [hu] at h; cases h
        | false =>
        rw [hu] at h; simp only [cond_false] at h;injection h with h1 h2 h3; subst h1; subst h2; subst h3;obtain ⟨s,q1,q2⟩:=m8;have hlen:es.toList.length=1:=by
         have q1:=congrArg List.length m4.kv;have q2:=mW k3;have q3:=k4.length_eq;simp only [List.length_map,List.length_cons,List.length_nil] at q1 q2;omega
        obtain ⟨e0,he0⟩:∃ e0,es.toList=[e0]:=List.length_eq_one_iff.1 hlen;have hs0:=q2 e0 (by rw [he0]; simp);have hkv:=m4.kv;rw [he0] at hkv;obtain ⟨kv0,S6⟩:∃ kv0,x.2.2.2.2.2=[kv0]:=by
         refine List.length_eq_one_iff.1 ?_;have:=congrArg List.length hkv; simpa using this.symm
        rw [S6] at hkv k4;simp only [List.map_cons,List.map_nil,List.cons.injEq,Prod.mk.injEq,and_true] at hkv;have hp:[kv0]=x.2.2.2.2.1:=List.singleton_perm.1 k4;simp only [aX] at k3;cases q3:aT g b1 with
        | none=>simp [q3] at k3
        | some v1 =>
         simp [q3] at k3;rw [← k3] at hp;simp only [List.cons.injEq,and_true] at hp;subst hp;refine ⟨g,.tuple #[.int k a1,v1],w,G.ext.refl _ _,hf,Nat.le_refl _,oX (bT rfl (bT q3 rfl)),hm,Or.inl ?_⟩;have:=run_entry_at (P:=P) w x.2.2.1 x.1 since #[] es ck e0 (by rw [m3,q1,hs0,m7]) m2 (by rw [he0]; simp) m4.nodup;simp only [execOp,Sem.run_bind,e,this,Result.andThen_ok];rw [hkv.1,hkv.2,CB hu]; rfl
       cases h
     | _=>cases h
   | _=>cases h
 ·cases h
theorem aLt {T:Nat} (hT:P.underlying T=some .string) (hy:den g a=some (rv y)) (hf:g.fresh nx) (hm:aB W0 w (mem g me++R)) (h:aBx me nx a=.ok v me' nx') :
  ∃ g' x w',After P W0 g nx R w rv ⟨d,.range T y,ty,pos,af,gd⟩ v me' nx' g' x w':=by
 unfold aBx at h;split at h
 ·rename_i n m;injection h with h1 h2 h3; subst h1; subst h2; subst h3;obtain ⟨hlt,ey⟩:=lK hy;have hst:aB W0 (w.alloc (.stringIter (dD n m) 0)) (Si w.heap.size (dD n m) 0::(mem g me++R)) :=
   hm.more ((Below.refl _ _).alloc (Nat.le_refl _) _) (A:=fun x=>x=w.heap.size) ⟨heap_alloc_new w _,fun x=>Iff.rfl⟩ (fun b e=>by rw [e]; exact Nat.le_refl _)
  have hle:=(G.bX g nx (w.heap.size,0)).le hf;have h2:aB W0 (w.alloc (.stringIter (dD n m) 0)) (OT (g.set nx (w.heap.size,0)) nx (.si n m 0)::(mem g me++R)):=aB.bR (w.heap.size,0) (aB.cB (aB.bB ⟨G.bL g nx _,hlt⟩ hst));have h4:=gY hle (h2.perm List.perm_middle.symm);refine ⟨g.set nx (w.heap.size,0),.pointer (some ⟨w.heap.size,0,none⟩),_,G.bX _ _ _,G.aY hf _,le_succ nx,mG (G.bL g nx _),wE (h4.perm List.perm_middle) (dW hm hf),Or.inl ?_⟩;simp only [execOp,ey,Sem.run_bind,run_range_string w T _ hT,Result.andThen_ok];rfl
 cases h
omit hs in
theorem byte_at {n m j:Nat} (hj:j < n) (hs:j < (dD n m).size):((dD n m)[j]'hs).toNat=byteOf n m j:=by
 have h1:=xM n (v:=m) hj;have h2:(dD n m)[j]'hs=(cA n m)[j]'(by rw [cP]; exact hj):=by
  show (dD n m).data[j]'_=_;simp [dD]
 have h3:=List.getElem?_eq_getElem (l:=cA n m) (i:=j) (by rw [cP]; exact hj);rw [h3] at h1;rw [h2,Option.some.inj h1];show _=m / 256 ^ (n - 1 - j) % 256;simp
theorem aLv (hy:den g a=some (rv y)) (hf:g.fresh nx) (hm:aB W0 w (mem g me++R)) (h:aDn me nx a=.ok v me' nx') :
  ∃ g' x w',After P W0 g nx R w rv ⟨d,.next y true,ty,pos,af,gd⟩ v me' nx' g' x w':=by
 unfold aDn at h;split at h
 ·rename_i j;obtain ⟨q,hq,e⟩:=fH hy;cases hg:EV.T.get j me with
  | none=>rw [hg] at h; cases h
  | some o =>
   rw [hg] at h;cases o with
   | si n m p =>
    dsimp only at h;obtain ⟨x,k1⟩:=(fO hm hg).aP;obtain ⟨⟨k2,k3⟩,k4⟩:=k1.aS.aN;obtain rfl:q=x:=by rw [hq] at k2; exact Option.some.inj k2
    obtain ⟨F,hF⟩:=k4.fact;have hb:=hF.1;cases hlt:Nat.blt p n with
    | false =>
     rw [hlt] at h;simp only [cond_false] at h;injection h with h1 h2 h3; subst h1; subst h2; subst h3;have hnl:¬ p < (dD n m).size:=by
      rw [eB]; intro hh; rw [blt_eq] at hlt; simp [hh] at hlt
     refine ⟨g,.tuple #[.bool false],w,G.ext.refl _ _,hf,Nat.le_refl _,rfl,hm,Or.inl ?_⟩;simp [execOp,e,Instr.next,getObj,Sem.run,hb,hnl]
    | true =>
     rw [hlt] at h;simp only [cond_true] at h;have hpn:p < n:=by rw [blt_eq] at hlt; simpa using hlt
     have hps:p < (dD n m).size:=by rw [eB]; exact hpn
     cases hc:Nat.blt (byteOf n m p) 128 with
     | false=>rw [hc] at h; cases h
     | true =>
      rw [hc] at h;simp only [cond_true] at h;injection h with h1 h2 h3; subst h1; subst h2; subst h3;have hbt:=byte_at hpn hps;have ha:((dD n m)[p]'hps).toNat < 128:=by rw [hbt]; rw [blt_eq] at hc; simpa using hc
      have hst:aB W0 (setBlock w q.1 (.stringIter (dD n m) (p + 1))) (Si q.1 (dD n m) (p + 1)::(mem g (EV.T.put j none me)++R)):=by
       refine k4.turn (A:=fun x=>x=q.1) ⟨rfl,rfl,rfl⟩ (by simp [setBlock]) (fun F hF=>⟨⟨eR (qC hF.1),fun x=>Iff.rfl⟩,fun y hy=>.inl ((hF.2 y).2 hy),fun y hy hn=>?_⟩);exact dK (fun e=>hn ((hF.2 y).2 e.symm))
      refine ⟨g,.tuple #[.bool true,.int .i64 p,.int .i32 (byteOf n m p)],_,G.ext.refl _ _,hf,Nat.le_refl _,rfl,jA (aB.bR q (aB.cB (aB.bB ⟨k2,k3⟩ hst))),Or.inl ?_⟩;simp only [execOp,e,Instr.next,getObj,setObj,Sem.run_bind,Sem.run,hb,Result.andThen,hps,if_true,decode_ascii _ p hps ha,hbt];simp [goInt,Sem.run,hb,setBlock]
   | _=>cases h
 ·cases h
omit hs in
theorem GO:∀ (n v:Nat) (acc:List SV) (xs:List Value),aF (aE g) acc=some xs→aF (aE g) (RZ n v acc)=some ((cA n v).map (fun c=>Value.int .u8 c.toNat)++xs)
 | 0,v,acc,xs,h=>h
 | n + 1,v,acc,xs,h=>by
  have h':RZ (n + 1) v acc=RZ n (Nat.div v 256) (.i .u8 (.ofNat (Nat.mod v 256))::acc):=rfl;rw [h'];have h1:aF (aE g) (SV.i .u8 (.ofNat (Nat.mod v 256))::acc)=some (.int .u8 ((v % 256:Nat):Int)::xs):=bT rfl h;rw [GO n _ _ _ h1];have e1:(UInt8.ofNat (v % 256)).toNat=v % 256:=by simp
  show some (List.map _ (cA n (v / 256))++_)=_;simp [cA,e1]
theorem aL2 {s t e:Nat} (h1:P.underlying s=some .string) (h2:P.underlying t=some (.slice e)) (h3:P.underlying e=some (.int .u8)) (hy:den g a=some (rv y)) (hf:g.fresh nx) (hm:aB W0 w (mem g me++R)) (h:aFp e me nx a=.ok v me' nx') :
  ∃ g' x w',After P W0 g nx R w rv ⟨d,.convert s t y,ty,pos,af,gd⟩ v me' nx' g' x w':=by
 unfold aFp at h;split at h
 ·rename_i n m;injection h with q1 q2 q3; subst q1; subst q2; subst q3;obtain ⟨hlt,ey⟩:=lK hy;have hd:aF (aE g) (RZ n m [])=some ((cA n m).map fun c=>Value.int .u8 c.toNat):=by
   have:=GO (g:=g) n m [] [] rfl;simpa using this
  have hbel:Below w.heap.size w (Lib.bytesWorld w e (dD n m)):=by
   refine ⟨rfl,rfl,rfl,?_,fun b hb=>Lib.bytesWorld_at_old w e _ b hb⟩;rw [Lib.bytesWorld_size]; omega
  have hst:aB W0 (Lib.bytesWorld w e (dD n m)) (Ro w.heap.size ((cA n m).map fun c=>Value.int .u8 c.toNat)::(mem g me++R)):=by
   refine hm.more hbel (A:=fun x=>x=w.heap.size) ⟨⟨_,_,_,Lib.bytesWorld_at_new w e _,fun j v hv=>?_⟩,fun x=>Iff.rfl⟩ (fun b e=>by rw [e]; exact Nat.le_refl _);have hj:j < (cA n m).length:=by
    rcases Nat.lt_or_ge j (cA n m).length with h' | h'
    ·exact h'
    rw [List.getElem?_eq_none (by simpa using h')] at hv; cases hv
   rw [List.getElem?_map,List.getElem?_eq_getElem hj] at hv;simp only [Option.map_some,Option.some.injEq] at hv;subst hv;unfold Lib.bytesCells;rw [Array.getElem?_append_left (by simpa [dD] using hj)];simp [dD,List.getElem?_eq_getElem hj]
  have hle:=(G.bX g nx (w.heap.size,grownCap w n 0 e)).le hf;have s2:aB W0 (Lib.bytesWorld w e (dD n m)) (OT (g.set nx (w.heap.size,grownCap w n 0 e)) nx (.ro e (RZ n m []))::(mem g me++R)):=aB.bR (w.heap.size,grownCap w n 0 e,_) (aB.cB (aB.bB ⟨G.bL g nx _,cS (fJ hle) hd⟩ hst));have s4:=gY hle (s2.perm List.perm_middle.symm);refine ⟨g.set nx (w.heap.size,grownCap w n 0 e),.slice (some ⟨w.heap.size,0,none⟩) n (grownCap w n 0 e),_,G.bX _ _ _,G.aY hf _,le_succ nx,mF (G.bL g nx _),wE (s4.perm List.perm_middle) (dW hm hf),Or.inl ?_⟩;have hr:=Lib.run_convert_string_bytes (P:=P) w s t e (dD n m) h1 h2 h3;rw [eB] at hr;simp only [execOp,ey,Sem.run_bind,hr,Result.andThen_ok]; rfl
 cases h
end
end
noncomputable section
def DQ:List (Nat × Nat × O)→List (Nat × Operand)→Nat→Bool
 | [],[],_=>true
 | (off,size,x)::qs,(i,y)::ps,z=>Nat.beq off (i * z) && Nat.beq size z && DQ qs ps z
 | _,_,_=>false
theorem kT {oq:O→Operand→Bool} {z:Nat}:∀ {qs:List (Nat × Nat × O)} {ps:List (Nat × Operand)},Y4 oq qs ps=true→DQ qs ps z=true→parts (fun i=>some (i * z,z)) oq qs ps=true
 | [],[],_,_=>rfl
 | (off,size,x)::qs,(i,y)::ps,h,ht=>by
  simp only [Y4,DQ,Bool.and_eq_true] at h ht;have e1:=Nat.eq_of_beq_eq_true ht.1.1;have e2:=Nat.eq_of_beq_eq_true ht.1.2;subst e1; subst e2;simp only [parts,Nat.beq_refl,h.1,kT h.2 ht.2,Bool.and_self]
 | [],_::_,h,_=>by cases h
 | _::_,[],h,_=>by cases h
def RY (F:FT) (oq:O→Operand→Bool):Op→E→Bool
 | .alloc t,.al t' z=>Nat.beq t t' && F.al t z
 | .box t y,.box t' x=>Nat.beq t t' && oq x y
 | .buildSlice T m ps,.nF t z n zs qs=>Nat.beq m n && (match n with
  | 0=>F.bs0 T t z && zs.isEmpty && qs.isEmpty && ps.isEmpty
  | _=>F.bs T t z n zs && Y4 oq qs ps.toList && DQ qs ps.toList z)
 | .store t y z,.st n x x'=>F.sz t n && oq x y && oq x' z
 | .call { callee:=.builtin .append,args:=⟨[y,z]⟩,argTypes:=⟨[T,T']⟩ },.ap t zz b x x'=>Nat.beq T T' && F.ap T t zz b && oq x y && oq x' z
 | .makeMap t none,.B5 k=>true
 | .mapUpdate T y z u,.mu k x x' x''=>F.mp T k && oq x y && oq x' z && oq x'' u
 | .insert T y z u,.mu k x x' x''=>F.mp T k && oq x y && oq x' z && oq x'' u
 | .call { callee:=.builtin .delete,args:=⟨[y,z]⟩,argTypes:=⟨T::_⟩ },.del k x x'=>F.mp T k && oq x y && oq x' z
 | .range T y,.rng x=>F.tk .m T && oq x y
 | .range T y,.rgs x=>F.str T && oq x y
 | .next y true,.nxs x=>oq x y
 | .convert s t y,.cvb e x=>F.toB s t e && oq x y
 | .mapEntry T y z,.men k zz x x'=>F.lk T k zz && oq x y && oq x' z
 | .entryStore T y z u,.mst x x' x''=>oq x y && oq x' z && oq x'' u
 | _,.bad=>true
 | .next y false,.Z5 x=>oq x y
 | .entry y,.ent x=>oq x y
 | _,_=>false
section
variable {P:Program} {w W0:World} {rv:Operand→Value} {g:G} {me me':T Ob} {R:List aA} {nx nx':Pos} {v:SV} {F:FT} {lk:LK} {oq:O→Operand→Bool} {d:Option Tmp} {ty:TypeId} {pos:String} {af:Array Edge} {gd:Option (Nat × Bool)}
theorem bY {x:Option SV} {k:SV→R3} (h:r1 x k=.ok v me' nx'):∃ u,x=some u∧k u=.ok v me' nx':=by
 cases x with
 | none=>cases h
 | some u=>exact ⟨u,rfl,h⟩
theorem yX {α:Type} (a:Array α):a=a.toList.toArray:=by simp
theorem AD (hs:Std rv) (hF:F.Ok P W0) (hq:∀ x y v,oq x y=true→lk x=some v→den g v=some (rv y)) (hf:g.fresh nx) (hm:aB W0 w (mem g me++R)) {op:Op} {o:E} (hc:RY F oq op o=true) (h:nB lk me nx o=.ok v me' nx') :
  ∃ g' x w',After P W0 g nx R w rv ⟨d,op,ty,pos,af,gd⟩ v me' nx' g' x w':=by
 unfold RY at hc;split at hc
 ·rename_i t t' z;simp only [Bool.and_eq_true] at hc;have:=Nat.eq_of_beq_eq_true hc.1; subst this;obtain ⟨zs,h1,h2⟩:=hF.al _ _ hc.2;have h':R3.ok (.p nx 0) (T.put nx (some (.c t z)) me) (Pos.succ nx)=R3.ok v me' nx':=h;injection h' with a1 a2 a3; subst a1; subst a2; subst a3;exact aL5 hs h1 (h2 g) hf hm
 ·rename_i t y t' x;simp only [Bool.and_eq_true] at hc;have:=Nat.eq_of_beq_eq_true hc.1; subst this;obtain ⟨u,h1,h⟩:=bY h;have h':Option.rec (motive:=fun _=>R3) .no (fun cs=>.ok (.p nx 0) (T.put nx (some (.c t cs)) me) (Pos.succ nx)) (cells u)=R3.ok v me' nx':=h;cases hcs:cells u with
  | none=>rw [hcs] at h'; cases h'
  | some cs =>
   rw [hcs] at h';injection h' with a1 a2 a3; subst a1; subst a2; subst a3;exact aL4 hs (hq _ _ _ hc.2 h1) hcs hf hm
 ·rename_i T m ps t z n zs qs;simp only [Bool.and_eq_true] at hc;have:=Nat.eq_of_beq_eq_true hc.1; subst this;have h':Option.rec (motive:=fun _=>R3) .no (fun l=>.ok (.sr nx m) (EV.T.put nx (some (.r t z l)) me) (Pos.succ nx)) (fill lk qs zs)=R3.ok v me' nx':=h;cases hl:fill lk qs zs with
  | none=>rw [hl] at h'; cases h'
  | some l =>
   rw [hl] at h';injection h' with a1 a2 a3; subst a1; subst a2; subst a3;cases m with
   | zero =>
    have hc2:=hc.2;simp only [Bool.and_eq_true] at hc2;obtain ⟨⟨⟨c1,c2⟩,c3⟩,c4⟩:=hc2;obtain ⟨k1,k2⟩:=hF.bs0 _ _ _ c1;have e1:zs=[]:=by simpa using c2
    have e2:qs=[]:=by simpa using c3
    have e3:ps=#[]:=by simpa using c4
    subst e1; subst e2; subst e3;have hl':some ([]:List SV)=some l:=hl;injection hl' with hl'; subst hl';exact aFi hs k1 k2 hf hm
   | succ m =>
    have hc2:=hc.2;simp only [Bool.and_eq_true] at hc2;obtain ⟨⟨c1,c2⟩,c3⟩:=hc2;obtain ⟨zero,k1,k2,k3,k4,k5⟩:=hF.bs _ _ _ _ _ c1;have:=aL3 (d:=d) (ty:=ty) (pos:=pos) (af:=af) (gd:=gd) hs hq k1 k2 k3 (k4 g) k5 (kT c2 c3) hl hf hm;rw [← yX] at this;exact this
 ·simp only [Bool.and_eq_true] at hc;obtain ⟨u,h1,h⟩:=bY h;obtain ⟨u',h2,h⟩:=bY h;exact aSj hs (hF.sz _ _ hc.1.1) (hq _ _ _ hc.1.2 h1) (hq _ _ _ hc.2 h2) hf hm h
 ·simp only [Bool.and_eq_true] at hc;have:=Nat.eq_of_beq_eq_true hc.1.1.1; subst this;obtain ⟨u,h1,h⟩:=bY h;obtain ⟨u',h2,h⟩:=bY h;obtain ⟨zv,k1⟩:=hF.ap _ _ _ _ hc.1.1.2;exact aSk hs k1 (hq _ _ _ hc.1.2 h1) (hq _ _ _ hc.2 h2) hf hm h
 ·rename_i t k;have h':R3.ok (.m nx) (T.put nx (some (.m k [])) me) (Pos.succ nx)=R3.ok v me' nx':=h;injection h' with a1 a2 a3; subst a1; subst a2; subst a3;exact aLy hs hf hm
 ·simp only [Bool.and_eq_true] at hc;obtain ⟨u,h1,h⟩:=bY h;obtain ⟨u',h2,h⟩:=bY h;obtain ⟨u'',h3,h⟩:=bY h;obtain ⟨K,E,k1,k2⟩:=hF.mp _ _ hc.1.1.1;exact aLw hs k1 k2 (hq _ _ _ hc.1.1.2 h1) (hq _ _ _ hc.1.2 h2) (hq _ _ _ hc.2 h3) hf hm h
 ·simp only [Bool.and_eq_true] at hc;obtain ⟨u,h1,h⟩:=bY h;obtain ⟨u',h2,h⟩:=bY h;obtain ⟨u'',h3,h⟩:=bY h;obtain ⟨K,E,k1,k2⟩:=hF.mp _ _ hc.1.1.1;obtain ⟨g',x,w',a⟩:=aLw (d:=d) (ty:=ty) (pos:=pos) (af:=af) (gd:=gd) hs k1 k2 (hq _ _ _ hc.1.1.2 h1) (hq _ _ _ hc.1.2 h2) (hq _ _ _ hc.2 h3) hf hm h;exact ⟨g',x,w',a.ext,a.fresh,a.le,a.den,a.TM,a.run⟩
 ·simp only [Bool.and_eq_true] at hc;obtain ⟨u,h1,h⟩:=bY h;obtain ⟨u',h2,h⟩:=bY h;obtain ⟨K,E,k1,k2⟩:=hF.mp _ _ hc.1.1;exact aL1 hs k1 k2 (by simp) (hq _ _ _ hc.1.2 h1) (hq _ _ _ hc.2 h2) hf hm h
 ·simp only [Bool.and_eq_true] at hc;obtain ⟨u,h1,h⟩:=bY h;obtain ⟨td,k1,k2,k3⟩:=hF.tk _ _ hc.1;cases td <;> simp only [rC,Bool.false_eq_true] at k2;exact aLs hs k1 (hq _ _ _ hc.2 h1) hf hm h
 ·simp only [Bool.and_eq_true] at hc;obtain ⟨u,h1,h⟩:=bY h;exact aLt hs (hF.str _ hc.1) (hq _ _ _ hc.2 h1) hf hm h
 ·obtain ⟨u,h1,h⟩:=bY h;exact aLv hs (hq _ _ _ hc h1) hf hm h
 ·simp only [Bool.and_eq_true] at hc;obtain ⟨u,h1,h⟩:=bY h;obtain ⟨k1,k2,k3⟩:=hF.toB _ _ _ hc.1;exact aL2 hs k1 k2 k3 (hq _ _ _ hc.2 h1) hf hm h
 ·simp only [Bool.and_eq_true] at hc;obtain ⟨u,h1,h⟩:=bY h;obtain ⟨u',h2,h⟩:=bY h;obtain ⟨K,E,zv,k1,k2,k3,k4⟩:=hF.lk _ _ _ hc.1.1;exact aLz hs k1 k2 k3 (k4 g) (hq _ _ _ hc.1.2 h1) (hq _ _ _ hc.2 h2) hf hm h
 ·simp only [Bool.and_eq_true] at hc;obtain ⟨u,h1,h⟩:=bY h;obtain ⟨u',h2,h⟩:=bY h;obtain ⟨u'',h3,h⟩:=bY h;exact aLx hs (hq _ _ _ hc.1.1 h1) (hq _ _ _ hc.1.2 h2) (hq _ _ _ hc.2 h3) hf hm h
 ·cases h
 ·obtain ⟨u,h1,h⟩:=bY h;exact aLu hs (hq _ _ _ hc h1) hf hm h
 ·obtain ⟨u,h1,h⟩:=bY h;exact aL0 hs (hq _ _ _ hc h1) hf hm h
 cases hc
end
theorem ZN {F:FT} {oq:O→Operand→Bool} {op:Op} {t z n:Nat} {zs:List SV} {qs:List (Nat × Nat × O)} (h0:Nat.blt 0 n=true) (h:RY F oq op (.nF t z n zs qs)=true) :
  ∃ T ps,op=.buildSlice T n ps∧F.bs T t z n zs=true∧Y4 oq qs ps.toList=true∧DQ qs ps.toList z=true:=by
 cases n with
 | zero=>cases h0
 | succ n =>
  generalize he:E.nF t z (n + 1) zs qs=e at h;unfold RY at h;split at h
  case h_3 =>
   injection he with e1 e2 e3 e4 e5; subst e1; subst e2; subst e3; subst e4; subst e5;simp only [Bool.and_eq_true] at h;have:=Nat.eq_of_beq_eq_true h.1; subst this;exact ⟨_,_,rfl,h.2.1.1,h.2.1.2,h.2.2⟩
  all_goals first | (cases h; done) | (cases he; done)
def HG (x:Value):Value:=.iface 243 (.agg #[x])
def chain (x:Value):List PanicEntry:=[{ v:=HG x,recovered:=false }]
def pE (P:Program) (W0:World) (cl:CL):Prop :=
 (∀ f vs me nx v me' nx',cl f vs me nx=.ret v me' nx'→∀ (W:World) (R:List aA) (g:G) (xs:List Value),g.fresh nx→aF (den g) vs=some xs→aB W0 W (mem g me++R) →
  Calls P (f.nat - 1) xs.toArray W fun e w'=>∃ g' x,e=.returned x∧g.ext g' nx∧g'.fresh nx'∧nx.nat≤nx'.nat∧den g' v=some x∧aB W0 w' (mem g' me'++R)) ∧
 (∀ f vs me nx v me' nx',cl f vs me nx=.dL v me' nx'→∀ (W:World) (R:List aA) (g:G) (xs:List Value),g.fresh nx→aF (den g) vs=some xs→aB W0 W (mem g me++R) →
  Calls P (f.nat - 1) xs.toArray W fun e w'=>∃ g' x,e=.panicked (chain x)∧g.ext g' nx∧g'.fresh nx'∧nx.nat≤nx'.nat∧den g' v=some x∧aB W0 w' (mem g' me'++R)) ∧
 (∀ f vs me nx,cl f vs me nx≠.no→Enters P (f.nat - 1))
def dfr (x:Value):Deferred:={ target:=.fn (.func 55) #[],args:=#[x] }
def yN (g:G):List SV→List Deferred→Prop
 | [],ds=>ds=[]
 | v::vs,ds=>∃ x r,ds=dfr x::r∧den g v=some x∧yN g vs r
theorem yN.mono {g g':G} (h:g.le g'):∀ {vs:List SV} {ds:List Deferred},yN g vs ds→yN g' vs ds
 | [],_,k=>k
 | v::vs,ds,⟨x,r,h1,h2,h3⟩=>⟨x,r,h1,dS h v x h2,yN.mono h h3⟩
def mH (F:FT) (oq:O→Operand→Bool) (o:Oper):CO→Bool
 | .v _ v _=>o.dst.isSome && aFu F oq o.op v
 | .e _ e=>RY F oq o.op e
 | .c _ f xs=>match o.op with
  | .call { callee:=.value (.func f'),args,.. }=>Nat.beq f.nat (f' + 1) && oqs oq xs args.toList
  | _=>false
 | .cv _ x xs=>match o.op with
  | .call { callee:=.value (.tmp y),args,.. }=>oq x (.tmp y) && oqs oq xs args.toList
  | _=>false
 | .df x=>match o.op with
  | .defer { callee:=.value (.func 55),args:=⟨[y]⟩,.. }=>oq x y && o.dst.isNone && o.guard.isNone
  | _=>false
 | .fl t z=>match o.op with
  | .alloc t'=>Nat.beq t t' && F.al t z && o.guard.isNone
  | _=>false
 | .fb _ t z n zs qs=>Nat.blt 0 n && RY F oq o.op (.nF t z n zs qs)
def wp1 (P:Program) (ops:Array Oper) (o:Oper) (K:Act→World→Prop) (Q:Exit→Act→World→Prop) (a:Act) (w:World):Prop :=
 if Region.wanted o (yielded ops a.tmps) then o.wp P a w K Q∨(o.asks P a w∧LetsOut Q) else K (a.put o.dst undef) w
section
variable {P:Program} {w W0:World} {a:Act} {g:G} {me me':T Ob} {R:List aA} {nx nx':Pos} {v:SV} {F:FT} {lk:LK} {oq:O→Operand→Bool} {ops:Array Oper} {o:Oper} {c:CO} {dl bG:List SV} {cl:CL} {K:Act→World→Prop} {Q:Exit→Act→World→Prop}
theorem dZ (a:Act):Std a.eval:=⟨fun v=>rfl,fun b=>rfl,fun f=>rfl⟩
theorem vF (hw:Region.wanted o (yielded ops a.tmps)=true) (h:o.wp P a w K Q):wp1 P ops o K Q a w:=by unfold wp1; rw [if_pos hw]; exact .inl h
theorem KM (hw:Region.wanted o (yielded ops a.tmps)=false) (h:K (a.put o.dst undef) w):wp1 P ops o K Q a w:=by unfold wp1; rw [if_neg (by rw [hw]; simp)]; exact h
theorem gC {x:Value} {w':World} (hr:(execOp a.eval o).run P w=.ok (.value x) w') (h:K (a.put o.dst x) w'):o.wp P a w K Q:=by unfold Oper.wp; rw [hr]; exact h
theorem vD {w':World} (hr:(execOp a.eval o).run P w=.ok .skip w') (h:K (a.put o.dst undef) w'):o.wp P a w K Q:=by unfold Oper.wp; rw [hr]; exact h
theorem SW {x:Value} {w':World} (hr:Ye P w a.eval o x w') (h:K (a.put o.dst x) w'):o.wp P a w K Q:=by
 rcases hr with hr | ⟨hr,rfl⟩
 ·exact gC hr h
 exact vD hr h
structure X2 (P:Program) (g:G) (lk:LK) (oq:O→Operand→Bool) (ops:Array Oper) (o:Oper) (c:CO) (a:Act):Prop where
 op:∀ x y v,oq x y=true→lk x=some v→den g v=some (a.eval y)
 gd:∀ b,gd lk (RG c)=some b→Region.wanted o (yielded ops a.tmps)=b
theorem gE {P':R1→Prop} {r:R1} (h:step1 cl lk me nx dl c=r) (hr:r≠.no):(∃ b,gd lk (RG c)=some b∧(bif b then aBu cl lk me nx dl c else PV c me nx dl)=r):=by
 unfold step1 at h;cases hg:gd lk (RG c) with
 | none=>rw [hg] at h; exact (hr h.symm).elim
 | some b=>rw [hg] at h; exact ⟨b,rfl,h⟩
theorem qP {f:Nat} {xs:List Operand} {tys:Array TypeId} {d:Option Tmp} {ty:TypeId} {ps:String} {af:Array Edge} {gd:Option (Nat × Bool)} (he:Enters P f):(execOp a.eval ⟨d,.call { callee:=.value (.func f),args:=xs.toArray,argTypes:=tys },ty,ps,af,gd⟩).run P w=.ok (.enter f (xs.map a.eval).toArray) w:=by
 have hx:evs (uH a.eval xs) xs=some (xs.map a.eval):=by
  have:∀ (l:List Operand),(∀ q∈l,q∈xs)→evs (uH a.eval xs) l=some (l.map a.eval):=by
   intro l;induction l with
   | nil=>intro _; rfl
   | cons q r ih=>intro hall; simp only [evs,dH (dZ a) (hall q (by simp)),ih (fun q hq=>hall q (by simp [hq])),List.map_cons]
  exact this xs (fun q hq=>hq)
 exact EC.direct (kn:=uH a.eval xs) he hx a.eval w (bA (dZ a) xs)
theorem nT {f t:Nat} {us cs:Array Value} {xs:List Operand} {tys:Array TypeId} {d:Option Tmp} {ty:TypeId} {ps:String} {af:Array Edge} {gd:Option (Nat × Bool)} (he:Enters P f) (ht:a.eval (.tmp t)=.func (.func f) us cs):(execOp a.eval ⟨d,.call { callee:=.value (.tmp t),args:=xs.toArray,argTypes:=tys },ty,ps,af,gd⟩).run P w=.ok (.enter f (us.toList++xs.map a.eval++cs.toList).toArray) w:=by
 have hx:evs (uH a.eval (.tmp t::xs)) xs=some (xs.map a.eval):=by
  have:∀ (l:List Operand),(∀ q∈l,q∈xs)→evs (uH a.eval (.tmp t::xs)) l=some (l.map a.eval):=by
   intro l;induction l with
   | nil=>intro _; rfl
   | cons q r ih=>intro hall; simp only [evs,dH (ys:=.tmp t::xs) (dZ a) (List.mem_cons_of_mem _ (hall q (by simp))),ih (fun q hq=>hall q (by simp [hq])),List.map_cons]
  exact this xs (fun q hq=>hq)
 have hl:Proofs.YtadggjnohohedaaGreatDoor.lk (uH a.eval (.tmp t::xs)) t=some (.func (.func f) us cs):=by simp [uH,Proofs.YtadggjnohohedaaGreatDoor.lk,ht]
 exact EC.closure (kn:=uH a.eval (.tmp t::xs)) hl he hx a.eval w (bA (dZ a) _)
theorem aAp {p:Pos} {us cs:List SV} {x:Value} (h:den g (.f p us cs)=some x):∃ us' cs',aF (den g) us=some us'∧aF (den g) cs=some cs'∧x=.func (.func (p.nat - 1)) us'.toArray cs'.toArray:=by
 simp only [den,aT,aE] at h;cases h1:aF (aI g) us with
 | none=>simp [h1] at h
 | some us'=>cases h2:aF (aI g) cs with
  | none=>simp [h1,h2] at h
  | some cs' =>
   simp [h1,h2] at h;exact ⟨us',cs',cS (fun x v e=>JY e) h1,cS (fun x v e=>JY e) h2,h.symm⟩
theorem AM {f:FuncId} {xs:List Value} {vs:List SV} {fp:Pos} (hcl:pE P W0 cl) (hf:g.fresh nx) (hm:aB W0 w (mem g me++R)) (hfp:fp.nat - 1=f) (hd:aF (den g) vs=some xs) (hr:(execOp a.eval o).run P w=.ok (.enter f xs.toArray) w)
  (hcs:call cl fp vs me nx dl=.ok v me' nx' bG) (hK:∀ g' x w',g.ext g' nx→g'.fresh nx'→nx.nat≤nx'.nat→den g' v=some x→bG=dl→aB W0 w' (mem g' me'++R)→K (a.put o.dst x) w'):o.wp P a w K Q:=by
 unfold Oper.wp; rw [hr];unfold call at hcs;cases hc:cl fp vs me nx with
 | no=>rw [hc] at hcs; cases hcs
 | dL e m n=>rw [hc] at hcs; cases hcs
 | ret e m n =>
  rw [hc] at hcs;injection hcs with h1 h2 h3 h4; subst h1; subst h2; subst h3;have:=hcl.1 _ _ _ _ _ _ _ hc w R g xs hf hd hm;rw [hfp] at this;refine this.mono ?_;rintro e w' ⟨g',x,rfl,k1,k2,k3,k4,k5⟩;exact hK g' x w' k1 k2 k3 k4 h4.symm k5
theorem nU {f:FuncId} {xs:List Value} {vs:List SV} {fp:Pos} (hcl:pE P W0 cl) (hf:g.fresh nx) (hm:aB W0 w (mem g me++R)) (hfp:fp.nat - 1=f) (hd:aF (den g) vs=some xs) (hr:(execOp a.eval o).run P w=.ok (.enter f xs.toArray) w)
  (hcs:call cl fp vs me nx dl=.dL v me' nx' bG) (hQ:∀ g' x w',g.ext g' nx→g'.fresh nx'→nx.nat≤nx'.nat→den g' v=some x→bG=dl→aB W0 w' (mem g' me'++R)→Q (.panic (chain x)) a w'):o.wp P a w K Q:=by
 unfold Oper.wp; rw [hr];unfold call at hcs;cases hc:cl fp vs me nx with
 | no=>rw [hc] at hcs; cases hcs
 | ret e m n=>rw [hc] at hcs; cases hcs
 | dL e m n =>
  rw [hc] at hcs;injection hcs with h1 h2 h3 h4; subst h1; subst h2; subst h3;have:=hcl.2.1 _ _ _ _ _ _ _ hc w R g xs hf hd hm;rw [hfp] at this;refine this.mono ?_;rintro e w' ⟨g',x,rfl,k1,k2,k3,k4,k5⟩;exact hQ g' x w' k1 k2 k3 k4 h4.symm k5
theorem jC {f:Pos} {vs:List SV} {r:R1} (hcl:pE P W0 cl) (hc:call cl f vs me nx dl=r) (hr:r≠.no):Enters P (f.nat - 1):=by
 refine hcl.2.2 f vs me nx (fun e=>?_);unfold call at hc;rw [e] at hc;exact hr hc.symm
theorem pX {β:Type} {xs:List O} {k:List SV→R1} {r:R1} (h:Option.rec (motive:=fun _=>R1) .no k (HC lk xs)=r) (hr:r≠.no):∃ vs,HC lk xs=some vs∧k vs=r:=by
 cases hx:HC lk xs with
 | none=>rw [hx] at h; exact (hr h.symm).elim
 | some vs=>rw [hx] at h; exact ⟨vs,rfl,h⟩
theorem IL (h:PV c me nx dl=.ok v me' nx' bG):R1.ok und me nx dl=.ok v me' nx' bG:=by
 unfold PV at h;cases hb:JD c with
 | true=>rw [hb] at h; cases h
 | false=>rw [hb] at h; exact h
theorem LR (h:PV c me nx dl=.dL v me' nx' bG):False:=by
 unfold PV at h;cases hb:JD c with
 | true=>rw [hb] at h; cases h
 | false=>rw [hb] at h; cases h
theorem TY {g:Option (O × Bool)} {t z n:Nat} {zs:List SV} {ps:List (Nat × Nat × O)} (h:aBu cl lk me nx dl (.fb g t z n zs ps)=.ok v me' nx' bG) :
  ∃ l,fill lk ps zs=some l∧ints l=true∧v=.sr nx n∧me'=T.put nx (some (.r t z l)) me∧nx'=nx.succ∧bG=dl:=by
 have hr':Option.rec (motive:=fun _=>R1) .no (fun l=>bif ints l then .ok (.sr nx n) (T.put nx (some (.r t z l)) me) (Pos.succ nx) dl else .no) (fill lk ps zs)=R1.ok v me' nx' bG:=h;cases hl:fill lk ps zs with
 | none=>rw [hl] at hr'; cases hr'
 | some l =>
  rw [hl] at hr';dsimp only at hr';cases hi:ints l with
  | false=>rw [hi] at hr'; cases hr'
  | true =>
   rw [hi] at hr';injection hr' with h1 h2 h3 h4;exact ⟨l,rfl,hi,h1.symm,h2.symm,h3.symm,h4.symm⟩
theorem tJ (hcl:pE P W0 cl) (hF:F.Ok P W0) (hS:X2 P g lk oq ops o c a) (hd:yN g dl a.defers) (hf:g.fresh nx) (hm:aB W0 w (mem g me++R)) (hc:mH F oq o c=true) (h:step1 cl lk me nx dl c=.ok v me' nx' bG)
  (hK:∀ g' x df w',g.ext g' nx→g'.fresh nx'→nx.nat≤nx'.nat→den g' v=some x→yN g' bG df→aB W0 w' (mem g' me'++R)→K (({ a with defers:=df }:Act).put o.dst x) w'):wp1 P ops o K Q a w:=by
 obtain ⟨b,hb,hr⟩:=gE (P':=fun _=>True) h (by intro e; cases e);have hw:=hS.gd b hb;cases b with
 | false =>
  simp only [cond_false] at hr;injection IL hr with h1 h2 h3 h4; subst h1; subst h2; subst h3; subst h4;exact KM hw (hK g undef a.defers w (G.ext.refl _ _) hf (Nat.le_refl _) rfl hd hm)
 | true =>
  simp only [cond_true] at hr;refine vF hw ?_;obtain ⟨dst,op,ty,pos,af,RK⟩:=o;cases c with
  | v g0 o0 b0 =>
   simp only [mH,Bool.and_eq_true] at hc;have hr':Option.rec (motive:=fun _=>R1) .no (fun v=>.ok v me nx dl) (val lk me o0)=R1.ok v me' nx' bG:=hr;cases hv:val lk me o0 with
   | none=>rw [hv] at hr'; cases hr'
   | some u =>
    rw [hv] at hr';injection hr' with h1 h2 h3 h4; subst h1; subst h2; subst h3; subst h4;obtain ⟨x,k1,k2⟩:=yU (dZ a) hF hS.op hm hc.2 hv;exact gC (k2 _ _ _ _ _) (hK g x a.defers w (G.ext.refl _ _) hf (Nat.le_refl _) k1 hd hm)
  | e g0 o0 =>
   simp only [mH] at hc;have hr':R3.rec (motive:=fun _=>R1) .no (fun v me nx=>.ok v me nx dl) (nB lk me nx o0)=R1.ok v me' nx' bG:=hr;cases hv:nB lk me nx o0 with
   | no=>rw [hv] at hr'; cases hr'
   | ok u m n =>
    rw [hv] at hr';injection hr' with h1 h2 h3 h4; subst h1; subst h2; subst h3; subst h4;obtain ⟨g',x,w',A⟩:=AD (d:=dst) (ty:=ty) (pos:=pos) (af:=af) (gd:=RK) (dZ a) hF hS.op hf hm hc hv;exact SW A.run (hK g' x a.defers w' A.ext A.fresh A.le A.den (hd.mono (A.ext.le hf)) A.TM)
  | c g0 f xs =>
   simp only [mH] at hc;split at hc
   ·rename_i op0 f' args tys;simp only [Bool.and_eq_true] at hc;obtain ⟨vs,hvs,hcall⟩:=pX (β:=Unit) hr (by intro e; cases e);have hfn:=Nat.eq_of_beq_eq_true hc.1;have hen:=jC hcl hcall (by intro e; cases e);rw [show f.nat - 1=f' by omega] at hen;have he:=qP (a:=a) (w:=w) (xs:=args.toList) (tys:=tys) (d:=dst) (ty:=ty) (ps:=pos) (af:=af) (gd:=RK) hen;rw [← yX] at he;refine AM hcl hf hm (by omega) (kU hS.op hc.2 hvs) he hcall (fun g' x w' k1 k2 k3 k4 k5 k6=>?_);subst k5;exact hK g' x a.defers w' k1 k2 k3 k4 (hd.mono (k1.le hf)) k6
   cases hc
  | cv g0 x xs =>
   simp only [mH] at hc;split at hc
   ·rename_i op0 y args tys;simp only [Bool.and_eq_true] at hc;have hr':Option.rec (motive:=fun _=>R1) .no (fun f=>match (generalizing:=false) f with
     | .f f us cs=>Option.rec (motive:=fun _=>R1) .no (fun vs=>call cl f (app us (app vs cs)) me nx dl) (HC lk xs)
     | _=>.no) (lk x)=R1.ok v me' nx' bG:=hr
    cases hx:lk x with
    | none=>rw [hx] at hr'; cases hr'
    | some fv =>
     rw [hx] at hr';cases fv with
     | f fp us cs =>
      dsimp only at hr';obtain ⟨vs,hvs,hcall⟩:=pX (β:=Unit) hr' (by intro e; cases e);have hdf:=hS.op _ _ _ hc.1 hx;obtain ⟨us',cs',d1,d2,d3⟩:=aAp hdf;have hen:=jC hcl hcall (by intro e; cases e);have he:=nT (a:=a) (w:=w) (xs:=args.toList) (tys:=tys) (d:=dst) (ty:=ty) (ps:=pos) (af:=af) (gd:=RK) hen d3;rw [← yX] at he;refine AM hcl hf hm rfl (by rw [pA,pA,← List.append_assoc]; exact cY (cY d1 (kU hS.op hc.2 hvs)) d2) (by simpa using he) hcall (fun g' x w' k1 k2 k3 k4 k5 k6=>?_);subst k5;exact hK g' x a.defers w' k1 k2 k3 k4 (hd.mono (k1.le hf)) k6
     | _=>cases hr'
   ·cases hc
  | df x =>
   simp only [mH] at hc;split at hc
   ·rename_i op0 y tys;simp only [Bool.and_eq_true] at hc;have hr':Option.rec (motive:=fun _=>R1) .no (fun v=>.ok und me nx (v::dl)) (lk x)=R1.ok v me' nx' bG:=hr;cases hx:lk x with
    | none=>rw [hx] at hr'; cases hr'
    | some u =>
     rw [hx] at hr';injection hr' with h1 h2 h3 h4; subst h1; subst h2; subst h3; subst h4;have hdx:=hS.op _ _ _ hc.1.1 hx;have hrun:(execOp a.eval (⟨dst,.defer { callee:=.value (.func 55),args:=⟨[y]⟩,argTypes:=tys },ty,pos,af,RK⟩:Oper)).run P w=.ok (.defer (dfr (a.eval y))) w:=by
      simp [execOp,resolve,Deferred.ofValue,Act.eval,dfr]
     unfold Oper.wp;rw [hrun];exact hK g undef (dfr (a.eval y)::a.defers) w (G.ext.refl _ _) hf (Nat.le_refl _) rfl ⟨_,_,rfl,hdx,hd⟩ hm
   cases hc
  | fl t z =>
   simp only [mH] at hc;split at hc
   ·rename_i op0 t';simp only [Bool.and_eq_true] at hc;have:=Nat.eq_of_beq_eq_true hc.1.1; subst this;have hr':R1.ok (.p nx 0) (T.put nx (some (.c t z)) me) (Pos.succ nx) dl=R1.ok v me' nx' bG:=hr;injection hr' with h1 h2 h3 h4; subst h1; subst h2; subst h3; subst h4;obtain ⟨zs,k1,k2⟩:=hF.al _ _ hc.1.2;obtain ⟨g',x,w',A⟩:=aL5 (d:=dst) (ty:=ty) (pos:=pos) (af:=af) (gd:=RK) (dZ a) k1 (k2 g) hf hm;exact SW A.run (hK g' x a.defers w' A.ext A.fresh A.le A.den (hd.mono (A.ext.le hf)) A.TM)
   cases hc
  | fb g0 t z n zs ps =>
   simp only [mH,Bool.and_eq_true] at hc;obtain ⟨l,hl,_,h1,h2,h3,h4⟩:=TY hr;subst h1; subst h2; subst h3; subst h4;have hv:nB lk me nx (.nF t z n zs ps)=.ok (.sr nx n) (T.put nx (some (.r t z l)) me) nx.succ:=by
    show Option.rec (motive:=fun _=>R3) .no (fun l=>.ok (.sr nx n) (T.put nx (some (.r t z l)) me) (Pos.succ nx)) (fill lk ps zs)=_;rw [hl]
   obtain ⟨g',x,w',A⟩:=AD (d:=dst) (ty:=ty) (pos:=pos) (af:=af) (gd:=RK) (dZ a) hF hS.op hf hm hc.2 hv;exact SW A.run (hK g' x a.defers w' A.ext A.fresh A.le A.den (hd.mono (A.ext.le hf)) A.TM)
theorem tK (hcl:pE P W0 cl) (hS:X2 P g lk oq ops o c a) (hd:yN g dl a.defers) (hf:g.fresh nx) (hm:aB W0 w (mem g me++R)) (hc:mH F oq o c=true) (h:step1 cl lk me nx dl c=.dL v me' nx' bG)
  (hQ:∀ g' x w',g.ext g' nx→g'.fresh nx'→nx.nat≤nx'.nat→den g' v=some x→yN g' bG a.defers→aB W0 w' (mem g' me'++R)→Q (.panic (chain x)) a w'):wp1 P ops o K Q a w:=by
 obtain ⟨b,hb,hr⟩:=gE (P':=fun _=>True) h (by intro e; cases e);have hw:=hS.gd b hb;cases b with
 | false=>simp only [cond_false] at hr; exact (LR hr).elim
 | true =>
  simp only [cond_true] at hr;refine vF hw ?_;obtain ⟨dst,op,ty,pos,af,RK⟩:=o;cases c with
  | v g0 o0 b0 =>
   have hr':Option.rec (motive:=fun _=>R1) .no (fun v=>.ok v me nx dl) (val lk me o0)=R1.dL v me' nx' bG:=hr;cases hv:val lk me o0 with
   | none=>rw [hv] at hr'; cases hr'
   | some u=>rw [hv] at hr'; cases hr'
  | e g0 o0 =>
   have hr':R3.rec (motive:=fun _=>R1) .no (fun v me nx=>.ok v me nx dl) (nB lk me nx o0)=R1.dL v me' nx' bG:=hr;cases hv:nB lk me nx o0 with
   | no=>rw [hv] at hr'; cases hr'
   | ok u m n=>rw [hv] at hr'; cases hr'
  | c g0 f xs =>
   simp only [mH] at hc;split at hc
   ·rename_i op0 f' args tys;simp only [Bool.and_eq_true] at hc;obtain ⟨vs,hvs,hcall⟩:=pX (β:=Unit) hr (by intro e; cases e);have hfn:=Nat.eq_of_beq_eq_true hc.1;have hen:=jC hcl hcall (by intro e; cases e);rw [show f.nat - 1=f' by omega] at hen;have he:=qP (a:=a) (w:=w) (xs:=args.toList) (tys:=tys) (d:=dst) (ty:=ty) (ps:=pos) (af:=af) (gd:=RK) hen;rw [← yX] at he;refine nU hcl hf hm (by omega) (kU hS.op hc.2 hvs) he hcall (fun g' x w' k1 k2 k3 k4 k5 k6=>?_);subst k5;exact hQ g' x w' k1 k2 k3 k4 (hd.mono (k1.le hf)) k6
   cases hc
  | cv g0 x xs =>
   simp only [mH] at hc;split at hc
   ·rename_i op0 y args tys;simp only [Bool.and_eq_true] at hc;have hr':Option.rec (motive:=fun _=>R1) .no (fun f=>match (generalizing:=false) f with
     | .f f us cs=>Option.rec (motive:=fun _=>R1) .no (fun vs=>call cl f (app us (app vs cs)) me nx dl) (HC lk xs)
     | _=>.no) (lk x)=R1.dL v me' nx' bG:=hr
    cases hx:lk x with
    | none=>rw [hx] at hr'; cases hr'
    | some fv =>
     rw [hx] at hr';cases fv with
     | f fp us cs =>
      dsimp only at hr';obtain ⟨vs,hvs,hcall⟩:=pX (β:=Unit) hr' (by intro e; cases e);have hdf:=hS.op _ _ _ hc.1 hx;obtain ⟨us',cs',d1,d2,d3⟩:=aAp hdf;have hen:=jC hcl hcall (by intro e; cases e);have he:=nT (a:=a) (w:=w) (xs:=args.toList) (tys:=tys) (d:=dst) (ty:=ty) (ps:=pos) (af:=af) (gd:=RK) hen d3;rw [← yX] at he;refine nU hcl hf hm rfl (by rw [pA,pA,← List.append_assoc]; exact cY (cY d1 (kU hS.op hc.2 hvs)) d2) (by simpa using he) hcall (fun g' x w' k1 k2 k3 k4 k5 k6=>?_);subst k5;exact hQ g' x w' k1 k2 k3 k4 (hd.mono (k1.le hf)) k6
     | _=>cases hr'
   ·cases hc
  | df x =>
   have hr':Option.rec (motive:=fun _=>R1) .no (fun v=>.ok und me nx (v::dl)) (lk x)=R1.dL v me' nx' bG:=hr;cases hx:lk x with
   | none=>rw [hx] at hr'; cases hr'
   | some u=>rw [hx] at hr'; cases hr'
  | fl t z=>cases hr
  | fb g0 t z n zs ps =>
   have hr':Option.rec (motive:=fun _=>R1) .no (fun l=>bif ints l then .ok (.sr nx n) (T.put nx (some (.r t z l)) me) (Pos.succ nx) dl else .no) (fill lk ps zs)=R1.dL v me' nx' bG:=hr;cases hl:fill lk ps zs with
   | none=>rw [hl] at hr'; cases hr'
   | some l =>
    rw [hl] at hr'; dsimp only at hr';cases hi:ints l with
    | false=>rw [hi] at hr'; cases hr'
    | true=>rw [hi] at hr'; cases hr'
end
end
noncomputable section
def DN:List UInt8→Nat→Nat
 | [],v=>v
 | c::r,v=>DN r (v * 256 + c.toNat)
theorem AN:∀ (l:List UInt8) (m v:Nat),cA (m + l.length) (DN l v)=cA m v++l
 | [],m,v=>by simp [DN]
 | c::r,m,v=>by
  have h:=AN r (m + 1) (v * 256 + c.toNat);have hc:c.toNat < 256:=c.toNat_lt;have e1:(v * 256 + c.toNat) / 256=v:=by omega
  have e2:(v * 256 + c.toNat) % 256=c.toNat:=by omega
  have hb:cA (m + 1) (v * 256 + c.toNat)=cA m v++[c]:=by
   simp only [cA,e1,e2]; simp
  rw [hb] at h;simp only [DN,List.length_cons];rw [show m + (r.length + 1)=m + 1 + r.length by omega,h]; simp
theorem KR:∀ (l:List UInt8) (m v:Nat),v < 256 ^ m→DN l v < 256 ^ (m + l.length)
 | [],m,v,h=>by simpa [DN] using h
 | c::r,m,v,h=>by
  have hc:c.toNat < 256:=c.toNat_lt;have:=KR r (m + 1) (v * 256 + c.toNat) (by rw [Nat.pow_succ]; omega);simp only [DN,List.length_cons];rw [show m + (r.length + 1)=m + 1 + r.length by omega]; exact this
def cq1:SV→Value→Bool
 | .i k n,.int k' m=>kN k k' && ieq n m
 | .b x,.bool y=>x == y
 | .s n v,.string s=>Nat.beq s.data.toList.length n && Nat.beq (DN s.data.toList 0) v
 | .pn,.pointer none=>true
 | .sn,.slice none 0 0=>true
 | .mn,.map none=>true
 | .fn,.nilFunc=>true
 | .ni,.nilIface=>true
 | _,_=>false
def cqs:List SV→List Value→Bool
 | [],[]=>true
 | x::xs,y::ys=>cq1 x y && cqs xs ys
 | _,_=>false
def cq:SV→Value→Bool
 | .a l,.agg xs=>cqs l xs.toList
 | x,y=>cq1 x y
theorem NM {g:G} {x:SV} {v:Value} (h:cq1 x v=true):aI g x=some v:=by
 unfold cq1 at h;split at h
 ·simp only [Bool.and_eq_true] at h;have e1:=dO h.1;have e2:=h.2; rw [jK] at e2;simp only [decide_eq_true_eq] at e2;subst e1; subst e2; rfl
 ·simp only [beq_iff_eq] at h; subst h; rfl
 ·rename_i n v s;simp only [Bool.and_eq_true] at h;have e1:=Nat.eq_of_beq_eq_true h.1;have e2:=Nat.eq_of_beq_eq_true h.2;have h1:=AN s.data.toList 0 0;have h2:=KR s.data.toList 0 0 (by simp);rw [e2] at h1 h2;rw [Nat.zero_add,e1] at h1 h2;have h3:dD n v=s:=by
   unfold dD;rw [h1];obtain ⟨⟨l⟩⟩:=s;rfl
  simp [aI,h2,h3]
 all_goals first | rfl | (cases h; done)
theorem NL {g:G}:∀ {l:List SV} {xs:List Value},cqs l xs=true→aF (aE g) l=some xs
 | [],[],_=>rfl
 | x::l,y::ys,h=>by
  simp only [cqs,Bool.and_eq_true] at h;exact bT (ZG (NM h.1)) (NL h.2)
 | [],_::_,h=>by cases h
 | _::_,[],h=>by cases h
theorem ZL {g:G} {x:SV} {v:Value} (h:cq x v=true):den g x=some v:=by
 unfold cq at h;split at h
 ·rename_i l xs;rw [xB (NL h)]
 exact JY (NM h)
def BY (d:Option Nat) (t:Nat):Bool:=match d with
 | some e=>Nat.beq e t
 | none=>false
def findD (t:Nat) (ds:List (Option Nat)) (i:Nat):Option Nat :=
 List.rec (motive:=fun _=>Nat→Option Nat) (fun _=>none) (fun d _ ih i=>bif BY d t then some i else ih (Nat.succ i)) ds i
theorem gO (t:Nat) (d:Option Nat) (ds:List (Option Nat)) (i:Nat):findD t (d::ds) i=bif BY d t then some i else findD t ds (i + 1):=rfl
theorem oU (t:Nat):∀ (ds:List (Option Nat)) (i:Nat),findD t ds (i + 1)=(findD t ds i).map (· + 1)
 | [],i=>rfl
 | d::ds,i=>by
  rw [gO,gO,oU t ds (i + 1)];cases BY d t <;> rfl
theorem jJ {d:Option Nat} {t:Nat}:BY d t=true↔d=some t:=by
 cases d with
 | none=>simp [BY]
 | some e =>
  simp only [BY,Option.some.injEq];exact ⟨Nat.eq_of_beq_eq_true,fun h=>by subst h; exact Nat.beq_refl _⟩
theorem oV {t:Nat}:∀ {ds:List (Option Nat)} {i:Nat},findD t ds i=none↔some t∉ds
 | [],i=>by simp [findD]
 | d::ds,i=>by
  rw [gO];cases h:BY d t with
  | true=>rw [jJ] at h; subst h; simp
  | false =>
   have hn:d≠some t:=fun e=>by rw [jJ.2 e] at h; cases h
   simp only [cond_false,oV (ds:=ds),List.mem_cons,not_or];exact ⟨fun h=>⟨fun e=>hn e.symm,h⟩,fun h=>h.2⟩
def UO (tm:Array Value) (d:Option Nat) (x:Value):Array Value:=match d with
 | some d=>tm.setIfInBounds d x
 | none=>tm
structure Env (g:G) (ds:List (Option Nat)) (env:List SV) (fr:T SV) (tm:Array Value):Prop where
 hit:∀ t i,findD t ds 0=some i→∃ v x,nth env i=some v∧den g v=some x∧tm[t]?=some x
 old:∀ t,findD t ds 0=none→∀ p v,p.nat=t + 1→T.get p fr=some v→∃ x,den g v=some x∧tm[t]?=some x
def C0 (g:G) (fr:T SV) (tm:Array Value):Prop:=∀ p v,T.get p fr=some v→∃ x,den g v=some x∧tm[p.nat - 1]?=some x
section
variable {g g':G} {ds:List (Option Nat)} {env:List SV} {fr fr':T SV} {tm:Array Value} {v:SV} {x:Value} {d:Option Nat}
theorem Env.start (h:C0 g fr tm):Env g [] [] fr tm:=by
 refine ⟨fun t i hi=>(by cases hi),fun t _ p v hp hg=>?_⟩;obtain ⟨x,h1,h2⟩:=h p v hg;exact ⟨x,h1,by rw [hp] at h2; simpa using h2⟩
theorem Env.mono (hle:g.le g') (h:Env g ds env fr tm):Env g' ds env fr tm:=by
 refine ⟨fun t i hi=>?_,fun t hi p v hp hg=>?_⟩
 ·obtain ⟨v,x,h1,h2,h3⟩:=h.hit t i hi;exact ⟨v,x,h1,dS hle v x h2,h3⟩
 obtain ⟨x,h1,h2⟩:=h.old t hi p v hp hg;exact ⟨x,dS hle v x h1,h2⟩
theorem WF (v:SV) (env:List SV) (i:Nat):nth (v::env) (i + 1)=nth env i:=rfl
theorem Env.put (h:Env g ds env fr tm) (hv:den g v=some x) (hd:∀ e,d=some e→e < tm.size):Env g (d::ds) (v::env) fr (UO tm d x):=by
 refine ⟨fun t i hi=>?_,fun t hi p u hp hg=>?_⟩
 ·rw [gO] at hi;cases hb:BY d t with
  | true =>
   rw [hb] at hi;injection hi with hi; subst hi;rw [jJ] at hb; subst hb;exact ⟨v,x,rfl,hv,by simp [UO,hd t rfl]⟩
  | false =>
   rw [hb] at hi;simp only [cond_false,oU,Option.map_eq_some_iff] at hi;obtain ⟨j,hj,rfl⟩:=hi;obtain ⟨u,y,h1,h2,h3⟩:=h.hit t j hj;refine ⟨u,y,by rw [WF]; exact h1,h2,?_⟩;cases d with
   | none=>exact h3
   | some e =>
    have hne:e≠t:=fun e'=>by subst e'; simp [BY] at hb
    simpa [UO,Array.getElem?_setIfInBounds_ne hne] using h3
 rw [gO] at hi;cases hb:BY d t with
 | true=>rw [hb] at hi; cases hi
 | false =>
  rw [hb] at hi;simp only [cond_false,oU,Option.map_eq_none_iff] at hi;obtain ⟨y,h1,h2⟩:=h.old t hi p u hp hg;refine ⟨y,h1,?_⟩;cases d with
  | none=>exact h2
  | some e =>
   have hne:e≠t:=fun e'=>by subst e'; simp [BY] at hb
   simpa [UO,Array.getElem?_setIfInBounds_ne hne] using h2
end
def oqB (ds:List (Option Nat)):O→Operand→Bool
 | .l i,.tmp t=>(match findD t ds 0 with | some j=>Nat.beq i j | none=>false)
 | .t p,.tmp t=>Nat.beq p.nat (t + 1) && (findD t ds 0).isNone
 | .c (.g b 0),.global b'=>Nat.beq b b'
 | .c (.f p [] []),.func f=>Nat.beq p.nat (f + 1)
 | .c v,.const u=>cq v u
 | _,_=>false
def gqB (L:List Oper) (ds:List (Option Nat)):Option (Nat × Bool)→Option (O × Bool)→Bool
 | none,none=>true
 | some (j,w),some (.l i,w')=>(w == w') && (match (L[j]?).bind (·.dst) with
  | some d=>(match findD d ds 0 with | some k=>Nat.beq i k | none=>false)
  | none=>false)
 | _,_=>false
section
variable {P:Program} {g:G} {ds:List (Option Nat)} {env:List SV} {fr:T SV} {a:Act} {ops:Array Oper} {o:Oper} {c:CO} {F:FT}
theorem zN (h:Env g ds env fr a.tmps) {x:O} {y:Operand} {v:SV} (hq:oqB ds x y=true) (hv:on fr env x=some v):den g v=some (a.eval y):=by
 unfold oqB at hq;split at hq
 ·rename_i i t;split at hq
  ·rename_i j hj;have:=Nat.eq_of_beq_eq_true hq; subst this;obtain ⟨u,x,h1,h2,h3⟩:=h.hit t i hj;have hv':nth env i=some v:=hv;rw [h1] at hv'; injection hv' with hv'; subst hv';rw [h2]; simp [Act.eval,Array.getD_eq_getD_getElem?,h3]
  cases hq
 ·rename_i p t;simp only [Bool.and_eq_true] at hq;have hv':T.get p fr=some v:=hv;obtain ⟨x,h1,h2⟩:=h.old t (by simpa using hq.2) p v (Nat.eq_of_beq_eq_true hq.1) hv';rw [h1]; simp [Act.eval,Array.getD_eq_getD_getElem?,h2]
 ·have:=Nat.eq_of_beq_eq_true hq; subst this;have hv':some (SV.g _ 0)=some v:=hv;injection hv' with hv'; subst hv'; rfl
 ·rename_i p f;have e:=Nat.eq_of_beq_eq_true hq;have hv':some (SV.f p [] [])=some v:=hv;injection hv' with hv'; subst hv';simp [den,aT,aE,aF,Act.eval,e]
 ·rename_i _ _ w u;have hv':some w=some v:=hv;injection hv' with hv'; subst hv';exact ZL hq
 cases hq
theorem RH (h:Env g ds env fr a.tmps) (hq:gqB ops.toList ds o.guard (RG c)=true) {b:Bool} (hb:gd (on fr env) (RG c)=some b):Region.wanted o (yielded ops a.tmps)=b:=by
 unfold gqB at hq;split at hq
 ·rename_i h1 h2;rw [h2] at hb;injection hb with hb; subst hb;simp [Region.wanted,h1]
 ·rename_i j w i w' h1 h2;rw [h2] at hb;simp only [Bool.and_eq_true,beq_iff_eq] at hq;obtain ⟨rfl,hq⟩:=hq;split at hq
  ·rename_i d hd;split at hq
   ·rename_i k hk;have:=Nat.eq_of_beq_eq_true hq; subst this;obtain ⟨u,x,e1,e2,e3⟩:=h.hit d i hk;have hgd:(match (generalizing:=false) nth env i with
     | some (.b y)=>some (bif w then y else !y)
     | some (.t [])=>some false
     | _=>none)=some b:=hb
    rw [e1] at hgd;cases u with
    | b y =>
     simp only [Option.some.injEq] at hgd;have ex:=GG e2; subst ex;have hy:yielded ops a.tmps j=some y:=by
      have hd':(ops[j]?).bind (·.dst)=some d:=by simpa using hd
      simp [yielded,hd',e3]
     simp only [Region.wanted,h1,hy];subst hgd;cases w <;> cases y <;> rfl
    | t l =>
     cases l with
     | cons _ _=>cases hgd
     | nil =>
      have ex:x=undef:=(Option.some.inj e2).symm;subst ex;have hy:yielded ops a.tmps j=none:=by
       have hd':(ops[j]?).bind (·.dst)=some d:=by simpa using hd
       simp [yielded,hd',e3,undef]
      simp only [Region.wanted,h1,hy];injection hgd with hgd
    | _=>cases hgd
   ·cases hq
  cases hq
 cases hq
theorem sees (h:Env g ds env fr a.tmps) (hq:gqB ops.toList ds o.guard (RG c)=true):X2 P g (on fr env) (oqB ds) ops o c a :=
 ⟨fun x y v h1 h2=>zN h h1 h2,fun b hb=>RH h hq hb⟩
end
def RS (N:Nat) (d:Option Nat):Bool:=match d with
 | some d=>Nat.blt d N
 | none=>true
def V2 (F:FT) (N:Nat) (L:List Oper):List Oper→List CO→List (Option Nat)→Bool
 | [],[],_=>true
 | o::os,c::cs,ds=>gqB L ds o.guard (RG c) && mH F (oqB ds) o c && RS N o.dst && V2 F N L os cs (o.dst::ds)
 | _,_,_=>false
def GA:List Oper→List (Option Nat)→List (Option Nat)
 | [],ds=>ds
 | o::os,ds=>GA os (o.dst::ds)
theorem ER {d:Option Nat}:∀ {l:List Oper} {ds:List (Option Nat)},d∈GA l ds↔(∃ o∈l,o.dst=d)∨d∈ds
 | [],ds=>by simp [GA]
 | o::l,ds=>by
  simp only [GA,ER (l:=l),List.mem_cons];constructor
  ·rintro (⟨o',h1,h2⟩ | h | h)
   ·exact .inl ⟨o',.inr h1,h2⟩
   ·exact .inl ⟨o,.inl rfl,h.symm⟩
   exact .inr h
  rintro (⟨o',h1 | h1,h2⟩ | h)
  ·subst h1; exact .inr (.inl h2.symm)
  ·exact .inl ⟨o',h1,h2⟩
  exact .inr (.inr h)
theorem mI {a b:Nat} (h:Nat.blt a b=true):a < b:=by simp [Nat.blt] at h; omega
section
variable {P:Program} {W0:World} {R:List aA} {F:FT} {N:Nat} {cl:CL} {fr:T SV} {aG:Array Oper} {Q:Exit→Act→World→Prop}
theorem UI (a:Act) (df:List Deferred) (d:Option Nat) (x:Value):(({ a with defers:=df }:Act).put d x).tmps=UO a.tmps d x:=by cases d <;> rfl
theorem tN (a:Act) (df:List Deferred) (d:Option Nat) (x:Value):(({ a with defers:=df }:Act).put d x).defers=df:=by cases d <;> rfl
theorem DZ (a:Act) (df:List Deferred) (d:Option Nat) (x:Value):(({ a with defers:=df }:Act).put d x).tmps.size=a.tmps.size:=by cases d <;> simp [Act.put]
theorem mT (a:Act) (df:List Deferred) (d:Option Nat) (x:Value) {t:Nat} (h:d≠some t):(({ a with defers:=df }:Act).put d x).tmps[t]?=a.tmps[t]?:=by
 cases d with
 | none=>rfl
 | some e=>simp only [Act.put]; exact Array.getElem?_setIfInBounds_ne (fun e'=>h (by rw [e']))
theorem rM (hcl:pE P W0 cl) (hF:F.Ok P W0):∀ (os:List Oper) (cs:List CO) (ds:List (Option Nat)) (env:List SV) (me:T Ob) (nx:Pos) (dl:List SV) (g:G) (a:Act) (w:World) (r:RR),
  V2 F N aG.toList os cs ds=true→ops cl fr cs env me nx dl=r→r≠.no→Env g ds env fr a.tmps→a.tmps.size=N→yN g dl a.defers→g.fresh nx→aB W0 w (mem g me++R) →
  (∀ env' me' nx' bG,r=.ok env' me' nx' bG→∀ g' a' w',g.ext g' nx→g'.fresh nx'→nx.nat≤nx'.nat→Env g' (GA os ds) env' fr a'.tmps→a'.tmps.size=N→yN g' bG a'.defers→aB W0 w' (mem g' me'++R)→Q .normal a' w') →
  (∀ v me' nx' bG,r=.dL v me' nx' bG→∀ g' x a' w',g.ext g' nx→g'.fresh nx'→nx.nat≤nx'.nat→den g' v=some x→(∀ t,some t∉GA os ds→a'.tmps[t]?=a.tmps[t]?)→a'.tmps.size=N→yN g' bG a'.defers→aB W0 w' (mem g' me'++R)→Q (.panic (chain x)) a' w') →
  nP P aG Q os a w
 | [],[],ds,env,me,nx,dl,g,a,w,r,hc,hr,hne,hE,hN,hd,hf,hm,hK,hQ=>by
  have hr':RR.ok env me nx dl=r:=hr;exact hK env me nx dl hr'.symm g a w (G.ext.refl _ _) hf (Nat.le_refl _) hE hN hd hm
 | o::os,c::cs,ds,env,me,nx,dl,g,a,w,r,hc,hr,hne,hE,hN,hd,hf,hm,hK,hQ=>by
  simp only [V2,Bool.and_eq_true] at hc;obtain ⟨⟨⟨c1,c2⟩,c3⟩,c4⟩:=hc;have hr':R1.rec (motive:=fun _=>RR) .no (fun v me nx dl=>ops cl fr cs (v::env) me nx dl) (fun e me nx dl=>.dL e me nx dl) (step1 cl (on fr env) me nx dl c)=r:=hr;have aSc:∀ e,o.dst=some e→e < a.tmps.size:=fun e he=>by
   rw [he] at c3; rw [hN]; exact mI c3
  show wp1 P aG o (nP P aG Q os) Q a w;cases hs:step1 cl (on fr env) me nx dl c with
  | no=>rw [hs] at hr'; exact (hne hr'.symm).elim
  | ok v eQ eV fC =>
   rw [hs] at hr';refine tJ hcl hF (sees hE c1) hd hf hm c2 hs (fun g1 x df w1 k1 k2 k3 k4 k5 k6=>?_);refine rM hcl hF os cs (o.dst::ds) (v::env) eQ eV fC g1 _ w1 r c4 hr' hne ?_ (by rw [DZ]; exact hN) (by rw [tN]; exact k5) k2 k6 (fun env' me' nx' bG e g' a' w' j1 j2 j3 j4 j5 j6 j7=>?_) (fun u me' nx' bG e g' y a' w' j1 j2 j3 j4 j5 j6 j7 j8=>?_)
   ·rw [UI]; exact (hE.mono (k1.le hf)).put k4 aSc
   ·exact hK env' me' nx' bG e g' a' w' (k1.trans j1 k3) j2 (Nat.le_trans k3 j3) j4 j5 j6 j7
   refine hQ u me' nx' bG e g' y a' w' (k1.trans j1 k3) j2 (Nat.le_trans k3 j3) j4 (fun t ht=>?_) j6 j7 j8;rw [j5 t ht];exact mT a df o.dst x (fun e=>ht (ER.2 (.inl ⟨o,by simp,e⟩)))
  | dL v eQ eV fC =>
   rw [hs] at hr';exact tK hcl (sees hE c1) hd hf hm c2 hs (fun g1 x w1 k1 k2 k3 k4 k5 k6=>hQ v eQ eV fC hr'.symm g1 x a w1 k1 k2 k3 k4 (fun t _=>rfl) hN k5 k6)
 | [],_::_,_,_,_,_,_,_,_,_,_,hc,_,_,_,_,_,_,_,_,_=>by cases hc
 | _::_,[],_,_,_,_,_,_,_,_,_,hc,_,_,_,_,_,_,_,_,_=>by cases hc
end
def inW (t:Nat) (wb:List (Pos × Nat)):Bool:=match wb with
 | []=>false
 | p::r=>Nat.beq p.1.nat (t + 1) || inW t r
def AJ (K:Nat) (ds:List (Option Nat)):List (Pos × Nat)→Bool
 | []=>true
 | p::r=>(match findD (p.1.nat - 1) ds 0 with | some i=>Nat.beq i p.2 | none=>false) && K.testBit (p.1.nat - 1) && AJ K ds r
def tZ (K:Nat) (wb:List (Pos × Nat)):List (Option Nat)→Bool
 | []=>true
 | none::r=>tZ K wb r
 | some t::r=>(!K.testBit t || inW t wb) && tZ K wb r
theorem BZ {t:Nat}:∀ {wb:List (Pos × Nat)},inW t wb=true→∃ p∈wb,p.1.nat=t + 1
 | [],h=>by cases h
 | p::r,h=>by
  simp only [inW,Bool.or_eq_true] at h;rcases h with h | h
  ·exact ⟨p,by simp,Nat.eq_of_beq_eq_true h⟩
  obtain ⟨q,h1,h2⟩:=BZ h;exact ⟨q,by simp [h1],h2⟩
theorem sY {K:Nat} {ds:List (Option Nat)}:∀ {wb:List (Pos × Nat)},AJ K ds wb=true→∀ p∈wb,findD (p.1.nat - 1) ds 0=some p.2∧K.testBit (p.1.nat - 1)=true
 | [],_,p,hp=>by cases hp
 | q::r,h,p,hp=>by
  simp only [AJ,Bool.and_eq_true] at h;rcases List.mem_cons.1 hp with rfl | hp
  ·have h1:=h.1.1;split at h1
   ·rename_i i hi;rw [hi,Nat.eq_of_beq_eq_true h1]; exact ⟨rfl,h.1.2⟩
   cases h1
  exact sY h.2 p hp
theorem nE {K:Nat} {wb:List (Pos × Nat)}:∀ {ds:List (Option Nat)},tZ K wb ds=true→∀ t,some t∈ds→K.testBit t=true→inW t wb=true
 | [],_,t,ht,_=>by cases ht
 | none::r,h,t,ht,hk=>nE (ds:=r) h t (by simpa using ht) hk
 | some u::r,h,t,ht,hk=>by
  simp only [tZ,Bool.and_eq_true,Bool.or_eq_true,Bool.not_eq_true'] at h;rcases List.mem_cons.1 ht with e | ht
  ·injection e with e; subst e;rcases h.1 with h1 | h1
   ·rw [hk] at h1; cases h1
   exact h1
  exact nE h.2 t ht hk
theorem AW {env:List SV}:∀ {wb:List (Pos × Nat)} {fr fr':T SV},wbs wb env fr=some fr'→∀ p,(∃ i v,(p,i)∈wb∧nth env i=some v∧T.get p fr'=some v)∨((∀ i,(p,i)∉wb)∧T.get p fr'=T.get p fr)
 | [],fr,fr',h,p=>by
  have h':some fr=some fr':=h;injection h' with h'; subst h'; exact .inr ⟨fun i hi=>(by cases hi),rfl⟩
 | (q,j)::r,fr,fr',h,p=>by
  have h':Option.rec (motive:=fun _=>Option (T SV)) none (fun v=>wbs r env (T.put q (some v) fr)) (nth env j)=some fr':=h;cases hn:nth env j with
  | none=>rw [hn] at h'; cases h'
  | some v =>
   rw [hn] at h';rcases AW (wb:=r) h' p with ⟨i,u,h1,h2,h3⟩ | ⟨h1,h2⟩
   ·exact .inl ⟨i,u,by simp [h1],h2,h3⟩
   by_cases e:p=q
   ·subst e;exact .inl ⟨j,v,by simp,hn,by rw [h2,EV.T.eS]⟩
   refine .inr ⟨fun i hi=>?_,by rw [h2,EV.T.bO _ q p fr e]⟩;rcases List.mem_cons.1 hi with e' | hi
   ·injection e' with e1 e2; exact e e1
   exact h1 i hi
theorem AX:∀ {wb:List (Pos × Nat)} {fr:T SV} (p:Pos),((∃ i,(p,i)∈wb)∧T.get p (D0 wb fr)=none)∨((∀ i,(p,i)∉wb)∧T.get p (D0 wb fr)=T.get p fr)
 | [],fr,p=>.inr ⟨fun i hi=>(by cases hi),rfl⟩
 | (q,j)::r,fr,p=>by
  have h':D0 ((q,j)::r) fr=D0 r (T.put q none fr):=rfl;rw [h'];rcases AX (wb:=r) (fr:=T.put q none fr) p with ⟨⟨i,h1⟩,h2⟩ | ⟨h1,h2⟩
  ·exact .inl ⟨⟨i,by simp [h1]⟩,h2⟩
  by_cases e:p=q
  ·subst e;exact .inl ⟨⟨j,by simp⟩,by rw [h2,EV.T.eS]⟩
  refine .inr ⟨fun i hi=>?_,by rw [h2,EV.T.bO _ q p fr e]⟩;rcases List.mem_cons.1 hi with e' | hi
  ·injection e' with e1 e2; exact e e1
  exact h1 i hi
def Kept (K:Nat) (fr:T SV):Prop:=∀ p v,T.get p fr=some v→K.testBit (p.nat - 1)=true
section
variable {g:G} {K:Nat} {ds:List (Option Nat)} {wb:List (Pos × Nat)} {env:List SV} {fr fr':T SV} {tm:Array Value}
theorem BL (p:Pos):p.nat=p.nat - 1 + 1:=by have:=Pos.gR p; omega
theorem KN (hk:Kept K fr) (h1:AJ K ds wb=true) (h2:tZ K wb ds=true) (hE:Env g ds env fr tm) (h:wbs wb env fr=some fr'):C0 g fr' tm∧Kept K fr':=by
 refine ⟨fun p v hg=>?_,fun p v hg=>?_⟩
 ·rcases AW h p with ⟨i,u,k1,k2,k3⟩ | ⟨k1,k2⟩
  ·rw [k3] at hg; injection hg with hg; subst hg;obtain ⟨v',x,e1,e2,e3⟩:=hE.hit _ _ (sY h1 _ k1).1;rw [k2] at e1; injection e1 with e1; subst e1;exact ⟨x,e2,e3⟩
  rw [k2] at hg;cases hfd:findD (p.nat - 1) ds 0 with
  | none=>exact hE.old _ hfd p v (BL p) hg
  | some i =>
   exfalso;have hmem:some (p.nat - 1)∈ds:=by
    refine Classical.not_not.1 (fun hn=>?_);rw [oV.2 hn] at hfd; cases hfd
   obtain ⟨q,hq,hqn⟩:=BZ (nE h2 _ hmem (hk p v hg));have:=eE (hqn.trans (BL p).symm); subst this;exact k1 q.2 hq
 rcases AW h p with ⟨i,u,k1,k2,k3⟩ | ⟨k1,k2⟩
 ·exact (sY h1 _ k1).2
 rw [k2] at hg; exact hk p v hg
theorem KO {tm':Array Value} (hk:Kept K fr) (h2:tZ K wb ds=true) (hF:C0 g fr tm) (hsame:∀ t,some t∉ds→tm'[t]?=tm[t]?):C0 g (D0 wb fr) tm'∧Kept K (D0 wb fr):=by
 refine ⟨fun p v hg=>?_,fun p v hg=>?_⟩
 ·rcases AX (wb:=wb) (fr:=fr) p with ⟨⟨i,k1⟩,k2⟩ | ⟨k1,k2⟩
  ·rw [k2] at hg; cases hg
  rw [k2] at hg;obtain ⟨x,e1,e2⟩:=hF p v hg;refine ⟨x,e1,?_⟩;rw [hsame]
  ·exact e2
  intro hmem;obtain ⟨q,hq,hqn⟩:=BZ (nE h2 _ hmem (hk p v hg));have:=eE (hqn.trans (BL p).symm); subst this;exact k1 q.2 hq
 rcases AX (wb:=wb) (fr:=fr) p with ⟨_,k2⟩ | ⟨k1,k2⟩
 ·rw [k2] at hg; cases hg
 rw [k2] at hg; exact hk p v hg
end
end
noncomputable section
def fP:CO→Bool
 | .v _ _ _=>false
 | _=>true
def mA:CO→Bool
 | .fl _ _=>true
 | .fb _ _ _ _ _ _=>true
 | _=>false
structure St where
 me:T Ob
 nx:Pos
 dl:List SV
def CW (cs:List CO) (j k:Nat):Nat:=((cs.drop j).take (k - j)).countP fP
theorem jD (hh:∀ x y,eqA x y=true→x=y):∀ {l m:List SV},allA l m=true→l=m
 | [],[],_=>rfl
 | x::l,y::m,h=>by
  have h':(and (eqA x y) (allA l m))=true:=h;simp only [Bool.and_eq_true] at h';rw [hh x y h'.1,jD hh h'.2]
 | [],_::_,h=>by cases h
 | _::_,[],h=>by cases h
theorem YE {a b:Int} (h:ieq a b=true):a=b:=by rw [jK] at h; simpa using h
theorem aBs {n v m w:Nat} (h:EV.seq n v m w=true):n=m∧v=w:=by
 unfold EV.seq at h;cases hb:Nat.beq n m with
 | false=>rw [hb] at h; cases h
 | true=>rw [hb] at h; exact ⟨Nat.eq_of_beq_eq_true hb,Nat.eq_of_beq_eq_true h⟩
theorem lB:∀ x y,eqA x y=true→x=y:=by
 intro x y h;unfold eqA at h;split at h
 ·simp only [Bool.and_eq_true] at h; rw [dO h.1,YE h.2]
 ·rename_i x y; cases x <;> cases y <;> first | rfl | cases h
 ·obtain ⟨h1,h2⟩:=aBs h; rw [h1,h2]
 ·simp only [Bool.and_eq_true] at h; rw [eE (Nat.eq_of_beq_eq_true h.1),Nat.eq_of_beq_eq_true h.2]
 ·rfl
 ·simp only [Bool.and_eq_true] at h; rw [eE (Nat.eq_of_beq_eq_true h.1),Nat.eq_of_beq_eq_true h.2.1,Nat.eq_of_beq_eq_true h.2.2.1,Nat.eq_of_beq_eq_true h.2.2.2]
 ·simp only [Bool.and_eq_true] at h; rw [eE (Nat.eq_of_beq_eq_true h.1),Nat.eq_of_beq_eq_true h.2]
 ·rfl
 ·rw [eE (Nat.eq_of_beq_eq_true h)]
 ·rfl
 ·rfl
 ·rfl
 cases h
theorem same_eq {x y:SV} (h:same x y=true):x=y:=by
 unfold same at h;split at h
 ·rw [jD lB h]
 exact lB _ _ h
theorem NW:∀ {l m:List SV},aGe l m=true→l=m
 | [],[],_=>rfl
 | x::l,y::m,h=>by
  have h':(and (same x y) (aGe l m))=true:=h;simp only [Bool.and_eq_true] at h';rw [same_eq h'.1,NW h'.2]
 | [],_::_,h=>by cases h
 | _::_,[],h=>by cases h
theorem TU {x y:SV} (h:KZ x y=true):x=y:=by
 unfold KZ at h;split at h
 ·rw [NW h]
 exact same_eq h
theorem yT {lk:LK} {o:V} {v:SV}:∀ {b:Nat} {ms:List (T Ob)},vals lk o v b ms=true→∀ q m,q < b→ms[q]?=some m→val lk m o=some v
 | 0,_,_,q,m,hq,_=>by omega
 | b + 1,[],_,q,m,_,hm=>by simp at hm
 | b + 1,m0::r,h,q,m,hq,hm=>by
  have h':Option.rec (motive:=fun _=>Bool) false (fun w=>and (KZ v w) (vals lk o v b r)) (val lk m0 o)=true:=h;cases hv:val lk m0 o with
  | none=>rw [hv] at h'; cases h'
  | some w =>
   rw [hv] at h';simp only [Bool.and_eq_true] at h';cases q with
   | zero=>simp at hm; subst hm; rw [hv,TU h'.1]
   | succ q=>exact yT h'.2 q m (by omega) (by simpa using hm)
section
variable {cl:CL} {fr:T SV}
theorem uP {lk : LK} {me me' : T Ob} {nx nx' : Pos} {dl bG : List SV} {g : Option (O × Bool)} {o : V} {b : Nat} {v : SV} (h : step1 cl lk me nx dl (.v g o b) = .ok v me' nx' bG) :
    me' = me ∧ nx' = nx ∧ bG = dl ∧ (gd lk g = some true → val lk me o = some v) := by
  obtain ⟨t, ht, hr⟩ := gE (P' := fun _ => True) h (by intro e; cases e)
  cases t with
  | false =>
    simp only [cond_false] at hr
    injection IL hr with h1 h2 h3 h4
    exact ⟨h2.symm, h3.symm, h4.symm, fun e => by have ht' : gd lk g = some false := ht
                                                  rw [ht'] at e; cases e⟩
  | true =>
    simp only [cond_true] at hr
    have hr' : Option.rec (motive := fun _ => R1) .no (fun v => .ok v me nx dl) (val lk me o) = R1.ok v me' nx' bG := hr
    cases hv : val lk me o with
    | none => rw [hv] at hr'; cases hr'
    | some u =>
      rw [hv] at hr'
      injection hr' with h1 h2 h3 h4
      exact ⟨h2.symm, h3.symm, h4.symm, fun _ => by rw [h1]⟩
structure Trc (cl:CL) (fr:T SV) (cs:List CO) (env:List SV) (s0:St) (vs:List SV) (ss:List St):Prop where
 len:ss.length=vs.length + 1
 le:vs.length≤cs.length
 zero:ss[0]?=some s0
 step:∀ j c v s s',cs[j]?=some c→vs[j]?=some v→ss[j]?=some s→ss[j + 1]?=some s'→step1 cl (on fr ((vs.take j).reverse++env)) s.me s.nx s.dl c=.ok v s'.me s'.nx s'.dl
 read:∀ j v g o b,cs[j]?=some (.v g o b)→vs[j]?=some v→gd (on fr ((vs.take j).reverse++env)) g=some true→∀ k s,j≤k→k≤vs.length→CW cs j k≤b→ss[k]?=some s→val (on fr ((vs.take j).reverse++env)) s.me o=some v
def Ends (cl:CL) (fr:T SV) (cs:List CO) (env:List SV) (vs:List SV) (ss:List St):RD→Prop
 | .no=>False
 | .ok env' me' nx' bG _=>vs.length=cs.length∧env'=vs.reverse++env∧ss[vs.length]?=some ⟨me',nx',bG⟩
 | .dL e me' nx' bG _=>∃ c s,cs[vs.length]?=some c∧ss[vs.length]?=some s∧step1 cl (on fr (vs.reverse++env)) s.me s.nx s.dl c=.dL e me' nx' bG
theorem EM (cs:List CO) (k:Nat) (c:CO):CW (c::cs) 0 (k + 1)=(if fP c then 1 else 0) + CW cs 0 k:=by
 simp [CW,List.countP_cons,Nat.add_comm]
theorem WK (cs:List CO) (j k:Nat) (c:CO):CW (c::cs) (j + 1) (k + 1)=CW cs j k:=by simp [CW]
theorem WL (cs:List CO) (j:Nat):CW cs j j=0:=by simp [CW]
theorem O4 (m:T Ob) {r:RD} (h:r≠.no):(push m r).ms=m::r.ms:=by
 cases r with
 | no=>exact (h rfl).elim
 | ok=>rfl
 | dL=>rfl
theorem H1 {m:T Ob} {r:RD} (h:push m r≠.no):r≠.no:=by
 intro e; subst e; exact h rfl
theorem PD {m:T Ob} {r:RD} {cs:List CO} {env vs:List SV} {ss:List St} (h:Ends cl fr cs env vs ss r):Ends cl fr cs env vs ss (push m r):=by
 cases r with
 | no=>exact h
 | ok=>exact h
 | dL=>exact h
theorem V0 {b:Bool} {r r':RD} (h:(bif b then r else .no)=r') (hr:r'≠.no):b=true∧r=r':=by
 cases b with
 | false=>exact (hr h.symm).elim
 | true=>exact ⟨rfl,h⟩
def Msx (cs:List CO) (s0:St) (vs:List SV) (ss:List St) (r:RD):Prop:=∀ k s,k≤vs.length→ss[k]?=some s→(CW cs 0 k=0→s.me=s0.me)∧(∀ q,CW cs 0 k=q + 1→(r.ms)[q]?=some s.me)
theorem xA:∀ (cs:List CO) (env:List SV) (s0:St) (r:RD),kF cl fr cs env s0.me s0.nx s0.dl=r→r≠.no →
  ∃ vs ss,Trc cl fr cs env s0 vs ss∧Ends cl fr cs env vs ss r∧Msx cs s0 vs ss r
 | [],env,s0,r,h,hr=>by
  have h':RD.ok env s0.me s0.nx s0.dl []=r:=h;subst h';refine ⟨[],[s0],⟨rfl,Nat.le_refl _,rfl,fun j c v s s' hc=>(by simp at hc),fun j v g o b hc=>(by simp at hc)⟩,⟨rfl,rfl,rfl⟩,?_⟩;intro k s hk hs;have:k=0:=by simpa using hk
  subst this;simp at hs; subst hs;exact ⟨fun _=>rfl,fun q hq=>by simp [CW] at hq⟩
 | c::cs,env,s0,r,h,hr=>by
  have h':R1.rec (motive:=fun _=>RD) .no (fun v me' nx' ds'=>fin (on fr env) c v me' (kF cl fr cs (v::env) me' nx' ds')) (fun e me nx ds=>.dL e me nx ds []) (step1 cl (on fr env) s0.me s0.nx s0.dl c)=r:=h;cases hs:step1 cl (on fr env) s0.me s0.nx s0.dl c with
  | no=>rw [hs] at h'; exact (hr h'.symm).elim
  | dL e me nx ds =>
   rw [hs] at h';have h2:RD.dL e me nx ds []=r:=h';subst h2;refine ⟨[],[s0],⟨rfl,by simp,rfl,fun j c v s s' hc hv=>(by simp at hv),fun j v g o b hc hv=>(by simp at hv)⟩,⟨c,s0,rfl,rfl,by simpa using hs⟩,?_⟩;intro k s hk hs;have:k=0:=by simpa using hk
   subst this;simp at hs; subst hs;exact ⟨fun _=>rfl,fun q hq=>by simp [CW] at hq⟩
  | ok v eQ eV fC =>
   rw [hs] at h';dsimp only at h';have key:∃ r1,kF cl fr cs (v::env) eQ eV fC=r1∧r1≠.no∧(∀ vs ss,Ends cl fr cs (v::env) vs ss r1→Ends cl fr cs (v::env) vs ss r)∧r.ms=(if fP c then eQ::r1.ms else r1.ms) ∧
     (∀ g o b,c=.v g o b→gd (on fr env) g=some true→∀ q m,q < b→(r1.ms)[q]?=some m→val (on fr env) m o=some v):=by
    refine ⟨_,rfl,?_⟩;cases c with
    | v g o b =>
     have h2:(match (generalizing:=false) b with
      | 0=>kF cl fr cs (v::env) eQ eV fC
      | b=>Option.rec (motive:=fun _=>RD) .no (fun t=>bif t then (bif vals (on fr env) o v b (RD.ms (kF cl fr cs (v::env) eQ eV fC)) then kF cl fr cs (v::env) eQ eV fC else .no) else kF cl fr cs (v::env) eQ eV fC) (gd (on fr env) g))=r:=h'
     cases b with
     | zero =>
      have h3:kF cl fr cs (v::env) eQ eV fC=r:=h2;rw [h3];exact ⟨hr,fun vs ss h=>h,rfl,fun g o b e hg q m hq=>by injection e with e1 e2 e3; subst e3; omega⟩
     | succ b =>
      have h3:Option.rec (motive:=fun _=>RD) .no (fun t=>bif t then (bif vals (on fr env) o v (b + 1) (RD.ms (kF cl fr cs (v::env) eQ eV fC)) then kF cl fr cs (v::env) eQ eV fC else .no) else kF cl fr cs (v::env) eQ eV fC) (gd (on fr env) g)=r:=h2;cases hg:gd (on fr env) g with
      | none=>rw [hg] at h3; exact (hr h3.symm).elim
      | some t =>
       rw [hg] at h3;cases t with
       | false =>
        have h4:kF cl fr cs (v::env) eQ eV fC=r:=h3;rw [h4];exact ⟨hr,fun vs ss h=>h,rfl,fun g' o' b' e hg' q m hq=>by injection e with e1 e2 e3; subst e1; rw [hg] at hg'; cases hg'⟩
       | true =>
        obtain ⟨h4,h5⟩:=V0 (show (bif vals (on fr env) o v (b + 1) (RD.ms (kF cl fr cs (v::env) eQ eV fC)) then kF cl fr cs (v::env) eQ eV fC else .no)=r from h3) hr;rw [h5] at h4 ⊢;exact ⟨hr,fun vs ss h=>h,rfl,fun g' o' b' e hg' q m hq hm=>by injection e with e1 e2 e3; subst e2; subst e3; exact yT h4 q m hq hm⟩
    | _ =>
     have h2:push eQ (kF cl fr cs (v::env) eQ eV fC)=r:=h';have h3:=H1 (h2 ▸ hr);refine ⟨h3,fun vs ss h=>h2 ▸ PD h,by rw [← h2,O4 _ h3]; rfl,fun g' o' b' e=>by cases e⟩
   obtain ⟨r1,k1,k2,k3,k4,k5⟩:=key;obtain ⟨vs,ss,t1,t2,t3⟩:=xA cs (v::env) ⟨eQ,eV,fC⟩ r1 k1 k2;have aLc:∀ j,((v::vs).take (j + 1)).reverse++env=(vs.take j).reverse++(v::env):=fun j=>by simp
   refine ⟨v::vs,s0::ss,⟨by simp [t1.len],by simp [t1.le],rfl,?_,?_⟩,?_,?_⟩
   ·intro j c' v' s s' hc hv hss QZ;cases j with
    | zero =>
     simp at hc hv hss; subst hc; subst hv; subst hss;have:ss[0]?=some s':=by simpa using QZ
     rw [t1.zero] at this; injection this with this; subst this;simpa using hs
    | succ j =>
     rw [aLc j];exact t1.step j c' v' s s' (by simpa using hc) (by simpa using hv) (by simpa using hss) (by simpa using QZ)
   ·intro j v' g o b hc hv hg k s hjk hk hn hss;cases j with
    | zero =>
     simp at hc hv; subst hc; subst hv;have hg0:gd (on fr env) g=some true:=by simpa using hg
     obtain ⟨e1,e2,e3,e4⟩:=uP hs;cases k with
     | zero=>simp at hss; subst hss; simpa using e4 hg0
     | succ k =>
      rw [EM] at hn;simp only [fP,Bool.false_eq_true,if_false,Nat.zero_add] at hn;have QZ:ss[k]?=some s:=by simpa using hss
      obtain ⟨m1,m2⟩:=t3 k s (by simpa using hk) QZ;cases hq:CW cs 0 k with
      | zero =>
       have:=m1 hq;simp only at this;rw [this,e1]; simpa using e4 hg0
      | succ q=>simpa using k5 g o b rfl hg0 q s.me (by omega) (m2 q hq)
    | succ j =>
     rw [aLc j] at hg ⊢;cases k with
     | zero=>omega
     | succ k =>
      rw [WK] at hn;exact t1.read j v' g o b (by simpa using hc) (by simpa using hv) hg k s (by omega) (by simpa using hk) hn (by simpa using hss)
   ·have:=k3 vs ss t2;cases r with
    | no=>exact this
    | ok env' me' nx' bG ms =>
     obtain ⟨a1,a2,a3⟩:=this;exact ⟨by simp [a1],by rw [a2]; simp,by simpa using a3⟩
    | dL e me' nx' bG ms =>
     obtain ⟨c',s,a1,a2,a3⟩:=this;refine ⟨c',s,by simpa using a1,by simpa using a2,?_⟩;rw [show (v::vs).reverse++env=vs.reverse++(v::env) by simp]; exact a3
   intro k s hk hss;cases k with
   | zero =>
    simp at hss; subst hss;exact ⟨fun _=>rfl,fun q hq=>by simp [CW] at hq⟩
   | succ k =>
    have QZ:ss[k]?=some s:=by simpa using hss
    obtain ⟨m1,m2⟩:=t3 k s (by simpa using hk) QZ;rw [EM,k4];cases hev:fP c with
    | false =>
     simp only [Bool.false_eq_true,if_false,Nat.zero_add];refine ⟨fun hz=>?_,m2⟩;rw [m1 hz];cases c with
     | v g o b=>exact (uP hs).1
     | _=>cases hev
    | true =>
     simp only [if_true];refine ⟨fun hz=>by omega,fun q hq=>?_⟩;cases q with
     | zero=>rw [m1 (by omega)]; rfl
     | succ q=>simpa using m2 q (by omega)
end
end
noncomputable section
def aDv:V→Bool
 | .ld _=>true
 | .eH _ _=>true
 | .cvs _=>true
 | .lk _ _ _ _ _=>true
 | .ln .m _=>true
 | _=>false
theorem TB {lk:LK} {o:V} {me me':T Ob} (h:aDv o=false):val lk me o=val lk me' o:=by
 cases o with
 | ln k x =>
  cases k with
  | m=>cases h
  | _ =>
   show ob (lk x) (fun v=>XG me _ v)=ob (lk x) (fun v=>XG me' _ v);congr 1 <;> (funext v; cases v <;> rfl)
 | _=>first | rfl | (cases h; done)
def ask:List (Nat × Nat)→Nat→Nat
 | [],_=>0
 | p::r,i=>bif Nat.beq p.1 i then p.2 else ask r i
def rQ (M:List (Nat × Nat)):List Edge→Nat
 | []=>0
 | e::r=>bif Region.binds .any e then (2 ^ e.on ||| ask M e.on) ||| rQ M r else rQ M r
def aAa (L:List Oper) (M:List (Nat × Nat)) (i:Nat):Nat:=match L[i]? with
 | some o=>rQ M o.after.toList
 | none=>0
def masks (L:List Oper):List Nat→List (Nat × Nat)→List (Nat × Nat)
 | [],M=>M
 | i::r,M=>masks L r ((i,aAa L M i)::M)
def CQ (L:List Oper) (M:List (Nat × Nat)):Prop:=∀ i t,(ask M i).testBit t=true→∀ (lst:Nat→Prop),(∀ j o,L[j]?=some o→lst j→∀ e∈o.after.toList,Region.binds .any e=true→lst e.on) →
 (∀ o,L[i]?=some o→∀ e∈o.after.toList,Region.binds .any e=true→lst e.on)→lst t
theorem oM {M:List (Nat × Nat)} {t:Nat}:∀ {es:List Edge},(rQ M es).testBit t=true→∃ e∈es,Region.binds .any e=true∧(t=e.on∨(ask M e.on).testBit t=true)
 | [],h=>by simp [rQ] at h
 | e::r,h=>by
  simp only [rQ] at h;cases hb:Region.binds .any e with
  | false =>
   rw [hb] at h;obtain ⟨e',h1,h2⟩:=oM (es:=r) h;exact ⟨e',by simp [h1],h2⟩
  | true =>
   rw [hb] at h;simp only [cond_true,Nat.testBit_or,Bool.or_eq_true] at h;rcases h with (h | h) | h
   ·refine ⟨e,by simp,hb,.inl ?_⟩;rw [Nat.testBit_two_pow] at h;exact (of_decide_eq_true h).symm
   ·exact ⟨e,by simp,hb,.inr h⟩
   obtain ⟨e',h1,h2⟩:=oM (es:=r) h;exact ⟨e',by simp [h1],h2⟩
theorem qA {L:List Oper}:∀ {pm:List Nat} {M:List (Nat × Nat)},CQ L M→CQ L (masks L pm M)
 | [],M,h=>h
 | i::r,M,h=>by
  refine qA (pm:=r) ?_;intro j t ht lst hcl hsrc;simp only [ask] at ht;cases hb:Nat.beq i j with
  | false=>rw [hb] at ht; exact h j t ht lst hcl hsrc
  | true =>
   rw [hb] at ht;have:=Nat.eq_of_beq_eq_true hb; subst this;simp only [cond_true,aAa] at ht;cases ho:L[i]? with
   | none=>rw [ho] at ht; simp at ht
   | some o =>
    rw [ho] at ht;obtain ⟨e,h1,h2,h3⟩:=oM ht;have hl:=hsrc o ho e h1 h2;rcases h3 with rfl | h3
    ·exact hl
    exact h e.on t h3 lst hcl (fun o' ho'=>hcl e.on o' ho' hl)
theorem IS (L:List Oper):CQ L []:=fun i t h=>by simp [ask] at h
def LQ (M:List (Nat × Nat)) (i t:Nat):List Oper→Nat→Bool
 | [],_=>true
 | o::r,u=>(!BY o.dst t || (ask M u).testBit i) && LQ M i t r (u + 1)
theorem wB {M:List (Nat × Nat)} {i t:Nat}:∀ {L:List Oper} {k:Nat},LQ M i t L k=true→∀ u o,L[u]?=some o→o.dst=some t→(ask M (k + u)).testBit i=true
 | [],k,_,u,o,h,_=>by simp at h
 | o'::r,k,hc,u,o,h,hd=>by
  simp only [LQ,Bool.and_eq_true,Bool.or_eq_true,Bool.not_eq_true'] at hc;cases u with
  | zero =>
   simp at h; subst h;rcases hc.1 with h1 | h1
   ·rw [jJ.2 hd] at h1; cases h1
   simpa using h1
  | succ u =>
   have:=wB hc.2 u o (by simpa using h) hd
   rwa [show k + 1 + u=k + (u + 1) by omega] at this
def oqD (L:List Oper) (M:List (Nat × Nat)) (pre:List (Nat × CO)) (i m:Nat) (s:Bool):O→Operand→Bool
 | .l q,.tmp t=>(match pre[q]? with
  | some (src,c)=>(match L[src]? with | some o=>BY o.dst t | none=>false) && m.testBit src && (!mA c || s)
  | none=>false)
 | .t p,.tmp t=>Nat.beq p.nat (t + 1) && LQ M i t L 0
 | .c (.g b 0),.global b'=>Nat.beq b b'
 | .c (.f p [] []),.func f=>Nat.beq p.nat (f + 1)
 | .c v,.const u=>cq v u
 | _,_=>false
def gqD (L:List Oper) (pre:List (Nat × CO)) (m:Nat):Option (Nat × Bool)→Option (O × Bool)→Bool
 | none,none=>true
 | some (j,w),some (.l q,w')=>(w == w') && (match pre[q]? with
  | some (src,c)=>Nat.beq src j && m.testBit src && !mA c && (match L[src]? with | some o=>o.dst.isSome | none=>false)
  | none=>false)
 | _,_=>false
def yM:Nat→List (Nat × CO)→Option Nat
 | _,[]=>none
 | b,(i,c)::r=>if fP c then (match b with | 0=>some i | b + 1=>yM b r) else yM b r
def BU (m:Nat):List (Nat × CO)→Bool
 | []=>true
 | (i,c)::r=>if fP c && !mA c then m.testBit i else BU m r
def dP (m:Nat) (pre:List (Nat × CO)):Bool:=pre.all fun q=>!fP q.2 || m.testBit q.1
def CK (pre:List (Nat × CO)) (es:List Edge):Bool:=es.all fun e=>!Region.binds .any e || pre.any (fun q=>Nat.beq q.1 e.on)
def ZE (L:List Oper) (pre:List (Nat × CO)) (d:Option Nat):Bool:=match d with
 | none=>true
 | some t=>pre.all fun q=>match L[q.1]? with
  | some o=>!BY o.dst t
  | none=>true
def kindOk (M:List (Nat × Nat)) (i m:Nat) (s:Bool) (o:Oper) (pre rest:List (Nat × CO)):CO→Bool
 | .v _ v b=>(!aDv v || (s && (match yM b rest with | some e=>(ask M e).testBit i | none=>true))) && BU m pre
 | .fl _ _=>o.dst.isSome
 | .fb _ _ _ _ _ _=>o.dst.isSome
 | _=>s
def V4 (F:FT) (N:Nat) (L:List Oper) (M:List (Nat × Nat)) (pre:List (Nat × CO)) (i:Nat) (c:CO) (rest:List (Nat × CO)):Bool:=match L[i]? with
 | none=>false
 | some o=>CK pre o.after.toList && !(pre.any fun q=>Nat.beq q.1 i) && gqD L pre (ask M i) o.guard (RG c) && mH F (oqD L M pre i (ask M i) (dP (ask M i) pre)) o c && RS N o.dst && ZE L pre o.dst && kindOk M i (ask M i) (dP (ask M i) pre) o pre rest c
def V1 (F:FT) (N:Nat) (L:List Oper) (M:List (Nat × Nat)):List (Nat × CO)→List (Nat × CO)→Bool
 | _,[]=>true
 | pre,(i,c)::rest=>V4 F N L M pre i c rest && V1 F N L M ((i,c)::pre) rest
def cover (pm:List Nat):Nat→Bool
 | 0=>true
 | n + 1=>pm.any (fun i=>Nat.beq i n) && cover pm n
def aFw (F:FT) (N:Nat) (L:List Oper) (pm:List Nat) (cs:List CO):Bool:=Nat.beq pm.length cs.length && V1 F N L (masks L pm []) [] (pm.zip cs) && cover pm L.length
theorem AK {F:FT} {N:Nat} {L:List Oper} {M:List (Nat × Nat)}:∀ {rest pre:List (Nat × CO)},V1 F N L M pre rest=true→∀ j i c,rest[j]?=some (i,c)→V4 F N L M ((rest.take j).reverse++pre) i c (rest.drop (j + 1))=true
 | [],pre,_,j,i,c,h=>by simp at h
 | (i',c')::rest,pre,hc,j,i,c,h=>by
  simp only [V1,Bool.and_eq_true] at hc;cases j with
  | zero=>simp at h; obtain ⟨rfl,rfl⟩:=h; simpa using hc.1
  | succ j =>
   have:=AK hc.2 j i c (by simpa using h);simpa using this
theorem xH {pm:List Nat}:∀ {n i:Nat},cover pm n=true→i < n→i∈pm
 | 0,i,_,h=>by omega
 | n + 1,i,hc,h=>by
  simp only [cover,Bool.and_eq_true] at hc
  by_cases e:i=n
  ·subst e;obtain ⟨x,h1,h2⟩:=List.any_eq_true.1 hc.1;have:=Nat.eq_of_beq_eq_true h2; subst this; exact h1
  exact xH hc.2 (by omega)
def gA (listed:Array Bool) (i:Nat):Prop:=listed.getD i false=true
theorem bZ {listed:Array Bool} {i j:Nat} (hi:i < listed.size):gA (listed.setIfInBounds i true) j↔j=i∨gA listed j:=by
 unfold gA
 by_cases e:i=j
 ·subst e; simp [hi]
 rw [getD_set_ne false e]; exact ⟨.inr,fun h=>h.resolve_left (Ne.symm e)⟩
def zJ (pl:List (Nat × CO)) (ss:List St) (q:Nat × Nat):aA:=match pl[q.1]? with
 | some (_,.fl t z)=>lD fun xs:List Value=>(Fact (∀ g,aF (aE g) z=some xs)).both (Bk q.2 t xs)
 | some (_,.fb _ t z n _ _)=>lD fun xs:List Value=>(Fact (∃ s s' l,ss[q.1]?=some s∧ss[q.1 + 1]?=some s'∧T.get s.nx s'.me=some (.r t z l)∧∀ g,aF (aE g) l=some xs)).both (Rw t z (.slice (some ⟨q.2,0,none⟩) n n) n xs)
 | _=>Fact True
def aHr (c:CO) (b:Nat):Value:=match c with
 | .fb _ _ _ n _ _=>.slice (some ⟨b,0,none⟩) n n
 | _=>.pointer (some ⟨b,0,none⟩)
structure Dr (P:Program) (W0:World) (F:FT) (N:Nat) (aG:Array Oper) (M:List (Nat × Nat)) (pl:List (Nat × CO)) (cl:CL) (fr:T SV) (g0:G) (cW:Array Value) (s0:St) (vs:List SV) (ss:List St):Prop where
 hcl:pE P W0 cl
 hF:F.Ok P W0
 chk:∀ j i c,pl[j]?=some (i,c)→V4 F N aG.toList M (pl.take j).reverse i c (pl.drop (j + 1))=true
 msk:CQ aG.toList M
 cov:∀ i,i < aG.size→∃ (j:Nat) (c:CO),pl[j]?=some (i,c)
 KU:Trc cl fr (pl.map (·.2)) [] s0 vs ss
 fbk:vs.length=pl.length∨∀ (j i:Nat) (c:CO),pl[j]?=some (i,c)→JD c=false
 YS:C0 g0 fr cW
 fr0:g0.fresh s0.nx
structure Inv (N:Nat) (aG:Array Oper) (pl:List (Nat × CO)) (W0:World) (R:List aA) (g0:G) (cW:Array Value) (s0:St) (vs:List SV) (ss:List St) (k:Nat) (g:G) (PL:List (Nat × Nat)) (listed:Array Bool) (a:Act) (w:World):Prop where
 fS:listed.size=aG.size
 cls:Closed aG listed
 kle:k≤vs.length
 st:∃ s,ss[k]?=some s∧g.fresh s.nx∧s0.nx.nat≤s.nx.nat∧yN g s.dl a.defers∧aB W0 w (mem g s.me++(PL.map (zJ pl ss)++R))
 ext:g0.ext g s0.nx
 size:a.tmps.size=N
 T7:∀ j i c,pl[j]?=some (i,c)→fP c=true→j < k→gA listed i
 B8:∀ j i c,pl[j]?=some (i,c)→fP c=true→mA c=false→gA listed i→j < k
 vl:∀ j i c o v,pl[j]?=some (i,c)→vs[j]?=some v→gA listed i→(mA c=true→j < k)→aG[i]?=some o→∃ x,den g v=some x∧∀ d,o.dst=some d→a.tmps[d]?=some x
 vlt:∀ j i c,pl[j]?=some (i,c)→gA listed i→mA c=false→j < vs.length
 Y3:∀ j i c o,pl[j]?=some (i,c)→mA c=true→gA listed i→k≤j→aG[i]?=some o→∃ b,(j,b)∈PL∧∀ d,o.dst=some d→a.tmps[d]?=some (aHr c b)
 old:∀ t,(∀ i o,aG[i]?=some o→o.dst=some t→¬ gA listed i)→a.tmps[t]?=cW[t]?
section
variable {P:Program} {F:FT} {N:Nat} {aG:Array Oper} {M:List (Nat × Nat)} {pl:List (Nat × CO)} {cl:CL} {fr:T SV} {g0 g:G} {cW:Array Value} {s0:St} {vs:List SV} {ss:List St} {W0 w:World} {R:List aA} {k:Nat} {PL:List (Nat × Nat)} {listed:Array Bool} {a:Act}
structure aNl (F:FT) (N:Nat) (aG:Array Oper) (M:List (Nat × Nat)) (pl:List (Nat × CO)) (j i:Nat) (c:CO) (o:Oper):Prop where
 op:aG[i]?=some o
 edges:CK (pl.take j).reverse o.after.toList=true
 fresh:((pl.take j).reverse.any fun q=>Nat.beq q.1 i)=false
 RG:gqD aG.toList (pl.take j).reverse (ask M i) o.guard (RG c)=true
 chk:mH F (oqD aG.toList M (pl.take j).reverse i (ask M i) (dP (ask M i) (pl.take j).reverse)) o c=true
 RS:RS N o.dst=true
 dst:ZE aG.toList (pl.take j).reverse o.dst=true
 kind:kindOk M i (ask M i) (dP (ask M i) (pl.take j).reverse) o (pl.take j).reverse (pl.drop (j + 1)) c=true
theorem Dr.pos (D:Dr P W0 F N aG M pl cl fr g0 cW s0 vs ss) {j i:Nat} {c:CO} (h:pl[j]?=some (i,c)):∃ o,aNl F N aG M pl j i c o:=by
 have hc:=D.chk j i c h;unfold V4 at hc;cases ho:aG.toList[i]? with
 | none=>rw [ho] at hc; cases hc
 | some o =>
  rw [ho] at hc;simp only [Bool.and_eq_true,Bool.not_eq_true'] at hc;obtain ⟨⟨⟨⟨⟨⟨h1,h2⟩,h3⟩,h4⟩,h5⟩,h6⟩,h7⟩:=hc;exact ⟨o,by simpa using ho,h1,h2,h3,h4,h5,h6,h7⟩
theorem iA {j p:Nat} {x:Nat × CO} (h:pl[p]?=some x) (hp:p < j):x∈(pl.take j).reverse:=by
 rw [List.mem_reverse];exact List.mem_of_getElem? (i:=p) (by rw [List.getElem?_take_of_lt hp]; exact h)
theorem AZ {j q:Nat} {x:Nat × CO} (h:(pl.take j).reverse[q]?=some x):∃ p,p < j∧pl[p]?=some x∧p + q + 1=min j pl.length:=by
 have hq:q < (pl.take j).reverse.length:=by
  rcases Nat.lt_or_ge q (pl.take j).reverse.length with h' | h'
  ·exact h'
  rw [List.getElem?_eq_none h'] at h; cases h
 have hlen:(pl.take j).reverse.length=min j pl.length:=by simp
 rw [List.getElem?_reverse (by simpa using hq)] at h;simp only [List.length_take] at h;rw [hlen] at hq;rw [List.getElem?_take_of_lt (by omega)] at h;exact ⟨_,by omega,h,by omega⟩
theorem Dr.uniq (D:Dr P W0 F N aG M pl cl fr g0 cW s0 vs ss) {j j' i:Nat} {c c':CO} (h:pl[j]?=some (i,c)) (h':pl[j']?=some (i,c')):j=j':=by
 rcases Nat.lt_trichotomy j j' with hlt | heq | hlt
 ·obtain ⟨o,p⟩:=D.pos h';have:=p.fresh;rw [List.any_eq_false] at this;exact (this _ (iA h hlt) (Nat.beq_refl i)).elim
 ·exact heq
 obtain ⟨o,p⟩:=D.pos h;have:=p.fresh;rw [List.any_eq_false] at this;exact (this _ (iA h' hlt) (Nat.beq_refl i)).elim
theorem Dr.sH (D:Dr P W0 F N aG M pl cl fr g0 cW s0 vs ss) {j j' i i':Nat} {c c':CO} {o o':Oper} (h:pl[j]?=some (i,c)) (h':pl[j']?=some (i',c')) (hj:j≠j') (ho:aG[i]?=some o) (ho':aG[i']?=some o') {d:Nat} (hd:o'.dst=some d):o.dst≠some d:=by
 intro e;have key:∀ {j j' i i':Nat} {c c':CO} {o o':Oper},pl[j]?=some (i,c)→pl[j']?=some (i',c')→j < j'→aG[i]?=some o→aG[i']?=some o'→∀ d,o.dst=some d→o'.dst=some d→False:=by
  intro j j' i i' c c' o o' h h' hlt ho ho' d hd hd';obtain ⟨o2,p⟩:=D.pos h';obtain rfl:o2=o':=by have:=p.op; rw [ho'] at this; exact (Option.some.inj this).symm
  have h1:=p.dst;rw [hd'] at h1;simp only [ZE,List.all_eq_true] at h1;have h2:=h1 _ (iA h hlt);have ho2:aG.toList[i]?=some o:=by simpa using ho
  simp only [ho2,jJ.2 hd] at h2;cases h2
 rcases Nat.lt_or_gt_of_ne hj with hlt | hlt
 ·exact key h h' hlt ho ho' d e hd
 exact key h' h hlt ho' ho d hd e
structure X3 (aG:Array Oper) (listed:Array Bool) (i:Nat) (o:Oper):Prop where
 op:aG[i]?=some o
 not:¬ gA listed i
 src:∀ e∈o.after.toList,Region.binds .any e=true→gA listed e.on
theorem cJ (hsz:listed.size=aG.size) {i:Nat} (h:i∈Region.ready .any aG listed):∃ o,X3 aG listed i o:=by
 obtain ⟨h1,o,h2,h3⟩:=mem_ready.1 h;refine ⟨o,h2,fun hl=>?_,fun e he hb=>h3 e (by simpa using he) hb⟩;have hlt:i < aG.size:=by
  rcases Nat.lt_or_ge i aG.size with h' | h'
  ·exact h'
  rw [Array.getElem?_eq_none h'] at h2; cases h2
 unfold gA at hl;have hlt':i < listed.size:=by omega
 simp [hlt'] at h1 hl;rw [h1] at hl; cases hl
theorem Dr.masked (D:Dr P W0 F N aG M pl cl fr g0 cW s0 vs ss) (hcl:Closed aG listed) {i t:Nat} (hsrc:∀ o,aG[i]?=some o→∀ e∈o.after.toList,Region.binds .any e=true→gA listed e.on) (h:(ask M i).testBit t=true):gA listed t :=
 D.msk i t h (gA listed) (fun j o ho hl e he hb=>hcl j o (by simpa using ho) hl e (by simpa using he) hb) (fun o ho=>hsrc o (by simpa using ho))
theorem X3.masked (D:Dr P W0 F N aG M pl cl fr g0 cW s0 vs ss) (hcl:Closed aG listed) {i t:Nat} {o:Oper} (r:X3 aG listed i o) (h:(ask M i).testBit t=true):gA listed t :=
 D.masked hcl (fun o' ho'=>by have:=r.op; rw [ho'] at this; obtain rfl:=Option.some.inj this; exact r.src) h
theorem Dr.behind (D:Dr P W0 F N aG M pl cl fr g0 cW s0 vs ss) (hcl:Closed aG listed) {u i:Nat} (h:(ask M u).testBit i=true) (hn:¬ gA listed i):¬ gA listed u:=fun hu =>
 hn (D.masked hcl (fun o ho e he hb=>hcl u o ho hu e (by simpa using he) hb) h)
theorem TN {lk:LK} {me me':T Ob} {nx nx':Pos} {dl bG:List SV} {t:Nat} {z:List SV} {v:SV} (h:step1 cl lk me nx dl (.fl t z)=.ok v me' nx' bG):v=.p nx 0∧me'=T.put nx (some (.c t z)) me∧nx'=Pos.succ nx∧bG=dl:=by
 have h':R1.ok (.p nx 0) (T.put nx (some (.c t z)) me) (Pos.succ nx) dl=R1.ok v me' nx' bG:=h;injection h' with h1 h2 h3 h4;exact ⟨h1.symm,h2.symm,h3.symm,h4.symm⟩
theorem DT {lk:LK} {me me':T Ob} {nx nx':Pos} {dl bG:List SV} {g:Option (O × Bool)} {t z n:Nat} {zs:List SV} {ps:List (Nat × Nat × O)} {v:SV} (h:step1 cl lk me nx dl (.fb g t z n zs ps)=.ok v me' nx' bG) :
  ∃ l,gd lk g=some true∧fill lk ps zs=some l∧ints l=true∧v=.sr nx n∧me'=T.put nx (some (.r t z l)) me∧nx'=Pos.succ nx∧bG=dl:=by
 obtain ⟨b,hb,hr⟩:=gE (P':=fun _=>True) h (by intro e; cases e);cases b with
 | false=>simp only [cond_false] at hr; cases hr
 | true =>
  simp only [cond_true] at hr;exact ⟨_,hb,(TY hr).choose_spec⟩
theorem sC {α:Type} {l:List α} {k:Nat} (h:k < l.length):∃ x,l[k]?=some x:=⟨_,List.getElem?_eq_getElem h⟩
theorem Inv.adv (D:Dr P W0 F N aG M pl cl fr g0 cW s0 vs ss) (h:Inv N aG pl W0 R g0 cW s0 vs ss k g PL listed a w) (hk:k < vs.length) (hl:∀ i c,pl[k]?=some (i,c)→fP c=true→gA listed i) :
  ∃ g' qW,Inv N aG pl W0 R g0 cW s0 vs ss (k + 1) g' qW listed a w:=by
 have hlen:vs.length≤pl.length:=by simpa using D.KU.le
 obtain ⟨⟨i,c⟩,hp⟩:=sC (l:=pl) (k:=k) (by omega);obtain ⟨v,hv⟩:=sC (l:=vs) hk;obtain ⟨s,hs,h1,h2,h3,h4⟩:=h.st;obtain ⟨s',hs'⟩:=sC (l:=ss) (k:=k + 1) (by rw [D.KU.len]; omega);have hcs:(pl.map (·.2))[k]?=some c:=by simp [hp]
 have hst:=D.KU.step k c v s s' hcs hv hs hs';cases hev:fP c with
 | false =>
  cases c with
  | v g1 o1 b1 =>
   obtain ⟨e1,e2,e3,_⟩:=uP hst;refine ⟨g,PL,h.fS,h.cls,hk,⟨s',hs',by rw [e2]; exact h1,by rw [e2]; exact h2,by rw [e3]; exact h3,by rw [e1]; exact h4⟩,h.ext,h.size,?_,?_,?_,h.vlt,?_,h.old⟩
   ·intro j' i' c' hp' he' hj'
    by_cases e:j'=k
    ·subst e; rw [hp] at hp'; injection hp' with hp'; injection hp' with _ e2; subst e2; cases he'
    exact h.T7 j' i' c' hp' he' (by omega)
   ·intro j' i' c' hp' he' hf' hl';have:=h.B8 j' i' c' hp' he' hf' hl'; omega
   ·intro j' i' c' o v' hp' hv' hl' hf' ho;refine h.vl j' i' c' o v' hp' hv' hl' (fun hfl=>?_) ho;have:=hf' hfl
    by_cases e:j'=k
    ·subst e; rw [hp] at hp'; injection hp' with hp'; injection hp' with _ e2; subst e2; cases hfl
    omega
   intro j' i' c' o hp' hf' hl' hj' ho;exact h.Y3 j' i' c' o hp' hf' hl' (by omega) ho
  | _=>cases hev
 | true =>
  have hli:=hl i c hp hev;cases hfl:mA c with
  | false =>
   have:=h.B8 k i c hp hev hfl hli; omega
  | true =>
   cases c with
   | fl t z =>
    obtain ⟨e1,e2,e3,e4⟩:=TN hst;obtain ⟨o,po⟩:=D.pos hp;obtain ⟨b,hb,htm⟩:=h.Y3 k i _ o hp hfl hli (Nat.le_refl _) po.op;have hperm:=List.perm_cons_erase hb;have s1:aB W0 w (zJ pl ss (k,b)::(mem g s.me++((PL.erase (k,b)).map (zJ pl ss)++R))):=by
     refine h4.perm ?_;refine (((hperm.map (zJ pl ss)).append_right R).append_left (mem g s.me)).trans ?_;simp only [List.map_cons,List.cons_append];exact List.perm_middle
    have JK:zJ pl ss (k,b)=lD fun xs:List Value=>(Fact (∀ g,aF (aE g) z=some xs)).both (Bk b t xs):=by
     unfold zJ; simp only [hp]
    rw [JK] at s1;obtain ⟨xs,s2⟩:=s1.aP;obtain ⟨hz,s3⟩:=s2.aS.aN;have s4:=LS (nx:=s.nx) h1 s3.tail (hz g) s3;have hext:g.ext (g.set s.nx (b,0)) s.nx:=G.bX _ _ _;have hle:=hext.le h1;refine ⟨g.set s.nx (b,0),PL.erase (k,b),h.fS,h.cls,hk,⟨s',hs',by rw [e3]; exact G.aY h1 _,by rw [e3]; exact Nat.le_trans h2 (le_succ _),by rw [e4]; exact h3.mono hle,by rw [e2]; exact s4⟩,h.ext.trans hext h2,h.size,?_,?_,?_,h.vlt,?_,h.old⟩
    ·intro j' i' c' hp' he' hj'
     by_cases e:j'=k
     ·subst e; rw [hp] at hp'; injection hp' with hp'; injection hp' with q1 q2; subst q1; exact hli
     exact h.T7 j' i' c' hp' he' (by omega)
    ·intro j' i' c' hp' he' hf' hl';have:=h.B8 j' i' c' hp' he' hf' hl'; omega
    ·intro j' i' c' o' v' hp' hv' hl' hf' ho
     by_cases e:j'=k
     ·subst e;rw [hp] at hp'; injection hp' with hp'; injection hp' with q1 q2; subst q1;rw [hv] at hv'; injection hv' with hv'; subst hv';obtain rfl:o=o':=by have:=po.op; rw [ho] at this; exact (Option.some.inj this).symm
      exact ⟨_,by rw [e1]; exact mG (G.bL g s.nx _),htm⟩
     obtain ⟨x,q1,q2⟩:=h.vl j' i' c' o' v' hp' hv' hl' (fun aE1=>by have:=hf' aE1; omega) ho;exact ⟨x,dS hle _ _ q1,q2⟩
    intro j' i' c' o' hp' hf' hl' hj' ho;obtain ⟨b',q1,q2⟩:=h.Y3 j' i' c' o' hp' hf' hl' (by omega) ho;refine ⟨b',?_,q2⟩;refine (List.mem_erase_of_ne (fun e=>?_)).2 q1;injection e with e1 e2; omega
   | fb g1 t z n zs qs =>
    obtain ⟨l,_,_,_,e1,e2,e3,e4⟩:=DT hst;obtain ⟨o,po⟩:=D.pos hp;obtain ⟨b,hb,htm⟩:=h.Y3 k i _ o hp hfl hli (Nat.le_refl _) po.op;have hperm:=List.perm_cons_erase hb;have s1:aB W0 w (zJ pl ss (k,b)::(mem g s.me++((PL.erase (k,b)).map (zJ pl ss)++R))):=by
     refine h4.perm ?_;refine (((hperm.map (zJ pl ss)).append_right R).append_left (mem g s.me)).trans ?_;simp only [List.map_cons,List.cons_append];exact List.perm_middle
    have JK:zJ pl ss (k,b)=lD fun xs:List Value=>(Fact (∃ s s' l,ss[k]?=some s∧ss[k + 1]?=some s'∧T.get s.nx s'.me=some (.r t z l)∧∀ g,aF (aE g) l=some xs)).both (Rw t z (.slice (some ⟨b,0,none⟩) n n) n xs):=by
     unfold zJ; simp only [hp]
    rw [JK] at s1;obtain ⟨xs,s2⟩:=s1.aP;obtain ⟨⟨sa,sb,l',m1,m2,m3,hz⟩,s3⟩:=s2.aS.aN;obtain rfl:sa=s:=by rw [hs] at m1; exact (Option.some.inj m1).symm
    obtain rfl:sb=s':=by rw [hs'] at m2; exact (Option.some.inj m2).symm
    have hl':l'=l:=by
     rw [e2,T.eS] at m3;injection m3 with m3; injection m3 with _ _ m3; exact m3.symm
    subst hl';have s4:=tR (nx:=sa.nx) h1 (dW s3.tail h1) (hz g) s3;have hext:g.ext (g.set sa.nx (b,n)) sa.nx:=G.bX _ _ _;have hle:=hext.le h1;refine ⟨g.set sa.nx (b,n),PL.erase (k,b),h.fS,h.cls,hk,⟨sb,hs',by rw [e3]; exact G.aY h1 _,by rw [e3]; exact Nat.le_trans h2 (le_succ _),by rw [e4]; exact h3.mono hle,by rw [e2]; exact s4⟩,h.ext.trans hext h2,h.size,?_,?_,?_,h.vlt,?_,h.old⟩
    ·intro j' i' c' hp' he' hj'
     by_cases e:j'=k
     ·subst e; rw [hp] at hp'; injection hp' with hp'; injection hp' with q1 q2; subst q1; exact hli
     exact h.T7 j' i' c' hp' he' (by omega)
    ·intro j' i' c' hp' he' hf' hl';have:=h.B8 j' i' c' hp' he' hf' hl'; omega
    ·intro j' i' c' o' v' hp' hv' hl' hf' ho
     by_cases e:j'=k
     ·subst e;rw [hp] at hp'; injection hp' with hp'; injection hp' with q1 q2; subst q1;rw [hv] at hv'; injection hv' with hv'; subst hv';obtain rfl:o=o':=by have:=po.op; rw [ho] at this; exact (Option.some.inj this).symm
      exact ⟨_,by rw [e1]; exact mF (G.bL g sa.nx _),htm⟩
     obtain ⟨x,q1,q2⟩:=h.vl j' i' c' o' v' hp' hv' hl' (fun aE1=>by have:=hf' aE1; omega) ho;exact ⟨x,dS hle _ _ q1,q2⟩
    intro j' i' c' o' hp' hf' hl' hj' ho;obtain ⟨b',q1,q2⟩:=h.Y3 j' i' c' o' hp' hf' hl' (by omega) ho;refine ⟨b',?_,q2⟩;refine (List.mem_erase_of_ne (fun e=>?_)).2 q1;injection e with e1 e2; omega
   | _=>cases hfl
theorem Inv.to (D:Dr P W0 F N aG M pl cl fr g0 cW s0 vs ss):∀ (n k:Nat) (g:G) (PL:List (Nat × Nat)),Inv N aG pl W0 R g0 cW s0 vs ss k g PL listed a w→k + n≤vs.length→(∀ q,k≤q→q < k + n→∀ i c,pl[q]?=some (i,c)→fP c=true→gA listed i) →
  ∃ g' qW,Inv N aG pl W0 R g0 cW s0 vs ss (k + n) g' qW listed a w
 | 0,k,g,PL,h,_,_=>⟨g,PL,h⟩
 | n + 1,k,g,PL,h,hk,hl=>by
  obtain ⟨g',qW,h'⟩:=h.adv D (by omega) (fun i c hp he=>hl k (Nat.le_refl _) (by omega) i c hp he);obtain ⟨g'',aS8,h''⟩:=Inv.to D n (k + 1) g' qW h' (by omega) (fun q h1 h2=>hl q (by omega) (by omega));exact ⟨g'',aS8,by rw [show k + (n + 1)=k + 1 + n by omega]; exact h''⟩
theorem Inv.sees (D:Dr P W0 F N aG M pl cl fr g0 cW s0 vs ss) (h:Inv N aG pl W0 R g0 cW s0 vs ss k g PL listed a w) {j i:Nat} {c:CO} {o:Oper} (p:aNl F N aG M pl j i c o) (hj:j≤vs.length) (r:X3 aG listed i o)
  (hs:dP (ask M i) (pl.take j).reverse=true→j≤k):X2 P g (on fr ((vs.take j).reverse++[])) (oqD aG.toList M (pl.take j).reverse i (ask M i) (dP (ask M i) (pl.take j).reverse)) aG o c a:=by
 have hlen:vs.length≤pl.length:=by simpa using D.KU.le
 have hval:∀ q src c0 v,(pl.take j).reverse[q]?=some (src,c0)→nth ((vs.take j).reverse++[]) q=some v→∃ p0,p0 < j∧pl[p0]?=some (src,c0)∧vs[p0]?=some v:=by
  intro q src c0 v h1 h2;obtain ⟨p0,q1,q2,q3⟩:=AZ h1;refine ⟨p0,q1,q2,?_⟩;rw [hZ,List.append_nil] at h2;have hq:q < (vs.take j).length:=by
   rcases Nat.lt_or_ge q (vs.take j).length with h' | h'
   ·exact h'
   rw [List.getElem?_eq_none (by simpa using h')] at h2; cases h2
  rw [List.getElem?_reverse hq] at h2;simp only [List.length_take] at h2 hq;rw [List.getElem?_take_of_lt (by omega)] at h2;rw [show p0=min j vs.length - 1 - q by omega]; exact h2
 refine ⟨fun x y v hq hv=>?_,fun b hb=>?_⟩
 ·unfold oqD at hq;split at hq
  ·rename_i q t;split at hq
   ·rename_i src c0 hpre;simp only [Bool.and_eq_true,Bool.or_eq_true,Bool.not_eq_true'] at hq;obtain ⟨⟨k1,k2⟩,k3⟩:=hq;have hv':nth ((vs.take j).reverse++[]) q=some v:=hv;obtain ⟨p0,m1,m2,m3⟩:=hval q src c0 v hpre hv';cases ho:aG.toList[src]? with
    | none=>rw [ho] at k1; cases k1
    | some o' =>
     rw [ho] at k1;have hd:=jJ.1 k1;obtain ⟨x,n1,n2⟩:=h.vl p0 src c0 o' v m2 m3 (r.masked D h.cls k2) (fun hfl=>by
      rcases k3 with k3 | k3
      ·rw [k3] at hfl; cases hfl
      have:=hs k3; omega) (by simpa using ho)
     rw [n1]; simp [Act.eval,Array.getD_eq_getD_getElem?,n2 t hd]
   cases hq
  ·rename_i p' t;simp only [Bool.and_eq_true] at hq;have hv':T.get p' fr=some v:=hv;obtain ⟨x,n1,n2⟩:=D.YS p' v hv';have hpt:=Nat.eq_of_beq_eq_true hq.1;rw [hpt] at n2;have hold:=h.old t (fun u o' ho' hd'=>by
    have:=wB hq.2 u o' (by simpa using ho') hd';rw [Nat.zero_add] at this;exact D.behind h.cls this r.not)
   have hle:g0.le g:=h.ext.le D.fr0;rw [dS hle _ _ n1];have n3:cW[t]?=some x:=by simpa using n2
   simp [Act.eval,Array.getD_eq_getD_getElem?,hold,n3]
  ·have:=Nat.eq_of_beq_eq_true hq; subst this;have hv':some (SV.g _ 0)=some v:=hv;injection hv' with hv'; subst hv'; rfl
  ·rename_i p' f;have e:=Nat.eq_of_beq_eq_true hq;have hv':some (SV.f p' [] [])=some v:=hv;injection hv' with hv'; subst hv';simp [den,aT,aE,aF,Act.eval,e]
  ·rename_i _ _ w' u;have hv':some w'=some v:=hv;injection hv' with hv'; subst hv';exact ZL hq
  cases hq
 have hq:=p.RG;unfold gqD at hq;split at hq
 ·rename_i h1 h2;rw [h2] at hb;injection hb with hb; subst hb;simp [Region.wanted,h1]
 ·rename_i j' w' q w'' h1 h2;rw [h2] at hb;simp only [Bool.and_eq_true,beq_iff_eq] at hq;obtain ⟨rfl,hq⟩:=hq;split at hq
  ·rename_i src c0 hpre;simp only [Bool.and_eq_true,Bool.not_eq_true'] at hq;obtain ⟨⟨⟨k1,k2⟩,k3⟩,k4⟩:=hq;have:=Nat.eq_of_beq_eq_true k1; subst this;have hgd:(match (generalizing:=false) (nth ((vs.take j).reverse++[]) q:Option SV) with
    | some (SV.b y)=>some (bif w' then y else !y)
    | some (SV.t [])=>some false
    | _=>none)=some b:=hb
   cases hn:nth ((vs.take j).reverse++[]) q with
   | none=>rw [hn] at hgd; cases hgd
   | some v =>
    rw [hn] at hgd;cases v with
    | b y =>
     simp only [Option.some.injEq] at hgd;obtain ⟨p0,m1,m2,m3⟩:=hval q src c0 _ hpre hn;cases ho:aG.toList[src]? with
     | none=>rw [ho] at k4; cases k4
     | some o' =>
      rw [ho] at k4;obtain ⟨d,hd⟩:=Option.isSome_iff_exists.1 k4;obtain ⟨x,n1,n2⟩:=h.vl p0 src c0 o' _ m2 m3 (r.masked D h.cls k2) (fun hfl=>by rw [k3] at hfl; cases hfl) (by simpa using ho);have ex:=GG n1; subst ex;have ho2:aG[src]?=some o':=by simpa using ho
      have hy:yielded aG a.tmps src=some y:=by
       simp [yielded,ho2,hd,n2 d hd]
      simp only [Region.wanted,h1,hy];subst hgd;cases w' <;> cases y <;> rfl
    | t l =>
     cases l with
     | cons _ _=>cases hgd
     | nil =>
      obtain ⟨p0,m1,m2,m3⟩:=hval q src c0 _ hpre hn;cases ho:aG.toList[src]? with
      | none=>rw [ho] at k4; cases k4
      | some o' =>
       rw [ho] at k4;obtain ⟨d,hd⟩:=Option.isSome_iff_exists.1 k4;obtain ⟨x,n1,n2⟩:=h.vl p0 src c0 o' _ m2 m3 (r.masked D h.cls k2) (fun hfl=>by rw [k3] at hfl; cases hfl) (by simpa using ho);have ex:x=undef:=(Option.some.inj n1).symm;subst ex;have ho2:aG[src]?=some o':=by simpa using ho
       have hy:yielded aG a.tmps src=none:=by
        simp [yielded,ho2,hd,n2 d hd,undef]
       simp only [Region.wanted,h1,hy];injection hgd with hgd
    | _=>cases hgd
  ·cases hq
 cases hq
end
end
noncomputable section
theorem aB.mid {W0 W:World} {A B R:List aA} (h:aB W0 W (A++(B++R))):aB W0 W (A++R):=by
 have h1:aB W0 W (B++(A++R)):=by
  refine h.perm ?_;rw [← List.append_assoc,← List.append_assoc];exact List.perm_append_comm.append_right R
 clear h;induction B with
 | nil=>exact h1
 | cons T B ih=>exact ih h1.tail
theorem sF:∀ {l:List (Nat × CO)} {b:Nat},yM b l=none→∀ n,((l.map (·.2)).take n).countP fP≤b
 | [],b,_,n=>by simp
 | (i,c)::r,b,h,n=>by
  cases n with
  | zero=>simp
  | succ n =>
   simp only [yM] at h;simp only [List.map_cons,List.take_succ_cons,List.countP_cons];cases hc:fP c with
   | false =>
    rw [hc] at h;have:=sF (l:=r) (b:=b) (by simpa using h) n;simpa using this
   | true =>
    rw [hc] at h;cases b with
    | zero=>simp at h
    | succ b =>
     have:=sF (l:=r) (b:=b) (by simpa using h) n;simp; omega
theorem sE:∀ {l:List (Nat × CO)} {b e:Nat},yM b l=some e→∀ n,b < ((l.map (·.2)).take n).countP fP→∃ p c,p < n∧l[p]?=some (e,c)∧fP c=true
 | [],b,e,h,n,_=>by simp [yM] at h
 | (i,c)::r,b,e,h,n,hn=>by
  cases n with
  | zero=>simp at hn
  | succ n =>
   simp only [yM] at h;simp only [List.map_cons,List.take_succ_cons,List.countP_cons] at hn;cases hc:fP c with
   | false =>
    rw [hc] at h hn;obtain ⟨p,c',h1,h2,h3⟩:=sE (l:=r) (b:=b) (by simpa using h) n (by simpa using hn);exact ⟨p + 1,c',by omega,by simpa using h2,h3⟩
   | true =>
    rw [hc] at h hn;cases b with
    | zero =>
     simp at h; subst h;exact ⟨0,c,by omega,rfl,hc⟩
    | succ b =>
     obtain ⟨p,c',h1,h2,h3⟩:=sE (l:=r) (b:=b) (by simpa using h) n (by simp at hn; omega);exact ⟨p + 1,c',by omega,by simpa using h2,h3⟩
theorem lZ {pl:List (Nat × CO)} {m:Nat}:∀ {j m0 i0:Nat} {c0:CO},BU m (pl.take j).reverse=true→pl[m0]?=some (i0,c0)→fP c0=true→mA c0=false→m0 < j→∃ p i' c',m0≤p∧p < j∧pl[p]?=some (i',c')∧fP c'=true∧mA c'=false∧m.testBit i'=true
 | 0,_,_,_,_,_,_,_,h=>by omega
 | j + 1,m0,i0,c0,h,hp,he,hf,hlt=>by
  cases hj:pl[j]? with
  | none =>
   have h1:pl.length≤j:=by
    rcases Nat.lt_or_ge j pl.length with h' | h'
    ·rw [List.getElem?_eq_getElem h'] at hj; cases hj
    exact h'
   have h2:m0 < pl.length:=by
    rcases Nat.lt_or_ge m0 pl.length with h' | h'
    ·exact h'
    rw [List.getElem?_eq_none h'] at hp; cases hp
   have h3:pl.take (j + 1)=pl.take j:=by rw [List.take_of_length_le (by omega),List.take_of_length_le h1]
   rw [h3] at h;obtain ⟨p,i',c',q1,q2,q3⟩:=lZ h hp he hf (by omega);exact ⟨p,i',c',q1,by omega,q3⟩
  | some x =>
   obtain ⟨i1,c1⟩:=x;have h3:(pl.take (j + 1)).reverse=(i1,c1)::(pl.take j).reverse:=by
    rw [List.take_add_one,hj]; simp
   rw [h3] at h;simp only [BU] at h;cases hc:(fP c1 && !mA c1) with
   | true =>
    rw [hc] at h;simp only [Bool.and_eq_true,Bool.not_eq_true'] at hc;exact ⟨j,i1,c1,by omega,by omega,hj,hc.1,hc.2,by simpa using h⟩
   | false =>
    rw [hc] at h;have hne:m0≠j:=fun e=>by subst e; rw [hj] at hp; injection hp with hp; injection hp with e1 e2; subst e2; rw [he,hf] at hc; cases hc
    obtain ⟨p,i',c',q1,q2,q3⟩:=lZ (by simpa using h) hp he hf (by omega);exact ⟨p,i',c',q1,by omega,q3⟩
section
variable {P:Program} {F:FT} {N:Nat} {aG:Array Oper} {M:List (Nat × Nat)} {pl:List (Nat × CO)} {cl:CL} {fr:T SV} {g0 g:G} {cW:Array Value} {s0:St} {vs:List SV} {ss:List St} {W0 w:World} {R:List aA} {k:Nat} {PL:List (Nat × Nat)} {listed:Array Bool} {a:Act} {Q:Exit→Act→World→Prop}
theorem tI {m j:Nat} (h:dP m (pl.take j).reverse=true) {q i:Nat} {c:CO} (hq:q < j) (hp:pl[q]?=some (i,c)) (he:fP c=true):m.testBit i=true:=by
 unfold dP at h;rw [List.all_eq_true] at h;have:=h _ (iA hp hq);rw [he] at this; simpa using this
theorem rR {d:Nat} (h:RS N (some d)=true):d < N:=mI h
theorem jZ {i:Nat} (hi:i < listed.size) {j:Nat} (h:gA listed j):gA (listed.setIfInBounds i true) j:=(bZ hi).2 (.inr h)
theorem X3.lt {i:Nat} {o:Oper} (r:X3 aG listed i o):i < aG.size:=by
 rcases Nat.lt_or_ge i aG.size with h' | h'
 ·exact h'
 have:=r.op; rw [Array.getElem?_eq_none h'] at this; cases this
theorem Inv.value (D:Dr P W0 F N aG M pl cl fr g0 cW s0 vs ss) (h:Inv N aG pl W0 R g0 cW s0 vs ss k g PL listed a w) {j i:Nat} {c:CO} {o:Oper} {v:SV} {x:Value} (hp:pl[j]?=some (i,c)) (r:X3 aG listed i o) (hr:i∈Region.ready .any aG listed) (hc:fP c=false) (hd:RS N o.dst=true)
  (hv:vs[j]?=some v) (hx:den g v=some x):Inv N aG pl W0 R g0 cW s0 vs ss k g PL (listed.setIfInBounds i true) (a.put o.dst x) w:=by
 have hi:i < listed.size:=by rw [h.fS]; exact r.lt
 have hfl:mA c=false:=by cases c <;> first | rfl | cases hc
 obtain ⟨s,q1,q2,q3,q4,q5⟩:=h.st;have hput:(a.put o.dst x).tmps.size=a.tmps.size:=by cases o.dst <;> simp [Act.put]
 have hdf:(a.put o.dst x).defers=a.defers:=by cases o.dst <;> rfl
 have hoth:∀ {t:Nat},o.dst≠some t→(a.put o.dst x).tmps[t]?=a.tmps[t]?:=fun {t} ht=>mT a a.defers o.dst x ht;have hown:∀ d,o.dst=some d→(a.put o.dst x).tmps[d]?=some x:=fun d hd'=>by
  rw [hd'] at hd ⊢;have:=rR hd;simp [Act.put,h.size,this]
 refine ⟨by simp [h.fS],h.cls.set hr,h.kle,⟨s,q1,q2,q3,by rw [hdf]; exact q4,q5⟩,h.ext,by rw [hput]; exact h.size,fun j' i' c' hp' he' hj'=>jZ hi (h.T7 j' i' c' hp' he' hj'),?_,?_,?_,?_,?_⟩
 ·intro j' i' c' hp' he' hf' hl';rcases (bZ hi).1 hl' with e | hl'
  ·subst e;have:=D.uniq hp hp'; subst this;rw [hp] at hp'; injection hp' with hp'; injection hp' with _ e2; subst e2;rw [hc] at he'; cases he'
  exact h.B8 j' i' c' hp' he' hf' hl'
 ·intro j' i' c' o' v' hp' hv' hl' hf' ho';rcases (bZ hi).1 hl' with e | hl'
  ·subst e;have:=D.uniq hp hp'; subst this;rw [hv] at hv'; injection hv' with hv'; subst hv';obtain rfl:o=o':=by have:=r.op; rw [ho'] at this; exact (Option.some.inj this).symm
   exact ⟨x,hx,hown⟩
  obtain ⟨y,m1,m2⟩:=h.vl j' i' c' o' v' hp' hv' hl' hf' ho';refine ⟨y,m1,fun d hd'=>?_⟩;have hne:j≠j':=fun e=>by
   subst e; rw [hp] at hp'; injection hp' with hp'; injection hp' with e1 e2; subst e1; exact r.not hl'
  rw [hoth (D.sH hp hp' hne r.op ho' hd')];exact m2 d hd'
 ·intro j' i' c' hp' hl' hf';rcases (bZ hi).1 hl' with e | hl'
  ·subst e;have:=D.uniq hp hp'; subst this;rcases Nat.lt_or_ge j vs.length with h' | h'
   ·exact h'
   rw [List.getElem?_eq_none h'] at hv; cases hv
  exact h.vlt j' i' c' hp' hl' hf'
 ·intro j' i' c' o' hp' hf' hl' hj' ho';rcases (bZ hi).1 hl' with e | hl'
  ·subst e;have:=D.uniq hp hp'; subst this;rw [hp] at hp'; injection hp' with hp'; injection hp' with _ e2; subst e2;rw [hfl] at hf'; cases hf'
  obtain ⟨b,m1,m2⟩:=h.Y3 j' i' c' o' hp' hf' hl' hj' ho';refine ⟨b,m1,fun d hd'=>?_⟩;have hne:j≠j':=fun e=>by
   subst e; rw [hp] at hp'; injection hp' with hp'; injection hp' with e1 e2; subst e1; exact r.not hl'
  rw [hoth (D.sH hp hp' hne r.op ho' hd')];exact m2 d hd'
 intro t ht;rw [hoth (fun e=>ht i o r.op e ((bZ hi).2 (.inl rfl)))];exact h.old t (fun i' o' ho' hd' hl'=>ht i' o' ho' hd' (jZ hi hl'))
theorem Inv.event (D:Dr P W0 F N aG M pl cl fr g0 cW s0 vs ss) {j:Nat} (h:Inv N aG pl W0 R g0 cW s0 vs ss j g PL listed a w) {i:Nat} {c:CO} {o:Oper} {v:SV} {x:Value} {s s':St} {g':G} {df:List Deferred} {w':World} (hp:pl[j]?=some (i,c)) (r:X3 aG listed i o) (hr:i∈Region.ready .any aG listed) (hc:fP c=true)
  (hfl:mA c=false) (hd:RS N o.dst=true) (hs:ss[j]?=some s) (hv:vs[j]?=some v) (hs':ss[j + 1]?=some s') (h1:g.ext g' s.nx) (h2:g'.fresh s'.nx) (h3:s.nx.nat≤s'.nx.nat) (h4:den g' v=some x) (h5:yN g' s'.dl df) (h6:aB W0 w' (mem g' s'.me++(PL.map (zJ pl ss)++R))) :
  Inv N aG pl W0 R g0 cW s0 vs ss (j + 1) g' PL (listed.setIfInBounds i true) (({ a with defers:=df }:Act).put o.dst x) w':=by
 have hi:i < listed.size:=by rw [h.fS]; exact r.lt
 obtain ⟨s1,q1,q2,q3,q4,q5⟩:=h.st;obtain rfl:s1=s:=by rw [hs] at q1; exact (Option.some.inj q1).symm
 have RE:j < vs.length:=by
  rcases Nat.lt_or_ge j vs.length with h' | h'
  ·exact h'
  rw [List.getElem?_eq_none h'] at hv; cases hv
 have hle:=h1.le q2;have hoth:∀ {t:Nat},o.dst≠some t→(({ a with defers:=df }:Act).put o.dst x).tmps[t]?=a.tmps[t]?:=fun {t} ht=>mT a df o.dst x ht;have hown:∀ d,o.dst=some d→(({ a with defers:=df }:Act).put o.dst x).tmps[d]?=some x:=fun d hd'=>by
  rw [hd'] at hd ⊢;have:=rR hd;simp [Act.put,h.size,this]
 refine ⟨by simp [h.fS],h.cls.set hr,RE,⟨s',hs',h2,Nat.le_trans q3 h3,by rw [tN]; exact h5,h6⟩,h.ext.trans h1 q3,by rw [DZ]; exact h.size,?_,?_,?_,?_,?_,?_⟩
 ·intro j' i' c' hp' he' hj'
  by_cases e:j'=j
  ·subst e; rw [hp] at hp'; injection hp' with hp'; injection hp' with e1 e2; subst e1; exact (bZ hi).2 (.inl rfl)
  exact jZ hi (h.T7 j' i' c' hp' he' (by omega))
 ·intro j' i' c' hp' he' hf' hl';rcases (bZ hi).1 hl' with e | hl'
  ·subst e;have:=D.uniq hp hp'; omega
  have:=h.B8 j' i' c' hp' he' hf' hl'; omega
 ·intro j' i' c' o' v' hp' hv' hl' hf' ho';rcases (bZ hi).1 hl' with e | hl'
  ·subst e;have:=D.uniq hp hp'; subst this;rw [hv] at hv'; injection hv' with hv'; subst hv';obtain rfl:o=o':=by have:=r.op; rw [ho'] at this; exact (Option.some.inj this).symm
   exact ⟨x,h4,hown⟩
  have hne:j≠j':=fun e=>by
   subst e; rw [hp] at hp'; injection hp' with hp'; injection hp' with e1 e2; subst e1; exact r.not hl'
  obtain ⟨y,m1,m2⟩:=h.vl j' i' c' o' v' hp' hv' hl' (fun hf=>by have:=hf' hf; omega) ho';refine ⟨y,dS hle _ _ m1,fun d hd'=>?_⟩;rw [hoth (D.sH hp hp' hne r.op ho' hd')];exact m2 d hd'
 ·intro j' i' c' hp' hl' hf';rcases (bZ hi).1 hl' with e | hl'
  ·subst e;have:=D.uniq hp hp'; omega
  exact h.vlt j' i' c' hp' hl' hf'
 ·intro j' i' c' o' hp' hf' hl' hj' ho';rcases (bZ hi).1 hl' with e | hl'
  ·subst e;have:=D.uniq hp hp'; omega
  obtain ⟨b,m1,m2⟩:=h.Y3 j' i' c' o' hp' hf' hl' (by omega) ho';refine ⟨b,m1,fun d hd'=>?_⟩;rw [hoth (D.sH hp hp' (by omega) r.op ho' hd')];exact m2 d hd'
 intro t ht;rw [hoth (fun e=>ht i o r.op e ((bZ hi).2 (.inl rfl)))];exact h.old t (fun i' o' ho' hd' hl'=>ht i' o' ho' hd' (jZ hi hl'))
theorem Inv.float (D:Dr P W0 F N aG M pl cl fr g0 cW s0 vs ss) (h:Inv N aG pl W0 R g0 cW s0 vs ss k g PL listed a w) {j i bb:Nat} {c:CO} {o:Oper} {w':World} (hp:pl[j]?=some (i,c)) (hfl:mA c=true) (r:X3 aG listed i o) (hr:i∈Region.ready .any aG listed) (hd:RS N o.dst=true)
  (h6:∀ s,ss[k]?=some s→aB W0 w (mem g s.me++(PL.map (zJ pl ss)++R))→aB W0 w' (zJ pl ss (j,bb)::(mem g s.me++(PL.map (zJ pl ss)++R)))) :
  Inv N aG pl W0 R g0 cW s0 vs ss k g ((j,bb)::PL) (listed.setIfInBounds i true) (a.put o.dst (aHr c bb)) w':=by
 have hev:fP c=true:=by cases c <;> first | rfl | cases hfl
 have hi:i < listed.size:=by rw [h.fS]; exact r.lt
 obtain ⟨s,q1,q2,q3,q4,q5⟩:=h.st;have hput:∀ x,(a.put o.dst x).tmps.size=a.tmps.size:=fun x=>by cases o.dst <;> simp [Act.put]
 have hdf:∀ x,(a.put o.dst x).defers=a.defers:=fun x=>by cases o.dst <;> rfl
 have hoth:∀ {x:Value} {t:Nat},o.dst≠some t→(a.put o.dst x).tmps[t]?=a.tmps[t]?:=fun {x t} ht=>mT a a.defers o.dst x ht;have hown:∀ x d,o.dst=some d→(a.put o.dst x).tmps[d]?=some x:=fun x d hd'=>by
  rw [hd'] at hd ⊢;have:=rR hd;simp [Act.put,h.size,this]
 have hjk:k≤j:=by
  rcases Nat.lt_or_ge j k with h' | h'
  ·exact (r.not (h.T7 j i _ hp hev h')).elim
  exact h'
 have hst:aB W0 w' (mem g s.me++(((j,bb)::PL).map (zJ pl ss)++R)):=by
  refine (h6 s q1 q5).perm ?_;simp only [List.map_cons,List.cons_append];exact List.perm_middle.symm
 refine ⟨by simp [h.fS],h.cls.set hr,h.kle,⟨s,q1,q2,q3,by rw [hdf]; exact q4,hst⟩,h.ext,by rw [hput]; exact h.size,fun j' i' c' hp' he' hj'=>jZ hi (h.T7 j' i' c' hp' he' hj'),?_,?_,?_,?_,?_⟩
 ·intro j' i' c' hp' he' hf' hl';rcases (bZ hi).1 hl' with e | hl'
  ·subst e;have:=D.uniq hp hp'; subst this;rw [hp] at hp'; injection hp' with hp'; injection hp' with _ e2; subst e2;rw [hfl] at hf'; cases hf'
  exact h.B8 j' i' c' hp' he' hf' hl'
 ·intro j' i' c' o' v' hp' hv' hl' hf' ho';rcases (bZ hi).1 hl' with e | hl'
  ·subst e;have:=D.uniq hp hp'; subst this;rw [hp] at hp'; injection hp' with hp'; injection hp' with _ e2; subst e2;have:=hf' hfl; omega
  obtain ⟨y,m1,m2⟩:=h.vl j' i' c' o' v' hp' hv' hl' hf' ho';refine ⟨y,m1,fun d hd'=>?_⟩;have hne:j≠j':=fun e=>by
   subst e; rw [hp] at hp'; injection hp' with hp'; injection hp' with e1 e2; subst e1; exact r.not hl'
  rw [hoth (D.sH hp hp' hne r.op ho' hd')];exact m2 d hd'
 ·intro j' i' c' hp' hl' hf';rcases (bZ hi).1 hl' with e | hl'
  ·subst e;have:=D.uniq hp hp'; subst this;rw [hp] at hp'; injection hp' with hp'; injection hp' with _ e2; subst e2;rw [hfl] at hf'; cases hf'
  exact h.vlt j' i' c' hp' hl' hf'
 ·intro j' i' c' o' hp' hf' hl' hj' ho';rcases (bZ hi).1 hl' with e | hl'
  ·subst e;have:=D.uniq hp hp'; subst this;obtain rfl:o=o':=by have:=r.op; rw [ho'] at this; exact (Option.some.inj this).symm
   rw [hp] at hp'; injection hp' with hp'; injection hp' with _ e2; subst e2;exact ⟨bb,by simp,hown _⟩
  obtain ⟨b,m1,m2⟩:=h.Y3 j' i' c' o' hp' hf' hl' hj' ho';refine ⟨b,by simp [m1],fun d hd'=>?_⟩;have hne:j≠j':=fun e=>by
   subst e; rw [hp] at hp'; injection hp' with hp'; injection hp' with e1 e2; subst e1; exact r.not hl'
  rw [hoth (D.sH hp hp' hne r.op ho' hd')];exact m2 d hd'
 intro t' ht;rw [hoth (fun e=>ht i o r.op e ((bZ hi).2 (.inl rfl)))];exact h.old t' (fun i' o' ho' hd' hl'=>ht i' o' ho' hd' (jZ hi hl'))
def Pan (aG:Array Oper) (N:Nat) (cl:CL) (fr:T SV) (pl:List (Nat × CO)) (vs:List SV) (ss:List St) (W0:World) (R:List aA) (g0:G) (cW:Array Value) (s0:St) (Q:Exit→Act→World→Prop):Prop :=
 ∃ c s e me' nx' bG,(pl.map (·.2))[vs.length]?=some c∧ss[vs.length]?=some s∧step1 cl (on fr (vs.reverse++[])) s.me s.nx s.dl c=.dL e me' nx' bG ∧
  ∀ g' x a' w',g0.ext g' s0.nx→g'.fresh nx'→s0.nx.nat≤nx'.nat→den g' e=some x→(∀ t,(∀ (i:Nat) (o:Oper),aG[i]?=some o→o.dst≠some t)→a'.tmps[t]?=cW[t]?)→a'.tmps.size=N→yN g' bG a'.defers→aB W0 w' (mem g' me'++R)→Q (.panic (chain x)) a' w'
theorem VH {lk:LK} {me me':T Ob} {nx nx':Pos} {dl bG:List SV} {c:CO} {e:SV} (h:step1 cl lk me nx dl c=.dL e me' nx' bG):fP c=true∧mA c=false:=by
 obtain ⟨b,hb,hr⟩:=gE (P':=fun _=>True) h (by intro e; cases e);cases b with
 | false=>simp only [cond_false] at hr; exact (LR hr).elim
 | true =>
  simp only [cond_true] at hr;cases c with
  | v g0 o0 b0 =>
   have hr':Option.rec (motive:=fun _=>R1) .no (fun v=>.ok v me nx dl) (val lk me o0)=R1.dL e me' nx' bG:=hr;cases hv:val lk me o0 with
   | none=>rw [hv] at hr'; cases hr'
   | some u=>rw [hv] at hr'; cases hr'
  | fl t z=>cases hr
  | fb g0 t z n zs ps =>
   have hr':Option.rec (motive:=fun _=>R1) .no (fun l=>bif ints l then .ok (.sr nx n) (T.put nx (some (.r t z l)) me) (Pos.succ nx) dl else .no) (fill lk ps zs)=R1.dL e me' nx' bG:=hr;cases hl:fill lk ps zs with
   | none=>rw [hl] at hr'; cases hr'
   | some l =>
    rw [hl] at hr'; dsimp only at hr';cases hi:ints l with
    | false=>rw [hi] at hr'; cases hr'
    | true=>rw [hi] at hr'; cases hr'
  | _=>exact ⟨rfl,rfl⟩
theorem XW {l:List SV} (h:ints l=true) (g g':G):aF (aE g) l=aF (aE g') l:=by
 induction l with
 | nil=>rfl
 | cons x r ih =>
  cases x with
  | i k n =>
   have h':ints r=true:=h;show (match aE g (.i k n),aF (aE g) r with
    | some v,some vs=>some (v::vs)
    | _,_=>none)=(match aE g' (.i k n),aF (aE g') r with
    | some v,some vs=>some (v::vs)
    | _,_=>none)
   rw [ih h']; rfl
  | _=>cases h
theorem Inv.exec (D:Dr P W0 F N aG M pl cl fr g0 cW s0 vs ss) (h:Inv N aG pl W0 R g0 cW s0 vs ss k g PL listed a w) (hend:vs.length=pl.length∨Pan aG N cl fr pl vs ss W0 R g0 cW s0 Q) {i:Nat} (hr:i∈Region.ready .any aG listed) :
  wpOp P aG Q i (fun a' w'=>∃ k g PL,Inv N aG pl W0 R g0 cW s0 vs ss k g PL (listed.setIfInBounds i true) a' w') a w:=by
 obtain ⟨o,r⟩:=cJ h.fS hr;obtain ⟨j,c,hp⟩:=D.cov i r.lt;obtain ⟨o',p⟩:=D.pos hp;obtain rfl:o=o':=by have:=r.op; rw [p.op] at this; exact (Option.some.inj this).symm
 have hlen:vs.length≤pl.length:=by simpa using D.KU.le
 have hcs:(pl.map (·.2))[j]?=some c:=by simp [hp]
 have hjp:j < pl.length:=by
  rcases Nat.lt_or_ge j pl.length with h' | h'
  ·exact h'
  rw [List.getElem?_eq_none h'] at hp; cases hp
 have hgoal:wp1 P aG o (fun a' w'=>∃ k g PL,Inv N aG pl W0 R g0 cW s0 vs ss k g PL (listed.setIfInBounds i true) a' w') Q a w→wpOp P aG Q i (fun a' w'=>∃ k g PL,Inv N aG pl W0 R g0 cW s0 vs ss k g PL (listed.setIfInBounds i true) a' w') a w:=fun hh=>by
  unfold wpOp; simp only [r.op]; exact hh
 refine hgoal ?_;have FI:∀ (hj:vs.length≤j),vs.length≠pl.length→Pan aG N cl fr pl vs ss W0 R g0 cW s0 Q→∃ i0 c0,pl[vs.length]?=some (i0,c0)∧fP c0=true∧mA c0=false:=by
  rintro hj hne ⟨c0,s,e,me',nx',bG,e1,e2,e3,e4⟩;obtain ⟨k1,k2⟩:=VH e3;rw [List.getElem?_map,Option.map_eq_some_iff] at e1;obtain ⟨⟨i0,c1⟩,e5,e6⟩:=e1;simp only at e6; subst e6;exact ⟨i0,c1,e5,k1,k2⟩
 have aE2:j≤vs.length→∃ k' g' qW,Inv N aG pl W0 R g0 cW s0 vs ss k' g' qW listed a w∧(dP (ask M i) (pl.take j).reverse=true→j≤k'):=by
  intro RE;cases hs:dP (ask M i) (pl.take j).reverse with
  | false=>exact ⟨k,g,PL,h,fun e=>by cases e⟩
  | true =>
   rcases Nat.lt_or_ge k j with hkj | hkj
   ·obtain ⟨g',qW,h'⟩:=Inv.to D (j - k) k g PL h (by omega) (fun q h1 h2 i' c' hp' he'=>r.masked D h.cls (tI hs (by omega) hp' he'));rw [show k + (j - k)=j by omega] at h';exact ⟨j,g',qW,h',fun _=>Nat.le_refl _⟩
   exact ⟨k,g,PL,h,fun _=>hkj⟩
 cases hc:fP c with
 | false =>
  cases c with
  | v g1 v1 b1 =>
   have hkind:=p.kind;simp only [kindOk,Bool.and_eq_true,Bool.or_eq_true,Bool.not_eq_true'] at hkind;obtain ⟨k1,k2⟩:=hkind;have RE:j < vs.length:=by
    rcases Nat.lt_or_ge j vs.length with h' | h'
    ·exact h'
    exfalso;rcases hend with he | he
    ·omega
    by_cases hne:vs.length=pl.length
    ·omega
    obtain ⟨i0,c0,q1,q2,q3⟩:=FI h' hne he;have hne':vs.length≠j:=fun e=>by
     rw [e,hp] at q1; injection q1 with q1; injection q1 with _ q1; subst q1; cases q2
    obtain ⟨p0,i',c',m1,m2,m3,m4,m5,m6⟩:=lZ k2 q1 q2 q3 (by omega);have:=h.B8 p0 i' c' m3 m4 m5 (r.masked D h.cls m6);have:=h.kle;omega
   obtain ⟨k',g',qW,h',hjk⟩:=aE2 (Nat.le_of_lt RE);obtain ⟨v,hv⟩:=sC (l:=vs) RE;obtain ⟨s,hs⟩:=sC (l:=ss) (k:=j) (by rw [D.KU.len]; omega);obtain ⟨s',hs'⟩:=sC (l:=ss) (k:=j + 1) (by rw [D.KU.len]; omega);have hst:=D.KU.step j _ v s s' hcs hv hs hs';have hS:=Inv.sees D h' p (Nat.le_of_lt RE) r hjk;obtain ⟨t,ht,hrr⟩:=gE (P':=fun _=>True) hst (by intro e; cases e);have hw:=hS.gd t ht;have ht':gd (on fr ((vs.take j).reverse++[])) g1=some t:=ht;cases t with
   | false =>
    simp only [cond_false] at hrr;injection IL hrr with e1 e2 e3 e4;exact KM hw ⟨k',g',qW,h'.value D hp r hr hc p.RS hv (by rw [← e1]; rfl)⟩
   | true =>
    have hvj:=(uP hst).2.2.2 ht';obtain ⟨sk,m1,m2,m3,m4,m5⟩:=h'.st;have hvk:val (on fr ((vs.take j).reverse++[])) sk.me v1=some v:=by
     cases hm:aDv v1 with
     | false=>rw [TB (me':=s.me) hm]; exact hvj
     | true =>
      obtain ⟨hstr,k3⟩:dP (ask M i) (pl.take j).reverse=true∧(match yM b1 (pl.drop (j + 1)) with | some e=>(ask M e).testBit i | none=>true)=true:=by
       rcases k1 with k1 | k1
       ·rw [hm] at k1; cases k1
       exact k1
      have aR8:=hjk hstr;refine D.KU.read j v g1 v1 b1 hcs hv ht' k' sk aR8 h'.kle ?_ m1;rcases Nat.lt_or_ge b1 (CW (pl.map (·.2)) j k') with hlt | hge
      ·exfalso;have hjlt:j < k':=by
        rcases Nat.lt_or_ge j k' with h1 | h1
        ·exact h1
        have:k'=j:=by omega
        rw [this,WL] at hlt; omega
       have hsplit:CW (pl.map (·.2)) j k'=(((pl.drop (j + 1)).map (·.2)).take (k' - j - 1)).countP fP:=by
        unfold CW;rw [List.drop_eq_getElem_cons (by simpa using hjp)];rw [show k' - j=(k' - j - 1) + 1 by omega,List.take_succ_cons,List.countP_cons];have hx:(pl.map (·.2))[j]'(by simpa using hjp)=CO.v g1 v1 b1:=by
         have:=List.getElem?_eq_getElem (l:=pl.map (·.2)) (i:=j) (by simpa using hjp);rw [hcs] at this; exact (Option.some.inj this).symm
        rw [hx];simp [fP,List.map_drop]
       rw [hsplit] at hlt;cases hev:yM b1 (pl.drop (j + 1)) with
       | none=>have:=sF hev (k' - j - 1); omega
       | some e =>
        rw [hev] at k3;obtain ⟨q,c',n1,n2,n3⟩:=sE hev (k' - j - 1) hlt;rw [List.getElem?_drop] at n2;have:=h'.T7 (j + 1 + q) e c' n2 n3 (by omega);exact D.behind h.cls k3 r.not this
      exact hge
    have wP:=p.chk;simp only [mH,Bool.and_eq_true] at wP;obtain ⟨dst,op,ty,pos,af,RK⟩:=o;obtain ⟨x,n1,n2⟩:=yU (dZ a) D.hF hS.op m5 wP.2 hvk;exact vF hw (gC (n2 _ _ _ _ _) ⟨k',g',qW,h'.value D hp r hr hc p.RS hv n1⟩)
  | _=>cases hc
 | true =>
  cases hfl:mA c with
  | true =>
   cases c with
   | fl t z =>
    have wP:=p.chk;simp only [mH] at wP;have hg:=p.RG;obtain ⟨dst,op,ty,pos,af,RK⟩:=o;split at wP
    ·rename_i t' hop;simp only at hop; subst hop;simp only [Bool.and_eq_true,Option.isNone_iff_eq_none] at wP;obtain ⟨⟨c1,c2⟩,c3⟩:=wP;have:=Nat.eq_of_beq_eq_true c1; subst this;subst c3;obtain ⟨zs,z1,z2⟩:=D.hF.al _ _ c2;have hw:Region.wanted (⟨dst,.alloc t,ty,pos,af,none⟩:Oper) (yielded aG a.tmps)=true:=rfl;obtain ⟨s,q1,q2,q3,q4,q5⟩:=h.st;obtain ⟨bb,w',_,hrun,hst⟩:=(EF.alloc (kn:=[]) (d:=dst) (g:=none) (ty:=ty) (pos:=pos) (af:=af) z1) a.eval w (fun x v h=>bA (dZ a) [] x v h) q5;have JK:zJ pl ss (j,bb)=lD fun xs:List Value=>(Fact (∀ g,aF (aE g) z=some xs)).both (Bk bb t xs):=by
      unfold zJ; simp only [hp]
     refine vF hw (gC hrun ⟨k,g,(j,bb)::PL,h.float D hp rfl r hr p.RS (fun s1 e1 _=>?_)⟩);obtain rfl:s1=s:=by rw [q1] at e1; exact (Option.some.inj e1).symm
     rw [JK]; exact aB.bR zs (aB.cB (aB.bB z2 hst))
    cases wP
   | fb g1 t z n zs ps =>
    have RE:j < vs.length:=by
     rcases D.fbk with h1 | h1
     ·omega
     have:=h1 j i _ hp; cases this
    obtain ⟨k',g',qW,h',hjk⟩:=aE2 (Nat.le_of_lt RE);obtain ⟨v,hv⟩:=sC (l:=vs) RE;obtain ⟨s,hs⟩:=sC (l:=ss) (k:=j) (by rw [D.KU.len]; omega);obtain ⟨s',hs'⟩:=sC (l:=ss) (k:=j + 1) (by rw [D.KU.len]; omega);have hst:=D.KU.step j _ v s s' hcs hv hs hs';have hS:=Inv.sees D h' p (Nat.le_of_lt RE) r hjk;obtain ⟨l,f1,f2,f3,f4,f5,f6,f7⟩:=DT hst;have hw:=hS.gd true f1;have wP:=p.chk;simp only [mH,Bool.and_eq_true] at wP;obtain ⟨c1,c2⟩:=wP;obtain ⟨dst,op,ty,pos,af,RK⟩:=o;obtain ⟨TT,ps',hop,c3,c4,c5⟩:=ZN c1 c2;simp only at hop; subst hop;obtain ⟨zero,b1,b2,b3,b4,b5⟩:=D.hF.bs _ _ _ _ _ c3;obtain ⟨sk,q1,q2,q3,q4,q5⟩:=h'.st;obtain ⟨bb,w',xs,d1,d2,d3⟩:=NT (d:=dst) (ty:=ty) (pos:=pos) (af:=af) (gd:=RK) (dZ a) hS.op b1 b2 b3 (b4 g') b5 (kT c4 c5) f2 q5;rw [← yX] at d2;have JK:zJ pl ss (j,bb)=lD fun xs:List Value=>(Fact (∃ s s' l,ss[j]?=some s∧ss[j + 1]?=some s'∧T.get s.nx s'.me=some (.r t z l)∧∀ g,aF (aE g) l=some xs)).both (Rw t z (.slice (some ⟨bb,0,none⟩) n n) n xs):=by
     unfold zJ; simp only [hp]
    refine vF hw (gC d2 ⟨k',g',(j,bb)::qW,h'.float D hp rfl r hr p.RS (fun s1 e1 _=>?_)⟩);obtain rfl:s1=sk:=by rw [q1] at e1; exact (Option.some.inj e1).symm
    rw [JK]; exact aB.bR xs (aB.cB (aB.bB ⟨s,s',l,hs,hs',by rw [f5,T.eS],fun g2=>by rw [XW f3 g2 g']; exact d1⟩ d3))
   | _=>cases hfl
  | false =>
   have hkind:=p.kind;have hstr:dP (ask M i) (pl.take j).reverse=true:=by
    cases c with
    | v _ _ _=>cases hc
    | fl _ _=>cases hfl
    | fb _ _ _ _ _ _=>cases hfl
    | _=>exact hkind
   have RE:j≤vs.length:=by
    rcases Nat.lt_or_ge vs.length j with h' | h'
    ·exfalso;rcases hend with he | he
     ·omega
     by_cases hne:vs.length=pl.length
     ·omega
     obtain ⟨i0,c0,q1,q2,q3⟩:=FI (Nat.le_of_lt h') hne he;have:=h.B8 vs.length i0 c0 q1 q2 q3 (r.masked D h.cls (tI hstr h' q1 q2));have:=h.kle;omega
    exact h'
   obtain ⟨k',g',qW,h',hjk⟩:=aE2 RE;have hkj:k'=j:=by
    have:=hjk hstr;rcases Nat.lt_or_ge j k' with h1 | h1
    ·exact (r.not (h'.T7 j i c hp hc h1)).elim
    omega
   subst hkj;have hS:=Inv.sees D h' p RE r (fun _=>Nat.le_refl _);obtain ⟨s,q1,q2,q3,q4,q5⟩:=h'.st;rcases Nat.lt_or_ge k' vs.length with hlt | hge
   ·obtain ⟨v,hv⟩:=sC (l:=vs) hlt;obtain ⟨s',hs'⟩:=sC (l:=ss) (k:=k' + 1) (by rw [D.KU.len]; omega);have hst:=D.KU.step k' c v s s' hcs hv q1 hs';exact tJ D.hcl D.hF hS q4 q2 q5 p.chk hst (fun g'' x df w'' n1 n2 n3 n4 n5 n6=>⟨k' + 1,g'',qW,h'.event D hp r hr hc hfl p.RS q1 hv hs' n1 n2 n3 n4 n5 n6⟩)
   have hkv:vs.length=k':=by omega
   rcases hend with he | he
   ·omega
   obtain ⟨c0,s1,e,me',nx',bG,e1,e2,e3,e4⟩:=he;rw [hkv] at e1 e2;rw [hcs] at e1; injection e1 with e1; subst e1;rw [q1] at e2; injection e2 with e2; subst e2;have htake:vs.take k'=vs:=List.take_of_length_le (by omega);rw [htake] at hS;refine tK D.hcl hS q4 q2 q5 p.chk e3 (fun g'' x w'' n1 n2 n3 n4 n5 n6=>?_);refine e4 g'' x a w'' (h'.ext.trans n1 q3) n2 (Nat.le_trans q3 n3) n4 (fun t ht=>h'.old t (fun i' o' ho' hd'=>(ht i' o' ho' hd').elim)) h'.size n5 (aB.mid n6)
theorem Inv.all (D:Dr P W0 F N aG M pl cl fr g0 cW s0 vs ss) (h:Inv N aG pl W0 R g0 cW s0 vs ss k g PL listed a w) (hr:Region.ready .any aG listed=[]):∀ (j i:Nat) (c:CO),pl[j]?=some (i,c)→gA listed i:=by
 intro j;induction j using Nat.strongRecOn with
 | _ j ih =>
  intro i c hp;refine Classical.not_not.1 (fun hn=>?_);obtain ⟨o,p⟩:=D.pos hp;have hmem:i∈Region.ready .any aG listed:=by
   refine mem_ready.2 ⟨?_,o,p.op,fun e he hb=>?_⟩
   ·have hlt:i < listed.size:=by
     rw [h.fS];rcases Nat.lt_or_ge i aG.size with h' | h'
     ·exact h'
     have:=p.op; rw [Array.getElem?_eq_none h'] at this; cases this
    unfold gA at hn;simp [hlt] at hn ⊢;exact hn
   have h1:=p.edges;unfold CK at h1;rw [List.all_eq_true] at h1;have h2:=h1 e (by simpa using he);rw [hb] at h2;simp only [Bool.not_true,Bool.false_or,List.any_eq_true] at h2;obtain ⟨⟨i',c'⟩,h3,h4⟩:=h2;have:=Nat.eq_of_beq_eq_true h4;simp only at this; subst this;rw [List.mem_reverse] at h3;obtain ⟨q,hq⟩:=List.getElem?_of_mem h3;have hqj:q < j:=by
    rcases Nat.lt_or_ge q j with h' | h'
    ·exact h'
    rw [List.getElem?_take_eq_none h'] at hq; cases hq
   rw [List.getElem?_take_of_lt hqj] at hq;exact ih q hqj _ _ hq
  rw [hr] at hmem; cases hmem
theorem Inv.done (D:Dr P W0 F N aG M pl cl fr g0 cW s0 vs ss) (h:Inv N aG pl W0 R g0 cW s0 vs ss k g PL listed a w) (hall:∀ (j i:Nat) (c:CO),pl[j]?=some (i,c)→gA listed i) (hend:vs.length=pl.length∨Pan aG N cl fr pl vs ss W0 R g0 cW s0 Q) :
  vs.length=pl.length∧∃ g' qW,Inv N aG pl W0 R g0 cW s0 vs ss vs.length g' qW listed a w:=by
 have hfull:vs.length=pl.length:=by
  rcases hend with he | ⟨c0,s,e,me',nx',bG,e1,e2,e3,e4⟩
  ·exact he
  exfalso;obtain ⟨k1,k2⟩:=VH e3;rw [List.getElem?_map,Option.map_eq_some_iff] at e1;obtain ⟨⟨i0,c1⟩,e5,e6⟩:=e1;simp only at e6; subst e6;have:=h.B8 vs.length i0 c1 e5 k1 k2 (hall _ _ _ e5);have:=h.kle;omega
 refine ⟨hfull,?_⟩;obtain ⟨g',qW,h'⟩:=Inv.to D (vs.length - k) k g PL h (by have:=h.kle; omega) (fun q _ _ i c hp _=>hall q i c hp);rw [show k + (vs.length - k)=vs.length by have:=h.kle; omega] at h';exact ⟨g',qW,h'⟩
def left (listed:Array Bool) (n:Nat):Nat:=(List.range n).countP fun i=>!listed.getD i false
theorem EY {i n:Nat} (hn:listed.size=n) (hi:i < n) (hl:¬ gA listed i):left (listed.setIfInBounds i true) n + 1=left listed n:=by
 have key:∀ m,m≤n→left (listed.setIfInBounds i true) m + (if i < m then 1 else 0)=left listed m:=by
  intro m;induction m with
  | zero=>intro _; simp [left]
  | succ m ih =>
   intro hm;have ih':=ih (by omega);unfold left at ih' ⊢;rw [List.range_succ,List.countP_append,List.countP_append];simp only [List.countP_cons,List.countP_nil]
   by_cases e:i=m
   ·subst e;have h1:(listed.setIfInBounds i true).getD i false=true:=(bZ (by omega)).2 (.inl rfl);have h2:listed.getD i false=false:=by simpa [gA] using hl
    rw [h1,h2];simp only [Nat.lt_irrefl,if_false,Nat.add_zero,Nat.lt_succ_self,if_true,Bool.not_true,Bool.not_false,Bool.false_eq_true] at ih' ⊢;omega
   rw [getD_set_ne false e];have:(if i < m + 1 then 1 else 0)=(if i < m then 1 else 0:Nat):=by
    by_cases hlt:i < m
    ·simp [hlt,Nat.lt_succ_of_lt hlt]
    simp [hlt,show ¬ i < m + 1 by omega]
   rw [this]; omega
 have:=key n (Nat.le_refl _);rw [if_pos hi] at this; exact this
theorem rU {n i:Nat} (h:left listed n=0) (hi:i < n):gA listed i:=by
 unfold left at h;rw [List.countP_eq_zero] at h;have:=h i (List.mem_range.2 hi);simpa [gA] using this
theorem Inv.any (D:Dr P W0 F N aG M pl cl fr g0 cW s0 vs ss) (hend:vs.length=pl.length∨Pan aG N cl fr pl vs ss W0 R g0 cW s0 Q)
  (hQ:vs.length=pl.length→∀ g' qW listed a w,Inv N aG pl W0 R g0 cW s0 vs ss vs.length g' qW listed a w→(∀ (j i:Nat) (c:CO),pl[j]?=some (i,c)→gA listed i)→Q .normal a w) :
  ∀ (fuel k:Nat) (g:G) (PL:List (Nat × Nat)) (listed:Array Bool) (a:Act) (w:World),Inv N aG pl W0 R g0 cW s0 vs ss k g PL listed a w→left listed aG.size≤fuel→wpAny P .any aG Q fuel listed a w
 | 0,k,g,PL,listed,a,w,h,hf=>by
  have hall:∀ (j i:Nat) (c:CO),pl[j]?=some (i,c)→gA listed i:=fun j i c hp=>by
   obtain ⟨o,p⟩:=D.pos hp;refine rU (n:=aG.size) (by omega) ?_;rcases Nat.lt_or_ge i aG.size with h' | h'
   ·exact h'
   have:=p.op; rw [Array.getElem?_eq_none h'] at this; cases this
  obtain ⟨h1,g',qW,h2⟩:=h.done (Q:=Q) D hall hend;refine ⟨?_,hQ h1 g' qW listed a w h2 hall⟩;refine List.eq_nil_iff_forall_not_mem.2 (fun i hi=>?_);obtain ⟨o,r⟩:=cJ h.fS hi;exact r.not (rU (n:=aG.size) (by omega) r.lt)
 | fuel + 1,k,g,PL,listed,a,w,h,hf=>by
  refine ⟨fun hr=>?_,fun i hi=>?_⟩
  ·have hall:=h.all D hr;obtain ⟨h1,g',qW,h2⟩:=h.done (Q:=Q) D hall hend;exact hQ h1 g' qW listed a w h2 hall
  obtain ⟨o,r⟩:=cJ h.fS hi;have hl:=EY h.fS r.lt r.not;refine wpOp_mono (fun a' w' ⟨k',g',qW,h'⟩=>Inv.any D hend hQ fuel k' g' qW _ a' w' h' (by omega)) (h.exec D hend hi)
end
end
end EV
end Go.Proofs.YtadggjnohohedaaGreatDoor
