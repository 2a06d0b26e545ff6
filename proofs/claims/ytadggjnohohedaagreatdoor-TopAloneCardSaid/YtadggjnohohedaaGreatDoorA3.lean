/- TopAlone: for every input the call returns true; part A3 of the proof. -/
import Derived.Test.YtadggjnohohedaaGreatDoorA2
import Derived.ScopeJumps
import Derived.Laws.StructEq
import Derived.ChangeKeysEq
import Derived.Recover
import Derived.Laws.Pointers
set_option linter.unusedVariables false
set_option linter.unusedSimpArgs false
set_option linter.unusedSectionVars false
set_option maxRecDepth 1000000
open Go.RowKit
namespace Go.Proofs.YtadggjnohohedaaGreatDoor
namespace EV
noncomputable section
theorem AB {t:Nat}:∀ {ds:List (Option Nat)} {i j:Nat},findD t ds i=some j→i≤j∧ds[j - i]?=some (some t)
 | [],i,j,h=>by cases h
 | d::ds,i,j,h=>by
  rw [gO] at h;cases hb:BY d t with
  | true =>
   rw [hb] at h; injection h with h; subst h;rw [jJ] at hb; subst hb;exact ⟨Nat.le_refl _,by simp⟩
  | false =>
   rw [hb] at h;obtain ⟨h1,h2⟩:=AB (ds:=ds) h;exact ⟨by omega,by rw [show j - i=(j - (i + 1)) + 1 by omega]; simpa using h2⟩
def dsE (L:List Oper) (pm:List Nat):List (Option Nat):=(pm.map fun i=>(L[i]?).bind (·.dst)).reverse
theorem bP (n i:Nat):¬ gA (Array.replicate n false) i:=by
 unfold gA;rcases Nat.lt_or_ge i n with h | h
 ·simp [h]
 simp [Array.getElem?_eq_none (show (Array.replicate n false).size≤i by simpa using h)]
section
variable {P:Program} {W0:World} {R:List aA} {F:FT} {N:Nat} {cl:CL} {fr:T SV} {aG:Array Oper} {Q:Exit→Act→World→Prop}
theorem zY:∀ {cs:List CO} {c:CO},qI cs=false→c∈cs→JD c=false
 | [],c,_,h=>by cases h
 | d::cs,c,hf,h=>by
  have hf':(or (JD d) (qI cs))=false:=hf;simp only [Bool.or_eq_false_iff] at hf';rcases List.mem_cons.1 h with rfl | h
  ·exact hf'.1
  exact zY hf'.2 h
theorem AE (hcl:pE P W0 cl) (hF:F.Ok P W0) (bU:P.follows .mixedOrders=true) {id:Nat} {pm:List Nat} {cs:List CO} {me:T Ob} {nx:Pos} {dl:List SV} {g:G} {a:Act} {w:World} {r:RD} (hc:aFw F N aG.toList pm cs=true) (hr:kF cl fr cs [] me nx dl=r) (hne:r≠.no)
  (hfb:qI cs=false∨∃ env' me' nx' bG ms,r=.ok env' me' nx' bG ms)
  (hE:C0 g fr a.tmps) (hN:a.tmps.size=N) (hd:yN g dl a.defers) (hf:g.fresh nx) (hm:aB W0 w (mem g me++R))
  (hK:∀ env' me' nx' bG ms,r=.ok env' me' nx' bG ms→∀ g' a' w',g.ext g' nx→g'.fresh nx'→nx.nat≤nx'.nat→Env g' (dsE aG.toList pm) env' fr a'.tmps→a'.tmps.size=N→yN g' bG a'.defers→aB W0 w' (mem g' me'++R)→Q .normal a' w')
  (hQ:∀ v me' nx' bG ms,r=.dL v me' nx' bG ms→∀ g' x a' w',g.ext g' nx→g'.fresh nx'→nx.nat≤nx'.nat→den g' v=some x→(∀ t,some t∉dsE aG.toList pm→a'.tmps[t]?=a.tmps[t]?)→a'.tmps.size=N→yN g' bG a'.defers→aB W0 w' (mem g' me'++R)→Q (.panic (chain x)) a' w') :
  (Code.region id aG true).wp P Q a w:=by
 simp only [aFw,Bool.and_eq_true] at hc;obtain ⟨⟨c1,c2⟩,c3⟩:=hc;have hlen:=Nat.eq_of_beq_eq_true c1;have aEx:(pm.zip cs).map (·.2)=cs:=by rw [List.map_snd_zip]; omega
 have aEz:(pm.zip cs).map (·.1)=pm:=by rw [List.map_fst_zip]; omega
 obtain ⟨vs,ss,t1,t2,_⟩:=xA (cl:=cl) (fr:=fr) cs [] ⟨me,nx,dl⟩ r hr hne;have D:Dr P W0 F N aG (masks aG.toList pm []) (pm.zip cs) cl fr g a.tmps ⟨me,nx,dl⟩ vs ss:=by
  refine ⟨hcl,hF,fun j i c hp=>?_,qA (IS _),fun i hi=>?_,by rw [aEx]; exact t1,?_,hE,hf⟩
  ·have:=AK c2 j i c hp
   rwa [List.append_nil] at this
  ·have hmem:=xH c3 (i:=i) (by simpa using hi);rw [← aEz] at hmem;obtain ⟨⟨i',c⟩,h1,h2⟩:=List.mem_map.1 hmem;simp only at h2; subst h2;obtain ⟨j,hj⟩:=List.getElem?_of_mem h1;exact ⟨j,c,hj⟩
  rcases hfb with h1 | h1
  ·right;intro j i c hp;have h2:(pm.zip cs)[j]?=some (i,c):=hp;have h3:c∈cs:=by rw [← aEx]; exact List.mem_map.2 ⟨_,List.mem_of_getElem? h2,rfl⟩
   exact zY h1 h3
  left;obtain ⟨env',me',nx',bG,ms,rfl⟩:=h1;have h2:vs.length=cs.length:=t2.1;rw [List.length_zip]; omega
 have aK7:(pm.zip cs).length=cs.length:=by rw [List.length_zip]; omega
 have hI:Inv N aG (pm.zip cs) W0 R g a.tmps ⟨me,nx,dl⟩ vs ss 0 g [] (Array.replicate aG.size false) a { w with drawn:=w.drawn + 1 }:=by
  refine ⟨by simp,fun j oj hj hl=>(bP _ _ hl).elim,Nat.zero_le _,⟨⟨me,nx,dl⟩,t1.zero,hf,Nat.le_refl _,hd,?_⟩,G.ext.refl _ _,hN,fun j i c hp he hj=>by omega,fun j i c hp he hf' hl=>(bP _ _ hl).elim,fun j i c o v hp hv hl=>(bP _ _ hl).elim,fun j i c hp hl=>(bP _ _ hl).elim,fun j i c o hp hf' hl=>(bP _ _ hl).elim,fun t _=>rfl⟩;exact hm.drew
 have hdst:∀ {p i:Nat} {c:CO} {o:Oper} {t:Nat},(pm.zip cs)[p]?=some (i,c)→aG[i]?=some o→o.dst=some t→some t∈dsE aG.toList pm:=by
  intro p i c o t hp ho ht;unfold dsE;rw [List.mem_reverse];refine List.mem_map.2 ⟨i,?_,?_⟩
  ·rw [← aEz]; exact List.mem_map.2 ⟨_,List.mem_of_getElem? hp,rfl⟩
  have:aG.toList[i]?=some o:=by simpa using ho
  rw [this]; exact ht
 have hend:vs.length=(pm.zip cs).length∨Pan aG N cl fr (pm.zip cs) vs ss W0 R g a.tmps ⟨me,nx,dl⟩ Q:=by
  cases r with
  | no=>exact (hne rfl).elim
  | ok env' me' nx' bG ms=>left; rw [aK7]; exact t2.1
  | dL e me' nx' bG ms =>
   right;obtain ⟨c,s,e1,e2,e3⟩:=t2;refine ⟨c,s,e,me',nx',bG,by rw [aEx]; exact e1,e2,e3,fun g' x a' w' k1 k2 k3 k4 k5 k6 k7 k8=>?_⟩;refine hQ e me' nx' bG ms rfl g' x a' w' k1 k2 k3 k4 (fun t ht=>k5 t (fun i o ho hd'=>?_)) k6 k7 k8;have hi:i < aG.size:=by
    rcases Nat.lt_or_ge i aG.size with h' | h'
    ·exact h'
    rw [Array.getElem?_eq_none h'] at ho; cases ho
   obtain ⟨j,c',hp⟩:=D.cov i hi;exact ht (hdst hp ho hd')
 refine wp_region_any bU (Inv.any D hend ?_ _ 0 g [] _ a _ hI (by unfold left; exact Nat.le_trans List.countP_le_length (by simp)));intro hfull g' qW listed a' w' h hall;cases r with
 | no=>exact (hne rfl).elim
 | dL e me' nx' bG ms =>
  obtain ⟨c,s,e1,e2,e3⟩:=t2;have:cs.length≤vs.length:=by omega
  rw [List.getElem?_eq_none this] at e1; cases e1
 | ok env' me' nx' bG ms =>
  obtain ⟨_,b2,b3⟩:=t2;obtain ⟨s,q1,q2,q3,q4,q5⟩:=h.st;rw [b3] at q1; injection q1 with q1; subst q1;refine hK env' me' nx' bG ms rfl g' a' w' h.ext q2 q3 ?_ h.size q4 (aB.mid q5);have hvl:vs.length=pm.length:=by omega
  refine ⟨fun t q hq=>?_,fun t hq p v hp hg=>?_⟩
  ·obtain ⟨_,hg⟩:=AB hq;rw [Nat.sub_zero] at hg;unfold dsE at hg;have nL:q < pm.length:=by
    rcases Nat.lt_or_ge q pm.length with h' | h'
    ·exact h'
    rw [List.getElem?_eq_none (by simpa using h')] at hg; cases hg
   rw [List.getElem?_reverse (by simpa using nL)] at hg;simp only [List.length_map,List.getElem?_map,Option.map_eq_some_iff] at hg;obtain ⟨i,g1,g2⟩:=hg;obtain ⟨⟨i',c⟩,hp⟩:=sC (l:=pm.zip cs) (k:=pm.length - 1 - q) (by omega);have hi':i'=i:=by
    have:=congrArg (Option.map Prod.fst) hp;rw [← List.getElem?_map,aEz,g1] at this;simpa using this.symm
   subst hi';cases ho:aG.toList[i']? with
   | none=>rw [ho] at g2; cases g2
   | some o =>
    rw [ho] at g2;have g2':o.dst=some t:=g2;obtain ⟨v,hv⟩:=sC (l:=vs) (k:=pm.length - 1 - q) (by omega);obtain ⟨x,m1,m2⟩:=h.vl _ i' c o v hp hv (hall _ _ _ hp) (fun _=>by omega) (by simpa using ho);refine ⟨v,x,?_,m1,m2 t g2'⟩;rw [b2,hZ,List.append_nil,List.getElem?_reverse (by omega),hvl]; exact hv
  rw [oV] at hq;obtain ⟨x,n1,n2⟩:=hE p v hg;have hold:=h.old t (fun i o ho hd' _=>by
   have hi:i < aG.size:=by
    rcases Nat.lt_or_ge i aG.size with h' | h'
    ·exact h'
    rw [Array.getElem?_eq_none h'] at ho; cases ho
   obtain ⟨j,c',hp'⟩:=D.cov i hi;exact hq (hdst hp' ho hd'))
  refine ⟨x,dS (h.ext.le hf) _ _ n1,?_⟩;rw [hold];rw [hp] at n2; simpa using n2
def ZU:CC→Bool
 | .ops (.v none .bad _::_) _=>true
 | _=>false
def eL (F:FT) (N K:Nat) (J:Option Nat):Code→CC→Bool
 | .skip,.skip=>true
 | .label _,.skip=>true
 | .goto l,.exit j=>(match J with | some m=>Nat.beq l m && Nat.beq j 1000 | none=>false)
 | .goto _,c=>ZU c
 | .rangeFunc _ _ _ _,c=>ZU c
 | .region _ aG false,.ops cs wb=>V2 F N aG.toList aG.toList cs [] && AJ K (GA aG.toList []) wb && tZ K wb (GA aG.toList [])
 | .region _ aG true,.fZ pm cs wb=>aFw F N aG.toList pm cs && AJ K (dsE aG.toList pm) wb && tZ K wb (dsE aG.toList pm)
 | .seq x y,.seq c d=>eL F N K J x c && eL F N K J y d
 | .cond o x y,.cond c p q=>oqB [] c o && eL F N K J x p && eL F N K J y q
 | .block i x,.block j c=>Nat.beq i j && Nat.blt i 999 && eL F N K J x c
 | .loop x,.loop c=>eL F N K J x c
 | .scope x,c=>eL F N K none x c
 | .exit i,.exit j=>Nat.beq i j && Nat.blt i 999
 | .ret,.ret=>true
 | _,_=>false
structure Stt (W0:World) (R:List aA) (N K:Nat) (g:G) (fr:T SV) (me:T Ob) (nx:Pos) (dl:List SV) (a:Act) (w:World):Prop where
 YS:C0 g fr a.tmps
 kept:Kept K fr
 size:a.tmps.size=N
 HE:yN g dl a.defers
 fresh:g.fresh nx
 TM:aB W0 w (mem g me++R)
def CR (J:Option Nat) (g:G):X→Exit→Prop
 | .pH,e=>e=.normal
 | .ext i,e=>(i < 999∧e=.exit i)∨(i=1000∧∃ m,J=some m∧e=.goto m)
 | .ret,e=>e=.ret
 | .dL v,e=>∃ x,den g v=some x∧e=.panic (chain x)
def lwp (P:Program) (c:Code) (Q:Exit→Act→World→Prop) (a:Act) (w:World):Prop :=
 ∀ (b:Frame) (k:List Item) (cs:List Frame),∃ e a' w',Q e a' w'∧Arrives P (lone (b.at a (.code c::.inLoop c::k)) cs w) b k cs e a' w'
theorem OD {c:Code} {a:Act} {w:World} (h:lwp P c Q a w):(Code.loop c).wp P Q a w :=
 fun b k cs=>let ⟨e,a',w',q,arr⟩:=h b k cs; ⟨e,a',w',q,.of_steps (.one step_loop) arr⟩
theorem QG {c:Code} {a:Act} {w:World} (h:c.wp P (Exit.then (lwp P c Q) Q) a w):lwp P c Q a w:=by
 intro b k cs;obtain ⟨e,a₁,w₁,hq,harr⟩:=h b (.inLoop c::k) cs;cases e with
 | normal =>
  obtain ⟨e₂,a₂,w₂,hq₂,harr₂⟩:=hq b k cs;exact ⟨e₂,a₂,w₂,hq₂,.of_steps (Steps.trans harr (.one step_inLoop)) harr₂⟩
 | exit id=>exact ⟨_,a₁,w₁,hq,.pass (x:=.inLoop c) rfl (fun _ _=>.inl (by simp)) harr⟩
 | goto l=>exact ⟨_,a₁,w₁,hq,.pass (x:=.inLoop c) rfl (fun _ _=>.inl (by simp)) harr⟩
 | ret=>exact ⟨_,a₁,w₁,hq,.pass (x:=.inLoop c) rfl (fun _ _=>.inl (by simp)) harr⟩
 | panic ch=>exact ⟨_,a₁,w₁,hq,.pass (x:=.inLoop c) rfl (fun _ _=>.inl (by simp)) harr⟩
 | outgrown=>exact ⟨_,a₁,w₁,hq,.pass (x:=.inLoop c) rfl (fun _ _=>.inl (by simp)) harr⟩
theorem HR {r:RC} {k:T SV→T Ob→Pos→List SV→RC} {e:X} {fr':T SV} {me':T Ob} {nx':Pos} {bG:List SV} (h:thn r k=.ok e fr' me' nx' bG) :
  (∃ fr me nx dl,r=.ok .pH fr me nx dl∧k fr me nx dl=.ok e fr' me' nx' bG)∨(r=.ok e fr' me' nx' bG∧e≠.pH):=by
 unfold thn at h;cases r with
 | no=>cases h
 | ok x fr me nx dl =>
  cases x with
  | pH=>exact .inl ⟨fr,me,nx,dl,rfl,h⟩
  | ext i =>
   have h':RC.ok (.ext i) fr me nx dl=RC.ok e fr' me' nx' bG:=h;injection h' with h1 h2 h3 h4 h5; subst h1; subst h2; subst h3; subst h4; subst h5;exact .inr ⟨rfl,by intro e; cases e⟩
  | ret =>
   have h':RC.ok .ret fr me nx dl=RC.ok e fr' me' nx' bG:=h;injection h' with h1 h2 h3 h4 h5; subst h1; subst h2; subst h3; subst h4; subst h5;exact .inr ⟨rfl,by intro e; cases e⟩
  | dL v =>
   have h':RC.ok (.dL v) fr me nx dl=RC.ok e fr' me' nx' bG:=h;injection h' with h1 h2 h3 h4 h5; subst h1; subst h2; subst h3; subst h4; subst h5;exact .inr ⟨rfl,by intro e; cases e⟩
theorem wW {J:Option Nat} {g:G} {e:X} {E:Exit} {Z5:Act→World→Prop} {a:Act} {w:World} (h:CR J g e E) (he:e≠.pH) (hq:Q E a w):Exit.then Z5 Q E a w:=by
 cases e with
 | pH=>exact (he rfl).elim
 | ext i=>rcases h with ⟨_,rfl⟩ | ⟨_,m,_,rfl⟩ <;> exact hq
 | ret=>simp only [CR] at h; subst h; exact hq
 | dL v=>obtain ⟨x,_,rfl⟩:=h; exact hq
theorem UA {wb:List (Pos × Nat)} {r:RR} {e:X} {fr':T SV} {me':T Ob} {nx':Pos} {bG:List SV} (h:rgn wb fr r=.ok e fr' me' nx' bG) :
  (∃ env,r=.ok env me' nx' bG∧wbs wb env fr=some fr'∧e=.pH)∨(∃ v,r=.dL v me' nx' bG∧fr'=D0 wb fr∧e=.dL v):=by
 unfold rgn at h;cases r with
 | no=>cases h
 | ok env me nx dl =>
  have h':Option.rec (motive:=fun _=>RC) .no (fun fr=>.ok .pH fr me nx dl) (wbs wb env fr)=RC.ok e fr' me' nx' bG:=h;cases hw:wbs wb env fr with
  | none=>rw [hw] at h'; cases h'
  | some f =>
   rw [hw] at h';injection h' with h1 h2 h3 h4 h5; subst h1; subst h2; subst h3; subst h4; subst h5;exact .inl ⟨env,rfl,hw,rfl⟩
 | dL v me nx dl =>
  have h':RC.ok (.dL v) (D0 wb fr) me nx dl=RC.ok e fr' me' nx' bG:=h;injection h' with h1 h2 h3 h4 h5; subst h1; subst h2; subst h3; subst h4; subst h5;exact .inr ⟨v,rfl,rfl,rfl⟩
theorem GK {c:CC} {me:T Ob} {nx:Pos} {dl:List SV} (h:ZU c=true):code cl c fr me nx dl=.no:=by
 unfold ZU at h;split at h
 ·rfl
 cases h
theorem dA (hcl:pE P W0 cl) (hF:F.Ok P W0) (bU:P.follows .mixedOrders=true) (K:Nat):∀ (x:Code) (J:Option Nat) (c:CC),eL F N K J x c=true→∀ (fr:T SV) (me:T Ob) (nx:Pos) (dl:List SV) (g:G) (a:Act) (w:World) (e:X) (fr':T SV) (me':T Ob) (nx':Pos) (bG:List SV) (Q:Exit→Act→World→Prop),
  Stt W0 R N K g fr me nx dl a w→code cl c fr me nx dl=.ok e fr' me' nx' bG→(∀ g' E a' w',CR J g' e E→g.ext g' nx→nx.nat≤nx'.nat→Stt W0 R N K g' fr' me' nx' bG a' w'→Q E a' w')→x.wp P Q a w:=by
 intro x;induction x with
 | skip =>
  intro J c hc fr me nx dl g a w e fr' me' nx' bG Q hS hr hK;cases c <;> simp only [eL,Bool.false_eq_true] at hc;have h':RC.ok .pH fr me nx dl=RC.ok e fr' me' nx' bG:=hr;injection h' with h1 h2 h3 h4 h5; subst h1; subst h2; subst h3; subst h4; subst h5;exact wp_skip (hK g .normal a w rfl (G.ext.refl _ _) (Nat.le_refl _) hS)
 | label l =>
  intro J c hc fr me nx dl g a w e fr' me' nx' bG Q hS hr hK;cases c <;> simp only [eL,Bool.false_eq_true] at hc;have h':RC.ok .pH fr me nx dl=RC.ok e fr' me' nx' bG:=hr;injection h' with h1 h2 h3 h4 h5; subst h1; subst h2; subst h3; subst h4; subst h5;exact wp_label (hK g .normal a w rfl (G.ext.refl _ _) (Nat.le_refl _) hS)
 | rangeFunc f ps x y _ _ =>
  intro J c hc fr me nx dl g a w e fr' me' nx' bG Q hS hr hK;simp only [eL] at hc;rw [GK hc] at hr; cases hr
 | goto l =>
  intro J c hc fr me nx dl g a w e fr' me' nx' bG Q hS hr hK
  by_cases he:∃ j,c=.exit j
  ·obtain ⟨j,rfl⟩:=he;cases J with
   | none=>simp [eL] at hc
   | some m =>
    simp only [eL,Bool.and_eq_true] at hc;have e1:=Nat.eq_of_beq_eq_true hc.1; subst e1;have e2:=Nat.eq_of_beq_eq_true hc.2; subst e2;have h':RC.ok (.ext 1000) fr me nx dl=RC.ok e fr' me' nx' bG:=hr;injection h' with h1 h2 h3 h4 h5; subst h1; subst h2; subst h3; subst h4; subst h5;exact wp_goto (hK g _ a w (.inr ⟨rfl,_,rfl,rfl⟩) (G.ext.refl _ _) (Nat.le_refl _) hS)
  have hc':ZU c=true:=by
   cases c <;> first | exact (he ⟨_,rfl⟩).elim | simpa only [eL] using hc
  rw [GK hc'] at hr; cases hr
 | region id aG draw =>
  intro J c hc fr me nx dl g a w e fr' me' nx' bG Q hS hr hK;cases draw with
  | false =>
   cases c <;> simp only [eL,Bool.false_eq_true] at hc;rename_i cs wb;simp only [Bool.and_eq_true] at hc;obtain ⟨⟨c1,c2⟩,c3⟩:=hc;have hr':rgn wb fr (ops cl fr cs [] me nx dl)=.ok e fr' me' nx' bG:=hr;refine tE ?_;rcases UA hr' with ⟨env,h1,h2,rfl⟩ | ⟨v,h1,h2,rfl⟩
   ·refine rM hcl hF aG.toList cs [] [] me nx dl g a w _ c1 h1 (by intro e; cases e) (Env.start hS.YS) hS.size hS.HE hS.fresh hS.TM (fun env' eQ eV fC e1 g' a' w' k1 k2 k3 k4 k5 k6 k7=>?_) (fun v eQ eV fC e1=>by cases e1);injection e1 with e1 e2 e3 e4; subst e1; subst e2; subst e3; subst e4;obtain ⟨f1,f2⟩:=KN hS.kept c2 c3 k4 h2;exact hK g' .normal a' w' rfl k1 k3 ⟨f1,f2,k5,k6,k2,k7⟩
   refine rM hcl hF aG.toList cs [] [] me nx dl g a w _ c1 h1 (by intro e; cases e) (Env.start hS.YS) hS.size hS.HE hS.fresh hS.TM (fun env' eQ eV fC e1=>by cases e1) (fun v eQ eV fC e1 g' x a' w' k1 k2 k3 k4 k5 k6 k7 k8=>?_);injection e1 with e1 e2 e3 e4; subst e1; subst e2; subst e3; subst e4;obtain ⟨f1,f2⟩:=KO (wb:=wb) hS.kept c3 hS.YS k5;subst h2;refine hK g' _ a' w' ⟨x,k4,rfl⟩ k1 k3 ⟨fun p v hg=>?_,f2,k6,k7,k2,k8⟩;obtain ⟨y,y1,y2⟩:=f1 p v hg;exact ⟨y,dS (k1.le hS.fresh) _ _ y1,y2⟩
  | true =>
   cases c <;> simp only [eL,Bool.false_eq_true] at hc;rename_i pm cs wb;simp only [Bool.and_eq_true] at hc;obtain ⟨⟨c1,c2⟩,c3⟩:=hc;have hr':rgn wb fr (RD.rr (qI cs) (kF cl fr cs [] me nx dl))=.ok e fr' me' nx' bG:=hr;rcases UA hr' with ⟨env,h1,h2,rfl⟩ | ⟨v,h1,h2,rfl⟩
   ·cases hd:kF cl fr cs [] me nx dl with
    | no=>rw [hd] at h1; cases h1
    | dL v m n d ms =>
     rw [hd] at h1;have h1':(bif qI cs then RR.no else RR.dL v m n d)=RR.ok env me' nx' bG:=h1;cases hb:qI cs <;> (rw [hb] at h1'; cases h1')
    | ok aLp m n d ms =>
     rw [hd] at h1;have h1':RR.ok aLp m n d=RR.ok env me' nx' bG:=h1;injection h1' with e1 e2 e3 e4; subst e1; subst e2; subst e3; subst e4;refine AE hcl hF bU c1 hd (by intro e; cases e) (.inr ⟨_,_,_,_,_,rfl⟩) hS.YS hS.size hS.HE hS.fresh hS.TM (fun env' eQ eV fC ms1 e1 g' a' w' k1 k2 k3 k4 k5 k6 k7=>?_) (fun v eQ eV fC ms1 e1=>by cases e1);injection e1 with e1 e2 e3 e4; subst e1; subst e2; subst e3; subst e4;obtain ⟨f1,f2⟩:=KN hS.kept c2 c3 k4 h2;exact hK g' .normal a' w' rfl k1 k3 ⟨f1,f2,k5,k6,k2,k7⟩
   cases hd:kF cl fr cs [] me nx dl with
   | no=>rw [hd] at h1; cases h1
   | ok aLp m n d ms=>rw [hd] at h1; cases h1
   | dL v1 m n d ms =>
    rw [hd] at h1;have h1':(bif qI cs then RR.no else RR.dL v1 m n d)=RR.dL v me' nx' bG:=h1;cases hb:qI cs with
    | true=>rw [hb] at h1'; cases h1'
    | false =>
    rw [hb] at h1';injection h1' with e1 e2 e3 e4; subst e1; subst e2; subst e3; subst e4;refine AE hcl hF bU c1 hd (by intro e; cases e) (.inl hb) hS.YS hS.size hS.HE hS.fresh hS.TM (fun env' eQ eV fC ms1 e1=>by cases e1) (fun v eQ eV fC ms1 e1 g' x a' w' k1 k2 k3 k4 k5 k6 k7 k8=>?_);injection e1 with e1 e2 e3 e4; subst e1; subst e2; subst e3; subst e4;obtain ⟨f1,f2⟩:=KO (wb:=wb) hS.kept c3 hS.YS k5;subst h2;refine hK g' _ a' w' ⟨x,k4,rfl⟩ k1 k3 ⟨fun p v hg=>?_,f2,k6,k7,k2,k8⟩;obtain ⟨y,y1,y2⟩:=f1 p v hg;exact ⟨y,dS (k1.le hS.fresh) _ _ y1,y2⟩
 | seq x y ihx ihy =>
  intro J c hc fr me nx dl g a w e fr' me' nx' bG Q hS hr hK;cases c <;> simp only [eL,Bool.false_eq_true] at hc;rename_i c d;simp only [Bool.and_eq_true] at hc;have hr':thn (code cl c fr me nx dl) (code cl d)=.ok e fr' me' nx' bG:=hr;refine wp_seq ?_;rcases HR hr' with ⟨lQ,eQ,eV,fC,h1,h2⟩ | ⟨h1,h2⟩
  ·refine ihx J c hc.1 fr me nx dl g a w .pH lQ eQ eV fC _ hS h1 (fun g' E a' w' hE k1 k2 hS'=>?_);simp only [CR] at hE; subst hE;exact ihy J d hc.2 lQ eQ eV fC g' a' w' e fr' me' nx' bG Q hS' h2 (fun g'' E a'' w'' hE j1 j2 YP=>hK g'' E a'' w'' hE (k1.trans j1 k2) (Nat.le_trans k2 j2) YP)
  exact ihx J c hc.1 fr me nx dl g a w e fr' me' nx' bG _ hS h1 (fun g' E a' w' hE k1 k2 hS'=>wW hE h2 (hK g' E a' w' hE k1 k2 hS'))
 | cond o x y ihx ihy =>
  intro J c hc fr me nx dl g a w e fr' me' nx' bG Q hS hr hK;cases c <;> simp only [eL,Bool.false_eq_true] at hc;rename_i c p q;simp only [Bool.and_eq_true] at hc;have hr':cnd (on fr [] c) (code cl p fr me nx dl) (code cl q fr me nx dl)=.ok e fr' me' nx' bG:=hr;unfold cnd at hr';split at hr'
  ·rename_i t ht;have he:=GG (zN (Env.start hS.YS) hc.1.1 ht);cases t with
   | true=>exact wp_cond_true he (ihx J p hc.1.2 fr me nx dl g a w e fr' me' nx' bG Q hS (by simpa using hr') hK)
   | false=>exact wp_cond_false he (ihy J q hc.2 fr me nx dl g a w e fr' me' nx' bG Q hS (by simpa using hr') hK)
  ·cases hr'
 | block i x ih =>
  intro J c hc fr me nx dl g a w e fr' me' nx' bG Q hS hr hK;cases c <;> simp only [eL,Bool.false_eq_true] at hc;rename_i j c;simp only [Bool.and_eq_true] at hc;have:=Nat.eq_of_beq_eq_true hc.1.1; subst this;have hi:i < 999:=by have:=Nat.le_of_ble_eq_true hc.1.2; omega
  have hr':blk i (code cl c fr me nx dl)=.ok e fr' me' nx' bG:=hr;unfold blk at hr';refine wp_block ?_;cases hcd:code cl c fr me nx dl with
  | no=>rw [hcd] at hr'; cases hr'
  | ok x1 lQ eQ eV fC =>
   rw [hcd] at hr';refine ih J c hc.2 fr me nx dl g a w x1 lQ eQ eV fC _ hS hcd (fun g' E a' w' hE k1 k2 hS'=>?_);cases x1 with
   | pH =>
    have h':RC.ok .pH lQ eQ eV fC=RC.ok e fr' me' nx' bG:=hr';injection h' with h1 h2 h3 h4 h5; subst h1; subst h2; subst h3; subst h4; subst h5;simp only [CR] at hE; subst hE;exact hK g' .normal a' w' rfl k1 k2 hS'
   | ext l =>
    have h':(bif Nat.beq l i then RC.ok .pH lQ eQ eV fC else .ok (.ext l) lQ eQ eV fC)=RC.ok e fr' me' nx' bG:=hr';cases hb:Nat.beq l i with
    | true =>
     rw [hb] at h';have:=Nat.eq_of_beq_eq_true hb; subst this;injection h' with h1 h2 h3 h4 h5; subst h1; subst h2; subst h3; subst h4; subst h5;rcases hE with ⟨_,rfl⟩ | ⟨e1,_⟩
     ·simp only [Exit.inBlock,if_true];exact hK g' .normal a' w' rfl k1 k2 hS'
     omega
    | false =>
     rw [hb] at h';have hne:l≠i:=fun e=>by subst e; simp at hb
     injection h' with h1 h2 h3 h4 h5; subst h1; subst h2; subst h3; subst h4; subst h5;rcases hE with ⟨e1,rfl⟩ | ⟨e1,m,e2,rfl⟩
     ·simp only [Exit.inBlock,if_neg hne];exact hK g' (.exit l) a' w' (.inl ⟨e1,rfl⟩) k1 k2 hS'
     exact hK g' (.goto m) a' w' (.inr ⟨e1,m,e2,rfl⟩) k1 k2 hS'
   | ret =>
    have h':RC.ok .ret lQ eQ eV fC=RC.ok e fr' me' nx' bG:=hr';injection h' with h1 h2 h3 h4 h5; subst h1; subst h2; subst h3; subst h4; subst h5;simp only [CR] at hE; subst hE;exact hK g' .ret a' w' rfl k1 k2 hS'
   | dL v =>
    have h':RC.ok (.dL v) lQ eQ eV fC=RC.ok e fr' me' nx' bG:=hr';injection h' with h1 h2 h3 h4 h5; subst h1; subst h2; subst h3; subst h4; subst h5;obtain ⟨x,y1,rfl⟩:=hE;exact hK g' _ a' w' ⟨x,y1,rfl⟩ k1 k2 hS'
 | loop x ih =>
  intro J c hc fr me nx dl g a w e fr' me' nx' bG Q hS hr hK;cases c <;> simp only [eL,Bool.false_eq_true] at hc;rename_i c;have hr':XF 4096 (code cl c) fr me nx dl=.ok e fr' me' nx' bG:=hr;refine OD ?_;generalize 4096=n at hr';clear hr;induction n generalizing fr me nx dl g a w with
  | zero=>cases hr'
  | succ n ihn =>
   have hr2:thn (code cl c fr me nx dl) (XF n (code cl c))=.ok e fr' me' nx' bG:=hr';refine QG ?_;rcases HR hr2 with ⟨lQ,eQ,eV,fC,h1,h2⟩ | ⟨h1,h2⟩
   ·refine ih J c hc fr me nx dl g a w .pH lQ eQ eV fC _ hS h1 (fun g' E a' w' hE k1 k2 hS'=>?_);simp only [CR] at hE; subst hE;exact ihn lQ eQ eV fC g' a' w' hS' (fun g'' E a'' w'' hE j1 j2 YP=>hK g'' E a'' w'' hE (k1.trans j1 k2) (Nat.le_trans k2 j2) YP) h2
   exact ih J c hc fr me nx dl g a w e fr' me' nx' bG _ hS h1 (fun g' E a' w' hE k1 k2 hS'=>wW hE h2 (hK g' E a' w' hE k1 k2 hS'))
 | scope x ih =>
  intro J c hc fr me nx dl g a w e fr' me' nx' bG Q hS hr hK;have hc':eL F N K none x c=true:=by cases c <;> simpa only [eL] using hc
  refine wp_scope_straight (ih none c hc' fr me nx dl g a w e fr' me' nx' bG _ hS hr (fun g' E a' w' hE k1 k2 hS'=>?_));cases e with
  | pH=>simp only [CR] at hE; subst hE; exact hK g' _ a' w' rfl k1 k2 hS'
  | ext i =>
   rcases hE with ⟨e1,rfl⟩ | ⟨_,_,e2,_⟩
   ·exact hK g' (.exit i) a' w' (.inl ⟨e1,rfl⟩) k1 k2 hS'
   cases e2
  | ret=>simp only [CR] at hE; subst hE; exact hK g' _ a' w' rfl k1 k2 hS'
  | dL v=>obtain ⟨x,y1,rfl⟩:=hE; exact hK g' _ a' w' ⟨x,y1,rfl⟩ k1 k2 hS'
 | exit i =>
  intro J c hc fr me nx dl g a w e fr' me' nx' bG Q hS hr hK;cases c <;> simp only [eL,Bool.false_eq_true] at hc;simp only [Bool.and_eq_true] at hc;have:=Nat.eq_of_beq_eq_true hc.1; subst this;have hi:i < 999:=by have:=Nat.le_of_ble_eq_true hc.2; omega
  have h':RC.ok (.ext i) fr me nx dl=RC.ok e fr' me' nx' bG:=hr;injection h' with h1 h2 h3 h4 h5; subst h1; subst h2; subst h3; subst h4; subst h5;exact wp_exit (hK g _ a w (.inl ⟨hi,rfl⟩) (G.ext.refl _ _) (Nat.le_refl _) hS)
 | ret =>
  intro J c hc fr me nx dl g a w e fr' me' nx' bG Q hS hr hK;cases c <;> simp only [eL,Bool.false_eq_true] at hc;have h':RC.ok .ret fr me nx dl=RC.ok e fr' me' nx' bG:=hr;injection h' with h1 h2 h3 h4 h5; subst h1; subst h2; subst h3; subst h4; subst h5;exact wp_ret (hK g .ret a w rfl (G.ext.refl _ _) (Nat.le_refl _) hS)
 | _ =>
  intro J c hc;cases c <;> simp only [eL,Bool.false_eq_true] at hc
def aFv (F:FT) (N K:Nat) (x:Code) (c:CC):Bool:=match c with
 | .block 999 (.seq (.block 1000 (.seq c (.exit 999))) d)=>(match findLabel x 0 with | some r=>eL F N K (some 0) x c && eL F N K none r d | none=>false)
 | _=>false
def xK (F:FT) (N K:Nat):Code→CC→Bool
 | .seq x y,.seq c d=>eL F N K none x c && xK F N K y d
 | .scope x,c=>eL F N K none x c || aFv F N K x c
 | x,c=>eL F N K none x c
theorem tY (hcl:pE P W0 cl) (hF:F.Ok P W0) (bU:P.follows .mixedOrders=true) (K:Nat):∀ (x:Code) (c:CC),xK F N K x c=true→∀ (fr:T SV) (me:T Ob) (nx:Pos) (dl:List SV) (g:G) (a:Act) (w:World) (e:X) (fr':T SV) (me':T Ob) (nx':Pos) (bG:List SV) (Q:Exit→Act→World→Prop),
  Stt W0 R N K g fr me nx dl a w→code cl c fr me nx dl=.ok e fr' me' nx' bG→(∀ g' E a' w',CR none g' e E→g.ext g' nx→nx.nat≤nx'.nat→Stt W0 R N K g' fr' me' nx' bG a' w'→Q E a' w')→x.wp P Q a w:=by
 intro x;induction x with
 | seq x y ihx ihy =>
  intro c hc fr me nx dl g a w e fr' me' nx' bG Q hS hr hK;cases c <;> simp only [xK,eL,Bool.false_eq_true] at hc;rename_i c d;simp only [Bool.and_eq_true] at hc;have hr':thn (code cl c fr me nx dl) (code cl d)=.ok e fr' me' nx' bG:=hr;refine wp_seq ?_;rcases HR hr' with ⟨lQ,eQ,eV,fC,h1,h2⟩ | ⟨h1,h2⟩
  ·refine dA hcl hF bU K x none c hc.1 fr me nx dl g a w .pH lQ eQ eV fC _ hS h1 (fun g' E a' w' hE k1 k2 hS'=>?_);simp only [CR] at hE; subst hE;exact ihy d hc.2 lQ eQ eV fC g' a' w' e fr' me' nx' bG Q hS' h2 (fun g'' E a'' w'' hE j1 j2 YP=>hK g'' E a'' w'' hE (k1.trans j1 k2) (Nat.le_trans k2 j2) YP)
  exact dA hcl hF bU K x none c hc.1 fr me nx dl g a w e fr' me' nx' bG _ hS h1 (fun g' E a' w' hE k1 k2 hS'=>wW hE h2 (hK g' E a' w' hE k1 k2 hS'))
 | scope x ih =>
  intro c hc fr me nx dl g a w e fr' me' nx' bG Q hS hr hK;have hc':(eL F N K none x c || aFv F N K x c)=true:=by cases c <;> simpa only [xK] using hc
  simp only [Bool.or_eq_true] at hc';rcases hc' with hc' | hc'
  ·exact dA hcl hF bU K (.scope x) none c (by cases c <;> simpa only [eL] using hc') fr me nx dl g a w e fr' me' nx' bG Q hS hr hK
  unfold aFv at hc';split at hc'
  ·rename_i c d;split at hc'
   ·rename_i r hl;simp only [Bool.and_eq_true] at hc';have hr1:blk 999 (thn (blk 1000 (thn (code cl c fr me nx dl) (fun fr me nx dl=>.ok (.ext 999) fr me nx dl))) (code cl d))=.ok e fr' me' nx' bG:=hr;cases hcd:code cl c fr me nx dl with
    | no=>rw [hcd] at hr1; cases hr1
    | ok x1 lQ eQ eV fC =>
     rw [hcd] at hr1;cases x1 with
     | pH =>
      have h':RC.ok .pH lQ eQ eV fC=RC.ok e fr' me' nx' bG:=hr1;injection h' with h1 h2 h3 h4 h5; subst h1; subst h2; subst h3; subst h4; subst h5;refine wp_scope_jumps 0 (fun _ _=>False) (fun _ _=>0) hl (dA hcl hF bU K x (some 0) c hc'.1 fr me nx dl g a w .pH lQ eQ eV fC _ hS hcd (fun g' E a' w' hE k1 k2 hS'=>?_)) (fun _ _ h=>h.elim);simp only [CR] at hE; subst hE;exact hK g' .normal a' w' rfl k1 k2 hS'
     | ext i =>
      by_cases hi:i=1000
      ·subst hi;have h':blk 999 (code cl d lQ eQ eV fC)=RC.ok e fr' me' nx' bG:=hr1;refine wp_scope_jumps 0 (fun a' w'=>∃ g',g.ext g' nx∧nx.nat≤eV.nat∧Stt W0 R N K g' lQ eQ eV fC a' w') (fun _ _=>0) hl (dA hcl hF bU K x (some 0) c hc'.1 fr me nx dl g a w (.ext 1000) lQ eQ eV fC _ hS hcd (fun g' E a' w' hE k1 k2 hS'=>?_)) (fun a1 w1 hJ=>?_)
       ·rcases hE with ⟨e1,_⟩ | ⟨_,m,e2,rfl⟩
        ·omega
        injection e2 with e2; subst e2;exact ⟨rfl,g',k1,k2,hS'⟩
       obtain ⟨g1,k1,k2,hS1⟩:=hJ;cases hd:code cl d lQ eQ eV fC with
       | no=>rw [hd] at h'; cases h'
       | ok x2 fr2 me2 B4 dl2 =>
        rw [hd] at h';refine dA hcl hF bU K r none d hc'.2 lQ eQ eV fC g1 a1 w1 x2 fr2 me2 B4 dl2 _ hS1 hd (fun g' E a' w' hE j1 j2 hS'=>?_);cases x2 with
        | pH =>
         have h'':RC.ok .pH fr2 me2 B4 dl2=RC.ok e fr' me' nx' bG:=h';injection h'' with h1 h2 h3 h4 h5; subst h1; subst h2; subst h3; subst h4; subst h5;simp only [CR] at hE; subst hE;exact hK g' .normal a' w' rfl (k1.trans j1 k2) (Nat.le_trans k2 j2) hS'
        | ext i =>
         rcases hE with ⟨e1,rfl⟩ | ⟨_,_,e2,_⟩
         ·have h'':(bif Nat.beq i 999 then RC.ok .pH fr2 me2 B4 dl2 else .ok (.ext i) fr2 me2 B4 dl2)=RC.ok e fr' me' nx' bG:=h';cases hb:Nat.beq i 999 with
          | true=>exact absurd (Nat.eq_of_beq_eq_true hb) (by omega)
          | false =>
           rw [hb] at h'';injection h'' with h1 h2 h3 h4 h5; subst h1; subst h2; subst h3; subst h4; subst h5;exact hK g' (.exit i) a' w' (.inl ⟨e1,rfl⟩) (k1.trans j1 k2) (Nat.le_trans k2 j2) hS'
         cases e2
        | ret =>
         have h'':RC.ok .ret fr2 me2 B4 dl2=RC.ok e fr' me' nx' bG:=h';injection h'' with h1 h2 h3 h4 h5; subst h1; subst h2; subst h3; subst h4; subst h5;simp only [CR] at hE; subst hE;exact hK g' .ret a' w' rfl (k1.trans j1 k2) (Nat.le_trans k2 j2) hS'
        | dL v =>
         have h'':RC.ok (.dL v) fr2 me2 B4 dl2=RC.ok e fr' me' nx' bG:=h';injection h'' with h1 h2 h3 h4 h5; subst h1; subst h2; subst h3; subst h4; subst h5;obtain ⟨y,y1,rfl⟩:=hE;exact hK g' _ a' w' ⟨y,y1,rfl⟩ (k1.trans j1 k2) (Nat.le_trans k2 j2) hS'
      have hj:∀ g' E,CR (some 0) g' (.ext i) E→i < 999∧E=.exit i:=fun g' E hE=>by
       rcases hE with h | ⟨h,_⟩
       ·exact h
       exact (hi h).elim
      have hb1:Nat.beq i 1000=false:=by
       cases hb:Nat.beq i 1000 with
       | true=>exact (hi (Nat.eq_of_beq_eq_true hb)).elim
       | false=>rfl
      have h':blk 999 (thn (bif Nat.beq i 1000 then RC.ok .pH lQ eQ eV fC else .ok (.ext i) lQ eQ eV fC) (code cl d))=RC.ok e fr' me' nx' bG:=hr1;rw [hb1] at h';refine wp_scope_jumps 0 (fun _ _=>False) (fun _ _=>0) hl (dA hcl hF bU K x (some 0) c hc'.1 fr me nx dl g a w (.ext i) lQ eQ eV fC _ hS hcd (fun g' E a' w' hE k1 k2 hS'=>?_)) (fun _ _ h=>h.elim);obtain ⟨hi',rfl⟩:=hj g' E hE;have h'':(bif Nat.beq i 999 then RC.ok .pH lQ eQ eV fC else .ok (.ext i) lQ eQ eV fC)=RC.ok e fr' me' nx' bG:=h';cases hb:Nat.beq i 999 with
      | true=>exact absurd (Nat.eq_of_beq_eq_true hb) (by omega)
      | false =>
       rw [hb] at h'';injection h'' with h1 h2 h3 h4 h5; subst h1; subst h2; subst h3; subst h4; subst h5;exact hK g' (.exit i) a' w' (.inl ⟨hi',rfl⟩) k1 k2 hS'
     | ret =>
      have h':RC.ok .ret lQ eQ eV fC=RC.ok e fr' me' nx' bG:=hr1;injection h' with h1 h2 h3 h4 h5; subst h1; subst h2; subst h3; subst h4; subst h5;refine wp_scope_jumps 0 (fun _ _=>False) (fun _ _=>0) hl (dA hcl hF bU K x (some 0) c hc'.1 fr me nx dl g a w .ret lQ eQ eV fC _ hS hcd (fun g' E a' w' hE k1 k2 hS'=>?_)) (fun _ _ h=>h.elim);simp only [CR] at hE; subst hE;exact hK g' .ret a' w' rfl k1 k2 hS'
     | dL v =>
      have h':RC.ok (.dL v) lQ eQ eV fC=RC.ok e fr' me' nx' bG:=hr1;injection h' with h1 h2 h3 h4 h5; subst h1; subst h2; subst h3; subst h4; subst h5;refine wp_scope_jumps 0 (fun _ _=>False) (fun _ _=>0) hl (dA hcl hF bU K x (some 0) c hc'.1 fr me nx dl g a w (.dL v) lQ eQ eV fC _ hS hcd (fun g' E a' w' hE k1 k2 hS'=>?_)) (fun _ _ h=>h.elim);obtain ⟨y,y1,rfl⟩:=hE;exact hK g' _ a' w' ⟨y,y1,rfl⟩ k1 k2 hS'
   cases hc'
  cases hc'
 | _ =>
  intro c hc fr me nx dl g a w e fr' me' nx' bG Q hS hr hK;exact dA hcl hF bU K _ none c (by simpa only [xK] using hc) fr me nx dl g a w e fr' me' nx' bG Q hS hr hK
end
end
noncomputable section
structure SF (P:Program):Prop where
 inv:∀ x w,(invoke (.fn (.func 55) #[]) #[x]).run P w=.ok (.enter 55 #[x]) w
 quiet:∀ (x:Value) (W:World),CallsD P 55 #[x] .returning W fun e u' w'=>(∃ v,e=.returned v)∧u'=.returning∧∀ W0 L,aB W0 W L→aB W0 w' L
 caught:∀ (b o t:Nat) (C:List Value) (k:IntKind) (n:Int) (W0 W:World) (L:List aA),aB W0 W (Bk b t C::L)→o < C.length→CallsD P 55 #[.pointer (some ⟨b,o,none⟩)] (.panicking (chain (.int k n))) W fun e u' w'=>(∃ v,e=.returned v)∧settle u'=.returning∧aB W0 w' (Bk b t (C.set o (.int k n))::L)
def ZM (F:FT):ResultVar→A3→Bool
 | .tmp t,.t p=>Nat.beq p.nat (t + 1)
 | .cell t ty,.c p n ag=>Nat.beq p.nat (t + 1) && (if ag then F.many ty n else F.one ty)
 | _,_=>false
def xJ (F:FT):List ResultVar→List A3→Bool
 | [],[]=>true
 | r::rs,q::qs=>ZM F r q && xJ F rs qs
 | _,_=>false
def bits (K:Nat):Nat→Bool
 | 0=>true
 | n + 1=>K.testBit n && bits K n
theorem AS {K:Nat}:∀ {n i:Nat},bits K n=true→i < n→K.testBit i=true
 | 0,i,_,h=>by omega
 | n + 1,i,hb,h=>by
  simp only [bits,Bool.and_eq_true] at hb
  by_cases e:i=n
  ·subst e; exact hb.1
  exact AS hb.2 (by omega)
def V3 (F:FT) (fn:Func) (cf:CF):Bool:=match fn.body with
 | some c=>xK F fn.ntmps cf.keep c cf.body && xJ F fn.results.toList cf.res && Nat.ble cf.np fn.ntmps && bits cf.keep cf.np
 | none=>false
theorem xN:∀ (vs:List SV) (q:Pos) (fr:T SV) (p:Pos),(∃ i v,p.nat=q.nat + i∧vs[i]?=some v∧T.get p (args vs q fr)=some v)∨((∀ i,i < vs.length→p.nat≠q.nat + i)∧T.get p (args vs q fr)=T.get p fr)
 | [],q,fr,p=>.inr ⟨fun i h=>by simp at h,rfl⟩
 | v::r,q,fr,p=>by
  have h':args (v::r) q fr=args r q.succ (T.put q (some v) fr):=rfl;rw [h'];rcases xN r q.succ (T.put q (some v) fr) p with ⟨i,u,h1,h2,h3⟩ | ⟨h1,h2⟩
  ·rw [Pos.bW] at h1;exact .inl ⟨i + 1,u,by omega,by simpa using h2,h3⟩
  by_cases e:p=q
  ·subst e;exact .inl ⟨0,v,rfl,rfl,by rw [h2,EV.T.eS]⟩
  refine .inr ⟨fun i hi=>?_,by rw [h2,EV.T.bO _ q p fr e]⟩;cases i with
  | zero=>intro e'; exact e (eE (by omega))
  | succ i =>
   have:=h1 i (by simpa using hi);rw [Pos.bW] at this; omega
section
variable {P:Program} {W0 w:World} {R:List aA} {F:FT} {cl:CL} {g:G} {me:T Ob} {nx:Pos} {fr:T SV} {tm:Array Value}
theorem F6 {t:TypeId} (h1:One P t) (hm:aB W0 w (mem g me++R)) {a v:SV} {y:Value} (hy:den g a=some y) (h:ldV me a=some v):∃ x,den g v=some x∧∃ ad,y=.pointer (some ad)∧(loadVar t ad).run P w=.ok x w:=by
 unfold ldV at h;split at h
 ·rename_i i o;obtain ⟨q,e1,e2⟩:=fH hy;cases hc:cellsOf me i with
  | none=>simp [hc] at h
  | some cs =>
   rw [hc] at h;simp only [hZ] at h;obtain ⟨q',xs,k1,k2,k3⟩:=hD hm hc;obtain rfl:q=q':=by rw [e1] at k1; exact Option.some.inj k1
   obtain ⟨x,h3,h4⟩:=gZ k2 h;have hrd:=k3 o x h3;exact ⟨x,xD h4,_,e2,by simp only [loadVar,Sem.run_bind,h1 w,Result.andThen_ok,Bool.false_eq_true,if_false,run_load,hrd]⟩
 cases h
theorem UB {t:TypeId} {n:Nat} (h1:Many P t n) (hm:aB W0 w (mem g me++R)) {a v:SV} {y:Value} (hy:den g a=some y) (h:EZ me n a=some v):∃ x,den g v=some x∧∃ ad,y=.pointer (some ad)∧(loadVar t ad).run P w=.ok x w:=by
 unfold EZ at h;split at h
 ·rename_i i o;obtain ⟨q,e1,e2⟩:=fH hy;cases hc:cellsOf me i with
  | none=>simp [hc] at h
  | some cs =>
   rw [hc] at h;cases hsb:sub o n cs with
   | none=>simp [hsb] at h
   | some l =>
    simp only [hsb,Option.some.injEq] at h; subst h;obtain ⟨q',xs,k1,k2,k3⟩:=hD hm hc;obtain rfl:q=q':=by rw [e1] at k1; exact Option.some.inj k1
    obtain ⟨s1,s2⟩:=pM hsb;have hd:=eG n (fG o k2);rw [← s1] at hd;have hl:((xs.drop o).take n).length=n:=by simp [cF k2]; omega
    refine ⟨_,xB hd,_,e2,?_⟩;have hr:(loadCells ⟨q.1,o,none⟩ n).run P w=.ok ((xs.drop o).take n).toArray w:=by
     have:=gL (P:=P) (w:=w) (a:=⟨q.1,o,none⟩) (cs:=(xs.drop o).take n) (fun j hj=>by
      rw [dI];have hj':j < n:=by rw [hl] at hj; exact hj
      have:xs[o + j]?=((xs.drop o).take n)[j]?:=by rw [List.getElem?_take_of_lt hj',List.getElem?_drop]
      rw [← this];have hlt:o + j < xs.length:=by rw [cF k2]; omega
      rw [List.getElem?_eq_getElem hlt];exact k3 _ _ (List.getElem?_eq_getElem hlt))
     rw [hl] at this; exact this
    simp only [loadVar,Sem.run_bind,(h1 w).1,(h1 w).2,Result.andThen_ok,if_true,hr,Sem.run_pure]
 cases h
theorem IA (hF:F.Ok P W0) (hfr:C0 g fr tm) (hm:aB W0 w (mem g me++R)) {r:ResultVar} {q:A3} {v:SV} (hc:ZM F r q=true) (h:F7 q fr me=some v):∃ x,den g v=some x∧(PA tm r).run P w=.ok x w:=by
 unfold ZM at hc;split at hc
 ·rename_i t p;have hp:=Nat.eq_of_beq_eq_true hc;have h':T.get p fr=some v:=h;obtain ⟨x,h1,h2⟩:=hfr p v h';rw [hp] at h2;refine ⟨x,h1,?_⟩;have h3:tm[t]?=some x:=by simpa using h2
  simp [PA,Array.getD_eq_getD_getElem?,h3]
 ·rename_i t ty p n ag;simp only [Bool.and_eq_true] at hc;have hp:=Nat.eq_of_beq_eq_true hc.1;have h':Option.rec (motive:=fun _=>Option SV) none (fun v=>bif ag then EZ me n v else ldV me v) (T.get p fr)=some v:=h;cases hg:T.get p fr with
  | none=>rw [hg] at h'; cases h'
  | some u =>
   rw [hg] at h';obtain ⟨y,h1,h2⟩:=hfr p u hg;rw [hp] at h2;have h3:tm[t]?=some y:=by simpa using h2
   cases ag with
   | true =>
    have hc2:F.many ty n=true:=by simpa using hc.2
    obtain ⟨x,k1,ad,k2,k3⟩:=UB (hF.many _ _ hc2) hm h1 (by simpa using h');subst k2;exact ⟨x,k1,by simp only [PA,Array.getD_eq_getD_getElem?,h3,Option.getD_some,asAddr,Sem.run_bind,Sem.run_pure,Result.andThen_ok,k3]⟩
   | false =>
    have hc2:F.one ty=true:=by simpa using hc.2
    obtain ⟨x,k1,ad,k2,k3⟩:=F6 (hF.one _ hc2) hm h1 (by simpa using h');subst k2;exact ⟨x,k1,by simp only [PA,Array.getD_eq_getD_getElem?,h3,Option.getD_some,asAddr,Sem.run_bind,Sem.run_pure,Result.andThen_ok,k3]⟩
 cases hc
theorem N6 {v:SV} {x:Value} (h:nt v=true) (hd:den g v=some x):aT g v=some x:=by
 cases v with
 | t l=>cases h
 | _=>exact hd
theorem vU (hF:F.Ok P W0) (hfr:C0 g fr tm) (hm:aB W0 w (mem g me++R)):∀ {rs:List ResultVar} {qs:List A3} {vs:List SV},xJ F rs qs=true→yD qs fr me=some vs→∃ xs,aF (aT g) vs=some xs∧(rs.mapM (PA tm)).run P w=.ok xs w
 | [],[],vs,_,h=>by
  have h':some []=some vs:=h;injection h' with h'; subst h'; exact ⟨[],rfl,rfl⟩
 | r::rs,q::qs,vs,hc,h=>by
  simp only [xJ,Bool.and_eq_true] at hc;have h':Option.rec (motive:=fun _=>Option (List SV)) none (fun v=>bif nt v then Option.rec (motive:=fun _=>Option (List SV)) none (fun vs=>some (v::vs)) (yD qs fr me) else none) (F7 q fr me)=some vs:=h;cases hv:F7 q fr me with
  | none=>rw [hv] at h'; cases h'
  | some v =>
   rw [hv] at h';dsimp only at h';cases hn:nt v with
   | false=>rw [hn] at h'; cases h'
   | true =>
    rw [hn] at h';simp only [cond_true] at h';cases hl:yD qs fr me with
    | none=>rw [hl] at h'; cases h'
    | some us =>
     rw [hl] at h';injection h' with h'; subst h';obtain ⟨x,h1,h2⟩:=IA hF hfr hm hc.1 hv;obtain ⟨xs,h3,h4⟩:=vU hF hfr hm hc.2 hl;refine ⟨x::xs,bT (N6 hn h1) h3,?_⟩;simp only [List.mapM_cons,Sem.run_bind,Sem.run_pure,Result.andThen_ok,h2,h4]
 | [],_::_,_,hc,_=>by cases hc
 | _::_,[],_,hc,_=>by cases hc
theorem zH (hF:F.Ok P W0) (hfr:C0 g fr tm) (hm:aB W0 w (mem g me++R)) {fn:Func} {qs:List A3} {v:SV} {me':T Ob} {nx':Pos} (hc:xJ F fn.results.toList qs=true) (h:res qs fr me nx=.ret v me' nx'):me'=me∧nx'=nx∧∃ x,den g v=some x∧(results fn tm).run P w=.ok x w:=by
 have h':Option.rec (motive:=fun _=>RF) .no (fun vs=>.ret (tup vs) me nx) (yD qs fr me)=RF.ret v me' nx':=h;cases hl:yD qs fr me with
 | none=>rw [hl] at h'; cases h'
 | some vs =>
  rw [hl] at h';injection h' with h1 h2 h3; subst h1; subst h2; subst h3;refine ⟨rfl,rfl,?_⟩;obtain ⟨xs,k1,k2⟩:=vU hF hfr hm hc hl;have hlen:=cF k1;have hres:(results fn tm).run P w=.ok (if h:xs.toArray.size=1 then xs.toArray[0]'(by omega) else .tuple xs.toArray) w:=by
   rw [iK,Sem.run_bind,Array.mapM_eq_mapM_toList,Sem.run_map,k2]
   by_cases hs:xs.toArray.size=1
   ·simp only [Result.andThen_ok,dif_pos hs,Sem.run_pure]
   simp only [Result.andThen_ok,dif_neg hs,Sem.run_pure]
  rw [hres];match vs,xs,k1,hlen with
  | [],[],k1,_=>exact ⟨_,rfl,rfl⟩
  | [u],[x],k1,_ =>
   obtain ⟨y,ys,e1,e2,e3⟩:=aK k1;injection e3 with e3 e4; subst e3;exact ⟨x,xC e1,by simp⟩
  | u1::u2::r,x1::x2::ys,k1,_=>exact ⟨.tuple (x1::x2::ys).toArray,by show (aF (aT g) _).map _=_; rw [k1]; rfl,by simp⟩
theorem oQ (hE:SF P) {fn:Func} {Rr:Ending→World→Prop}:∀ {dl:List SV} {ds:List Deferred} {w:World},yN g dl ds→(∀ w',(∀ W0 L,aB W0 w L→aB W0 w' L)→∃ v,(results fn tm).run P w'=.ok v w'∧Rr (.returned v) w')→Leaves P fn tm Rr ds .returning w
 | [],ds,w,hd,h=>by
  have:ds=[]:=hd;subst this;exact h w (fun _ _ h=>h)
 | d::dl,ds,w,hd,h=>by
  obtain ⟨x,r,rfl,h1,h2⟩:=hd;refine leaves_cons (by intro e; cases e) (hE.inv x w) ((hE.quiet x w).mono ?_);rintro e u' w' ⟨⟨v,rfl⟩,rfl,k⟩;exact oQ hE h2 (fun w'' k2=>h w'' (fun W0 L hs=>k2 W0 L (k W0 L hs)))
theorem lC:∀ (dl:List SV) (me:T Ob),ended dl none me=some (none,me)
 | [],me=>rfl
 | d::dl,me=>lC dl me
theorem IW (hE:SF P) {fn:Func} {Rr:Ending→World→Prop} {e:SV} {x:Value} (hx:den g e=some x):∀ {dl:List SV} {ds:List Deferred} {w:World} {q:Option SV × T Ob},yN g dl ds→ended dl (some e) me=some q→aB W0 w (mem g me++R) →
  (∀ w',aB W0 w' (mem g q.2++R)→(q.1=none→∃ v,(results fn tm).run P w'=.ok v w'∧Rr (.returned v) w')∧(∀ e',q.1=some e'→e'=e∧Rr (.panicked (chain x)) w'))→Leaves P fn tm Rr ds (.panicking (chain x)) w
 | [],ds,w,q,hd,h,hm,hK=>by
  have:ds=[]:=hd;subst this;have h':some (some e,me)=some q:=h;injection h' with h'; subst h';exact ((hK w hm).2 e rfl).2
 | d::dl,ds,w,q,hd,h,hm,hK=>by
  obtain ⟨y,r,rfl,h1,h2⟩:=hd;have h':(match (generalizing:=false) d,e with
   | .p i o,.i k n=>(match (generalizing:=false) T.get i me with
    | some (.c t cs)=>Option.rec (motive:=fun _=>Option (Option SV × T Ob)) none (fun cs=>ended dl none (T.put i (some (.c t cs)) me)) (iP o [.i k n] cs)
    | _=>none)
   | _,_=>none)=some q:=h
  split at h'
  ·rename_i i o k n;have ex:=cR hx; subst ex;split at h'
   ·rename_i t cs hg;cases hl:iP o [SV.i k n] cs with
    | none=>rw [hl] at h'; cases h'
    | some cs' =>
     rw [hl] at h';have h3:ended dl none (T.put i (some (.c t cs')) me)=some q:=h';rw [lC] at h3;injection h3 with h3; subst h3;obtain ⟨b3,b4⟩:=iO _ _ _ _ hl;obtain ⟨qa,e1,rfl⟩:=fH h1;obtain ⟨xx,k1⟩:=(fO hm hg).aP;obtain ⟨⟨k2,k3⟩,k4⟩:=k1.aS.aN;obtain rfl:qa=(xx.1,xx.2.1):=by rw [e1] at k2; exact Option.some.inj k2
     have hxl:=cF k3;have ho:o < xx.2.2.length:=by rw [hxl]; simp only [List.length_cons,List.length_nil] at b4; omega
     refine leaves_cons (by intro e; cases e) (hE.inv _ w) ((hE.caught _ o t xx.2.2 k n W0 w _ k4 ho).mono ?_);rintro e' u' w' ⟨⟨v,rfl⟩,hu,hst⟩;show Leaves P fn tm Rr r (settle u') w';rw [hu];have hd:aF (aE g) cs'=some (xx.2.2.set o (.int k n)):=by
      have hdd:=cY (cY (eG o k3) (bT (show aE g (.i k n)=some (.int k n) from rfl) (show aF (aE g) []=some [] from rfl))) (fG (o + 1) k3);rw [b3];simp only [List.length_cons,List.length_nil,Nat.zero_add];rw [hdd,List.set_eq_take_append_cons_drop,if_pos ho];simp
     have hst':aB W0 w' (mem g (T.put i (some (.c t cs')) me)++R):=jA (aB.bR (xx.1,xx.2.1,xx.2.2.set o (.int k n)) (aB.cB (aB.bB ⟨e1,hd⟩ hst)));exact oQ hE h2 (fun w'' k=>(hK w'' (k _ _ hst')).1 rfl)
   cases h'
  cases h'
theorem tT (hF:F.Ok P W0) (hE:SF P) {fn:Func} {rs:List A3} {e:X} {dl:List SV} {a:Act} {N K:Nat} {E:Exit} (hc:xJ F fn.results.toList rs=true) (hS:Stt W0 R N K g fr me nx dl a w) (hX:CR none g e E) {r:RF} (hr:leave rs (.ok e fr me nx dl)=r) (hne:r≠.no) {Rr:Ending→World→Prop}
  (hret:∀ v me' nx',r=.ret v me' nx'→∀ x w',nx'=nx→den g v=some x→aB W0 w' (mem g me'++R)→Rr (.returned x) w') (FI:∀ v me' nx',r=.dL v me' nx'→∀ x w',nx'=nx→den g v=some x→aB W0 w' (mem g me'++R)→Rr (.panicked (chain x)) w'):bodyPostD P fn Rr E a w:=by
 have norm:(Option.rec (motive:=fun _=>RF) .no (fun q=>res rs fr q.2 nx) (ended dl none me))=r→Leaves P fn a.tmps Rr a.defers .returning w:=by
  intro h;rw [lC] at h;have h':res rs fr me nx=r:=h;cases hres:res rs fr me nx with
  | no=>rw [hres] at h'; exact (hne h'.symm).elim
  | dL v m n =>
   exfalso;have h2:Option.rec (motive:=fun _=>RF) .no (fun vs=>.ret (tup vs) me nx) (yD rs fr me)=RF.dL v m n:=hres;cases hl:yD rs fr me with
   | none=>rw [hl] at h2; cases h2
   | some vs=>rw [hl] at h2; cases h2
  | ret v m n =>
   rw [hres] at h';refine oQ hE hS.HE (fun w' k=>?_);have hst:=k _ _ hS.TM;obtain ⟨e1,e2,x,e3,e4⟩:=zH (fn:=fn) hF hS.YS hst hc hres;subst e1; subst e2;exact ⟨x,e4,hret v _ _ h'.symm x w' rfl e3 hst⟩
 cases e with
 | pH=>simp only [CR] at hX; subst hX; exact norm hr
 | ext i =>
  have:RF.no=r:=hr;exact (hne this.symm).elim
 | ret=>simp only [CR] at hX; subst hX; exact norm hr
 | dL v =>
  obtain ⟨x,hx,rfl⟩:=hX;have h':Option.rec (motive:=fun _=>RF) .no (fun q:Option SV × T Ob=>Option.rec (motive:=fun _=>RF) (res rs fr q.2 nx) (fun e=>.dL e q.2 nx) q.1) (ended dl (some v) me)=r:=hr;cases hen:ended dl (some v) me with
  | none=>rw [hen] at h'; exact (hne h'.symm).elim
  | some q =>
   rw [hen] at h';obtain ⟨q1,q2⟩:=q;refine IW hE hx hS.HE hen hS.TM (fun w' hst=>⟨fun hq=>?_,fun e' hq=>?_⟩)
   ·simp only at hq; subst hq;have h2:res rs fr q2 nx=r:=h';cases hres:res rs fr q2 nx with
    | no=>rw [hres] at h2; exact (hne h2.symm).elim
    | dL v m n =>
     exfalso;have h3:Option.rec (motive:=fun _=>RF) .no (fun vs=>.ret (tup vs) q2 nx) (yD rs fr q2)=RF.dL v m n:=hres;cases hl:yD rs fr q2 with
     | none=>rw [hl] at h3; cases h3
     | some vs=>rw [hl] at h3; cases h3
    | ret v m n =>
     rw [hres] at h2;obtain ⟨e1,e2,y,e3,e4⟩:=zH (fn:=fn) hF hS.YS hst hc hres;subst e1; subst e2;exact ⟨y,e4,hret v _ _ h2.symm y w' rfl e3 hst⟩
   simp only at hq; subst hq;have he:e'=v:=by
    cases dl with
    | nil =>
     have:some (some v,me)=some (some e',q2):=hen;injection this with this; injection this with t1 t2; injection t1 with t1; exact t1.symm
    | cons d dl =>
     exfalso;have h3:(match (generalizing:=false) d,v with
      | .p i o,.i k n=>(match (generalizing:=false) T.get i me with
       | some (.c t cs)=>Option.rec (motive:=fun _=>Option (Option SV × T Ob)) none (fun cs=>ended dl none (T.put i (some (.c t cs)) me)) (iP o [.i k n] cs)
       | _=>none)
      | _,_=>none)=some (some e',q2):=hen
     split at h3
     ·rename_i i o k n;split at h3
      ·rename_i t cs hg;cases hl:iP o [SV.i k n] cs with
       | none=>rw [hl] at h3; cases h3
       | some cs' =>
        rw [hl] at h3;have h4:ended dl none (T.put i (some (.c t cs')) me)=some (some e',q2):=h3;rw [lC] at h4;injection h4 with h4; injection h4 with h4; cases h4
      cases h3
     cases h3
   subst he;have h2:RF.dL e' q2 nx=r:=h';exact ⟨rfl,FI e' q2 nx h2.symm x w' rfl hx hst⟩
theorem wU (hcl:pE P W0 cl) (hF:F.Ok P W0) (bU:P.follows .mixedOrders=true) (hE:SF P) {f:Nat} {fn:Func} {cf:CF} (hf:P.funcs[f]?=some fn) (hc:V3 F fn cf=true) {vs:List SV} {r:RF} (hr:runK cl cf vs me nx=r) (hne:r≠.no)
  (W:World) (xs:List Value) (hfr:g.fresh nx) (hd:aF (den g) vs=some xs) (hm:aB W0 W (mem g me++R)) {Rr:Ending→World→Prop}
  (hret:∀ v me' nx',r=.ret v me' nx'→∀ g' x w',g.ext g' nx→g'.fresh nx'→nx.nat≤nx'.nat→den g' v=some x→aB W0 w' (mem g' me'++R)→Rr (.returned x) w')
  (FI:∀ v me' nx',r=.dL v me' nx'→∀ g' x w',g.ext g' nx→g'.fresh nx'→nx.nat≤nx'.nat→den g' v=some x→aB W0 w' (mem g' me'++R)→Rr (.panicked (chain x)) w'):Calls P f xs.toArray W Rr:=by
 unfold V3 at hc;cases hb:fn.body with
 | none=>rw [hb] at hc; cases hc
 | some c =>
  rw [hb] at hc;simp only [Bool.and_eq_true] at hc;obtain ⟨⟨⟨c1,c2⟩,c3⟩,c4⟩:=hc;have h':(bif Nat.beq (len vs) cf.np then leave cf.res (code cl cf.body (args vs .h .e) me nx []) else .no)=r:=hr;cases hn:Nat.beq (len vs) cf.np with
  | false=>rw [hn] at h'; exact (hne h'.symm).elim
  | true =>
   rw [hn] at h';simp only [cond_true] at h';have hlen:=Nat.eq_of_beq_eq_true hn;rw [len_eq] at hlen;have hxl:=cF hd;have hnp:cf.np≤fn.ntmps:=Nat.le_of_ble_eq_true c3;refine calls_of_wp_defers hf hb ?_;have hS:Stt W0 R fn.ntmps cf.keep g (args vs .h .e) me nx [] { tmps:=xs.toArray++Array.replicate (fn.ntmps - xs.toArray.size) undef,defers:=[] } W:=by
    refine ⟨fun p v hg=>?_,fun p v hg=>?_,?_,rfl,hfr,hm⟩
    ·rcases xN vs .h .e p with ⟨i,u,h1,h2,h3⟩ | ⟨h1,h2⟩
     ·rw [hg] at h3; injection h3 with h3; subst h3;obtain ⟨x,h4,h5⟩:=gZ hd h2;refine ⟨x,h5,?_⟩;rw [zQ] at h1;rw [show p.nat - 1=i by omega];have hlt:i < xs.length:=by
       rcases Nat.lt_or_ge i xs.length with h' | h'
       ·exact h'
       rw [List.getElem?_eq_none h'] at h4; cases h4
      rw [Array.getElem?_append_left (by simpa using hlt)];simpa using h4
     rw [h2,EV.T.nS] at hg; cases hg
    ·rcases xN vs .h .e p with ⟨i,u,h1,h2,h3⟩ | ⟨h1,h2⟩
     ·rw [zQ] at h1;have hlt:i < vs.length:=by
       rcases Nat.lt_or_ge i vs.length with h' | h'
       ·exact h'
       rw [List.getElem?_eq_none h'] at h2; cases h2
      rw [show p.nat - 1=i by omega];exact AS c4 (by omega)
     rw [h2,EV.T.nS] at hg; cases hg
    simp; omega
   cases hcd:code cl cf.body (args vs .h .e) me nx [] with
   | no=>rw [hcd] at h'; exact (hne h'.symm).elim
   | ok e lQ eQ eV fC =>
    rw [hcd] at h';refine tY hcl hF bU cf.keep c cf.body c1 _ _ _ _ g _ W e lQ eQ eV fC _ hS hcd (fun g' E a' w' hX k1 k2 hS'=>?_);exact tT hF hE c2 hS' hX h' hne (fun v m n e1 x w' e2 e3 e4=>hret v m n e1 g' x w' k1 (e2 ▸ hS'.fresh) (e2 ▸ k2) e3 e4) (fun v m n e1 x w' e2 e3 e4=>FI v m n e1 g' x w' k1 (e2 ▸ hS'.fresh) (e2 ▸ k2) e3 e4)
end
end
noncomputable section
def X8 (Q:Nat→Prop):List Nat→Prop
 | []=>True
 | x::r=>Q x∧X8 Q r
def in2 (l:List (Nat × Nat)) (a b:Nat):Bool:=match l with
 | []=>false
 | x::r=>(Nat.beq x.1 a && Nat.beq x.2 b) || in2 r a b
def xV (Q:Nat→Nat→Prop):List (Nat × Nat)→Prop
 | []=>True
 | x::r=>Q x.1 x.2∧xV Q r
theorem YD {Q:Nat→Nat→Prop}:∀ {l:List (Nat × Nat)} {a b:Nat},xV Q l→in2 l a b=true→Q a b
 | x::r,a,b,⟨h1,h2⟩,h=>by
  simp only [in2,Bool.or_eq_true,Bool.and_eq_true] at h;rcases h with h | h
  ·have e1:=Nat.eq_of_beq_eq_true h.1; have e2:=Nat.eq_of_beq_eq_true h.2; subst e1; subst e2; exact h1
  exact YD h2 h
def in3 (l:List (Nat × Nat × Nat)) (a b c:Nat):Bool:=match l with
 | []=>false
 | x::r=>(Nat.beq x.1 a && Nat.beq x.2.1 b && Nat.beq x.2.2 c) || in3 r a b c
def CU (Q:Nat→Nat→Nat→Prop):List (Nat × Nat × Nat)→Prop
 | []=>True
 | x::r=>Q x.1 x.2.1 x.2.2∧CU Q r
theorem JJ {Q:Nat→Nat→Nat→Prop}:∀ {l:List (Nat × Nat × Nat)} {a b c:Nat},CU Q l→in3 l a b c=true→Q a b c
 | x::r,a,b,c,⟨h1,h2⟩,h=>by
  simp only [in3,Bool.or_eq_true,Bool.and_eq_true] at h;rcases h with h | h
  ·have e1:=Nat.eq_of_beq_eq_true h.1.1; have e2:=Nat.eq_of_beq_eq_true h.1.2; have e3:=Nat.eq_of_beq_eq_true h.2; subst e1; subst e2; subst e3; exact h1
  exact JJ h2 h
def in4 (l:List (Nat × Nat × Nat × Nat)) (a b c d:Nat):Bool:=match l with
 | []=>false
 | x::r=>(Nat.beq x.1 a && Nat.beq x.2.1 b && Nat.beq x.2.2.1 c && Nat.beq x.2.2.2 d) || in4 r a b c d
def CS (Q:Nat→Nat→Nat→Nat→Prop):List (Nat × Nat × Nat × Nat)→Prop
 | []=>True
 | x::r=>Q x.1 x.2.1 x.2.2.1 x.2.2.2∧CS Q r
theorem CA {Q:Nat→Nat→Nat→Nat→Prop}:∀ {l:List (Nat × Nat × Nat × Nat)} {a b c d:Nat},CS Q l→in4 l a b c d=true→Q a b c d
 | x::r,a,b,c,d,⟨h1,h2⟩,h=>by
  simp only [in4,Bool.or_eq_true,Bool.and_eq_true] at h;rcases h with h | h
  ·have e1:=Nat.eq_of_beq_eq_true h.1.1.1; have e2:=Nat.eq_of_beq_eq_true h.1.1.2; have e3:=Nat.eq_of_beq_eq_true h.1.2; have e4:=Nat.eq_of_beq_eq_true h.2; subst e1; subst e2; subst e3; subst e4; exact h1
  exact CA h2 h
def inK (l:List (Nat × IntKind)) (a:Nat) (k:IntKind):Bool:=match l with
 | []=>false
 | x::r=>(Nat.beq x.1 a && kN x.2 k) || inK r a k
def aGh (Q:Nat→IntKind→Prop):List (Nat × IntKind)→Prop
 | []=>True
 | x::r=>Q x.1 x.2∧aGh Q r
theorem YC {Q:Nat→IntKind→Prop}:∀ {l:List (Nat × IntKind)} {a:Nat} {k:IntKind},aGh Q l→inK l a k=true→Q a k
 | x::r,a,k,⟨h1,h2⟩,h=>by
  simp only [inK,Bool.or_eq_true,Bool.and_eq_true] at h;rcases h with h | h
  ·have e1:=Nat.eq_of_beq_eq_true h.1; have e2:=dO h.2; subst e1; subst e2; exact h1
  exact YC h2 h
def inZ (l:List (Nat × List SV)) (a:Nat) (z:List SV):Bool:=match l with
 | []=>false
 | x::r=>bif Nat.beq x.1 a then allA z x.2 else inZ r a z
def GW (Q:Nat→List SV→Prop):List (Nat × List SV)→Prop
 | []=>True
 | x::r=>Q x.1 x.2∧GW Q r
theorem JF {Q:Nat→List SV→Prop}:∀ {l:List (Nat × List SV)} {a:Nat} {z:List SV},GW Q l→inZ l a z=true→Q a z
 | x::r,a,z,⟨h1,h2⟩,h=>by
  simp only [inZ] at h;cases hb:Nat.beq x.1 a with
  | true =>
   rw [hb] at h;have e1:=Nat.eq_of_beq_eq_true hb; subst e1;rw [jD lB (show allA z x.2=true from h)]; exact h1
  | false=>rw [hb] at h; exact JF h2 h
def inB (l:List (Nat × List SV × List (Nat × Nat))) (a:Nat) (z:List SV) (ps:List (Nat × Nat × Nat)):Bool:=match l with
 | []=>false
 | x::r=>bif Nat.beq x.1 a then allA z x.2.1 && (ps.all fun p=>match nth x.2.2 p.1 with
  | some q=>Nat.beq q.1 p.2.1 && Nat.beq q.2 p.2.2
  | none=>false) else inB r a z ps
def GY (Q:Nat→List SV→List (Nat × Nat)→Prop):List (Nat × List SV × List (Nat × Nat))→Prop
 | []=>True
 | x::r=>Q x.1 x.2.1 x.2.2∧GY Q r
theorem JI {Q:Nat→List SV→List (Nat × Nat)→Prop}:∀ {l:List (Nat × List SV × List (Nat × Nat))} {a:Nat} {z:List SV} {ps:List (Nat × Nat × Nat)},GY Q l→inB l a z ps=true→∃ pl,Q a z pl∧∀ p∈ps,pl[p.1]?=some (p.2.1,p.2.2)
 | x::r,a,z,ps,⟨h1,h2⟩,h=>by
  simp only [inB] at h;cases hb:Nat.beq x.1 a with
  | true =>
   rw [hb] at h;simp only [cond_true,Bool.and_eq_true,List.all_eq_true] at h;have e1:=Nat.eq_of_beq_eq_true hb; subst e1;refine ⟨x.2.2,by rw [jD lB h.1]; exact h1,fun p hp=>?_⟩;have:=h.2 p hp;rw [hZ] at this;cases hq:x.2.2[p.1]? with
   | none=>rw [hq] at this; cases this
   | some q =>
    rw [hq] at this;simp only [Bool.and_eq_true] at this;rw [← Nat.eq_of_beq_eq_true this.1,← Nat.eq_of_beq_eq_true this.2]
  | false=>rw [hb] at h; exact JI h2 h
def rep (z:List SV):Nat→List SV
 | 0=>[]
 | n + 1=>z++rep z n
theorem LD {g:G} {z:List SV} {zs:List Value} (h:aF (aE g) z=some zs):∀ n,aF (aE g) (rep z n)=some (zeros zs n)
 | 0=>rfl
 | n + 1=>cY h (LD h n)
def inR (l:List (Nat × Nat × Nat × List SV)) (a e s n:Nat) (zs:List SV):Bool:=match l with
 | []=>false
 | x::r=>bif Nat.beq x.1 a then Nat.beq x.2.1 e && Nat.beq x.2.2.1 s && Nat.ble (n * s) 1000 && Nat.blt 0 n && Nat.ble n 1000 && allA zs (rep x.2.2.2 n) else inR r a e s n zs
def KJ (Q:Nat→Nat→Nat→List SV→Prop):List (Nat × Nat × Nat × List SV)→Prop
 | []=>True
 | x::r=>Q x.1 x.2.1 x.2.2.1 x.2.2.2∧KJ Q r
theorem YA {Q:Nat→Nat→Nat→List SV→Prop}:∀ {l:List (Nat × Nat × Nat × List SV)} {a e s n:Nat} {zs:List SV},KJ Q l→inR l a e s n zs=true→∃ z,Q a e s z∧n * s≤1000∧0 < n∧n≤1000∧zs=rep z n
 | x::r,a,e,s,n,zs,⟨h1,h2⟩,h=>by
  simp only [inR] at h;cases hb:Nat.beq x.1 a with
  | true =>
   rw [hb] at h;simp only [cond_true,Bool.and_eq_true] at h;obtain ⟨⟨⟨⟨⟨k1,k2⟩,k3⟩,k4⟩,k5⟩,k6⟩:=h;have e1:=Nat.eq_of_beq_eq_true hb; subst e1;have e2:=Nat.eq_of_beq_eq_true k1; subst e2;have e3:=Nat.eq_of_beq_eq_true k2; subst e3;exact ⟨_,h1,Nat.le_of_ble_eq_true k3,mI k4,Nat.le_of_ble_eq_true k5,jD lB k6⟩
  | false=>rw [hb] at h; exact YA h2 h
def ShT (P:Program) (t:TypeId):SV→Prop
 | .i k _=>P.underlying t=some (.int k)
 | .s _ _=>P.underlying t=some .string
 | .b _=>P.underlying t=some .bool
 | _=>False
def GU (P:Program):List Field→Nat→List SV→Prop
 | [],_,[]=>True
 | f :: fs, k, z :: zs => (f.name == "_") = false ∧ f.offset = k ∧ ShT P f.type z ∧ GU P fs (k + 1) zs
 | _,_,_=>False
theorem ShT.one {P:Program} {t:TypeId} {z:SV} (h:ShT P t z):One P t:=by
 cases z <;> simp only [ShT] at h <;> exact One.of h rfl
theorem U5 {P:Program} {w:World} {g:G} {d:Nat} {t:TypeId} {z x y:SV} {u v:Value} {b:Bool} (hz:ShT P t z) (hs:E5 x z=true) (h:eq1 x y=some b) (hx:aE g x=some u) (hy:aE g y=some v):(Op.equalIn (d + 1) t u v).run P w=.ok b w:=by
 unfold eq1 at h;split at h
 ·rename_i j m k n;cases hk:kN j k with
  | false=>rw [hk] at h; cases h
  | true =>
   rw [hk] at h; simp only [cond_true,Option.some.injEq] at h; subst h;have:=dO hk; subst this;have e1:u=.int j m:=by simpa [aE,aI,eq_comm] using hx
   have e2:v=.int j n:=by simpa [aE,aI,eq_comm] using hy
   subst e1; subst e2;cases z <;> simp only [E5,Bool.false_eq_true] at hs;simp only [ShT] at hz;rw [run_equalIn_int w d t _ _ m n hz,jK];rfl
 ·rename_i n m n' m';injection h with h; subst h;have hx':den g (.s n m)=some u:=hx;have hy':den g (.s n' m')=some v:=hy;obtain ⟨l1,rfl⟩:=lK hx';obtain ⟨l2,rfl⟩:=lK hy';cases z <;> simp only [E5,Bool.false_eq_true] at hs;simp only [ShT] at hz;rw [run_equalIn_string w d t _ _ hz,seq_eq l1 l2];congr 1;have hs:=bytes_beq (dD n m) (dD n' m')
  by_cases e:dD n m=dD n' m' <;> simp_all
 ·rename_i p q;injection h with h; subst h;have e1:u=.bool p:=by simpa [aE,aI,eq_comm] using hx
  have e2:v=.bool q:=by simpa [aE,aI,eq_comm] using hy
  subst e1; subst e2;cases z <;> simp only [E5,Bool.false_eq_true] at hs;simp only [ShT] at hz;rw [run_equalIn_bool w d t p q hz];cases p <;> cases q <;> rfl
 cases h
theorem CI {P:Program} {w:World} {g:G} {d:Nat}:∀ {fs:List Field} {k:Nat} {zs l m:List SV} {b:Bool} {us vs pu pv:List Value},GU P fs k zs→rF l zs=true→eqs l m=some b→aF (aE g) l=some us→aF (aE g) m=some vs→pu.length=k→pv.length=k →
  (Op.eqFields (d + 1) (pu++us).toArray (pv++vs).toArray fs).run P w=.ok b w
 | [],k,[],l,m,b,us,vs,pu,pv,hf,hs,he,hu,hv,h1,h2=>by
  cases l with
  | cons x r=>exact (by have h':false=true:=hs; cases h')
  | nil =>
   cases m with
   | cons y r=>exact (by have h':(none:Option Bool)=some b:=he; cases h')
   | nil =>
    have h':some true=some b:=he;injection h' with h'; subst h'; rfl
 | f::fs,k,z::zs,l,m,b,us,vs,pu,pv,hf,hs,he,hu,hv,h1,h2=>by
  obtain ⟨f1,f2,f3,f4⟩:=hf;cases l with
  | nil=>exact (by have h':false=true:=hs; cases h')
  | cons x l =>
   have hs':(and (E5 x z) (rF l zs))=true:=hs;simp only [Bool.and_eq_true] at hs';cases m with
   | nil=>exact (by have h':(none:Option Bool)=some b:=he; cases h')
   | cons y m =>
    have he':Option.rec (motive:=fun _=>Option Bool) none (fun b=>Option.rec (motive:=fun _=>Option Bool) none (fun c=>some (bif b then c else false)) (eqs l m)) (eq1 x y)=some b:=he;obtain ⟨u,us',a1,a2,rfl⟩:=aK hu;obtain ⟨v,vs',b1,b2,rfl⟩:=aK hv;cases hq:eq1 x y with
    | none=>rw [hq] at he'; cases he'
    | some b0 =>
     rw [hq] at he';cases hr:eqs l m with
     | none=>rw [hr] at he'; cases he'
     | some c =>
      rw [hr] at he';injection he' with he'; subst he';have hname : f.name ≠ "_" := fun e => by rw [e] at f1; simp at f1
      have hp1:(part f.type (pu++u::us').toArray f.offset).run P w=.ok u w:=by
       have:(pu++u::us')[k]?=some u:=by rw [← h1]; simp
       simp only [part,Sem.run_bind,f3.one w,Result.andThen_ok,Bool.false_eq_true,if_false,List.getElem?_toArray,f2,this,Sem.run_pure]
      have hp2:(part f.type (pv++v::vs').toArray f.offset).run P w=.ok v w:=by
       have:(pv++v::vs')[k]?=some v:=by rw [← h2]; simp
       simp only [part,Sem.run_bind,f3.one w,Result.andThen_ok,Bool.false_eq_true,if_false,List.getElem?_toArray,f2,this,Sem.run_pure]
      simp only [Op.eqFields,if_pos hname,Sem.run_bind,hp1,Result.andThen_ok,hp2,U5 (w:=w) (d:=d) f3 hs'.1 hq a1 b1];cases b0 with
      | false=>simp
      | true =>
       simp only [Bool.not_true,Bool.false_eq_true,if_false,cond_true];have:=CI (w:=w) (d:=d) (pu:=pu++[u]) (pv:=pv++[v]) f4 hs'.2 hr a2 b2 (by simp [h1]) (by simp [h2]);simpa using this
 | [],k,z::zs,l,m,b,us,vs,pu,pv,hf,hs,he,hu,hv,h1,h2=>hf.elim
 | f::fs,k,[],l,m,b,us,vs,pu,pv,hf,hs,he,hu,hv,h1,h2=>hf.elim
theorem JT {P:Program} {T:TypeId} {zz:List SV} (hS:P.underlying T=some (.struct (P.fieldsOf T))) (hf:GU P (P.fieldsOf T).toList 0 zz) (h1:P.stoodInHeld T=false) (h2:P.eqGuardType P.depth T=false):X7 P T zz:=by
 intro g l m xs ys b0 w rv y z T' op v hsh hl hm hy hz h;have hrun:∀ b,eqs l m=some b→(Op.equalIn 10000 T (.agg xs.toArray) (.agg ys.toArray)).run P w=.ok b w:=by
  intro b hb;have:=CI (P:=P) (w:=w) (d:=9998) (pu:=[]) (pv:=[]) hf hsh hb hl hm rfl rfl;rw [run_equalIn_agg w 9999 T _ _ hS h1];simpa using this
 have hg:∀ op,(eqGuard op T y z (.agg xs.toArray) (.agg ys.toArray)).run P w=.ok () w:=fun op=>run_eqGuard_agg w op T y z _ _ h2;cases hq:eqs l m with
 | none=>rw [hq] at h; cases op <;> cases h
 | some b =>
  rw [hq] at h;cases op <;> simp only [JV,Option.map_some,Option.some.injEq,reduceCtorEq] at h
  ·subst h;refine ⟨.bool b,rfl,fun d ty ps af gd=>?_⟩;simp only [execOp,a2,hy,hz,Sem.run_bind,hg,Result.andThen_ok,run_eql_struct,hrun b hq,Sem.run_pure]
  subst h;refine ⟨.bool (!b),rfl,fun d ty ps af gd=>?_⟩;simp only [execOp,a2,hy,hz,Sem.run_bind,hg,Result.andThen_ok,run_neq_struct,hrun b hq,Sem.run_pure]
theorem DW:∀ {z1 z2 l:List SV},rF l (z1++z2)=true→∃ l1 l2,l=l1++l2∧rF l1 z1=true∧rF l2 z2=true
 | [],z2,l,h=>⟨[],l,rfl,rfl,h⟩
 | z::z1,z2,[],h=>by have h':false=true:=h; cases h'
 | z::z1,z2,x::l,h=>by
  have h':(and (E5 x z) (rF l (z1++z2)))=true:=h;simp only [Bool.and_eq_true] at h';obtain ⟨l1,l2,rfl,a,b⟩:=DW h'.2;exact ⟨x::l1,l2,rfl,(by show (and (E5 x z) (rF l1 z1))=true; rw [h'.1,a]; rfl),b⟩
theorem vO:∀ {z l:List SV},rF l z=true→l.length=z.length
 | [],[],_=>rfl
 | [],x::l,h=>by have h':false=true:=h; cases h'
 | z::z1,[],h=>by have h':false=true:=h; cases h'
 | z::z1,x::l,h=>by
  have h':(and (E5 x z) (rF l z1))=true:=h;simp only [Bool.and_eq_true] at h';simp [vO h'.2]
theorem ND:∀ {l1 l2 m:List SV} {b:Bool},eqs (l1++l2) m=some b→∃ m1 m2 b1 b2,m=m1++m2∧eqs l1 m1=some b1∧eqs l2 m2=some b2∧b=(bif b1 then b2 else false)
 | [],l2,m,b,h=>⟨[],m,true,b,rfl,rfl,h,rfl⟩
 | x::l1,l2,[],b,h=>by have h':(none:Option Bool)=some b:=h; cases h'
 | x::l1,l2,y::m,b,h=>by
  have h':Option.rec (motive:=fun _=>Option Bool) none (fun b=>Option.rec (motive:=fun _=>Option Bool) none (fun c=>some (bif b then c else false)) (eqs (l1++l2) m)) (eq1 x y)=some b:=h;cases hq:eq1 x y with
  | none=>rw [hq] at h'; cases h'
  | some b0 =>
   rw [hq] at h';cases hr:eqs (l1++l2) m with
   | none=>rw [hr] at h'; cases h'
   | some c =>
    rw [hr] at h';injection h' with h'; subst h';obtain ⟨m1,m2,b1,b2,rfl,e1,e2,rfl⟩:=ND hr;refine ⟨y::m1,m2,(bif b0 then b1 else false),b2,rfl,?_,e2,?_⟩
    ·show Option.rec (motive:=fun _=>Option Bool) none (fun b=>Option.rec (motive:=fun _=>Option Bool) none (fun c=>some (bif b then c else false)) (eqs l1 m1)) (eq1 x y)=_;rw [hq,e1]
    cases b0 <;> rfl
theorem NC:∀ {l m:List SV} {b:Bool},eqs l m=some b→l.length=m.length
 | [],[],b,h=>rfl
 | [],x::l,b,h=>by have h':(none:Option Bool)=some b:=h; cases h'
 | z::z1,[],b,h=>by have h':(none:Option Bool)=some b:=h; cases h'
 | x::l,y::m,b,h=>by
  have h':Option.rec (motive:=fun _=>Option Bool) none (fun b=>Option.rec (motive:=fun _=>Option Bool) none (fun c=>some (bif b then c else false)) (eqs l m)) (eq1 x y)=some b:=h;cases hq:eq1 x y with
  | none=>rw [hq] at h'; cases h'
  | some b0 =>
   rw [hq] at h';cases hr:eqs l m with
   | none=>rw [hr] at h'; cases h'
   | some c=>simp [NC hr]
theorem sP {d:SV→Option Value}:∀ {l m:List SV} {xs:List Value},aF d (l++m)=some xs→∃ us vs,aF d l=some us∧aF d m=some vs∧xs=us++vs
 | [],m,xs,h=>⟨[],xs,rfl,h,rfl⟩
 | x::l,m,xs,h=>by
  obtain ⟨v,us,h1,h2,rfl⟩:=aK h;obtain ⟨a,b,h3,h4,rfl⟩:=sP h2;exact ⟨v::a,b,bT h1 h3,h4,rfl⟩
theorem zL {P:Program} {w:World} {e:TypeId} {c:Nat} {pu us rs:List Value} (hm:Many P e c) (h:us.length=c) {j:Nat} (hj:pu.length=j * c):(part e (pu++(us++rs)).toArray (j * c)).run P w=.ok (.agg us.toArray) w:=by
 subst h;have e1:((pu++(us++rs)).toArray.extract (j * us.length) (j * us.length + us.length))=us.toArray:=by
  have:(pu++(us++rs)).drop (j * us.length)=us++rs:=by rw [← hj]; simp
  simp [List.extract_eq_take_drop,this]
 simp only [part,Sem.run_bind,(hm w).1,Result.andThen_ok,if_true,(hm w).2,Sem.run_pure,e1]
theorem zW {P:Program} {w:World} {g:G} {d:Nat} {e:TypeId} {z:List SV} (hc:P.cellsOf e=z.length) (hm:Many P e z.length) (hS:P.underlying e=some (.struct (P.fieldsOf e))) (hf:GU P (P.fieldsOf e).toList 0 z) (h1:P.stoodInHeld e=false) :
  ∀ {k j:Nat} {l m:List SV} {b:Bool} {us vs pu pv:List Value},rF l (rep z k)=true→eqs l m=some b→aF (aE g) l=some us→aF (aE g) m=some vs→pu.length=j * z.length→pv.length=j * z.length →
  (Op.eqItems (d + 2) e (P.cellsOf e) (pu++us).toArray (pv++vs).toArray (List.range' j k)).run P w=.ok b w
 | 0,j,l,m,b,us,vs,pu,pv,hs,he,hu,hv,hp,hq=>by
  cases l with
  | cons x r=>exact (by have h':false=true:=hs; cases h')
  | nil =>
   cases m with
   | cons y r=>exact (by have h':(none:Option Bool)=some b:=he; cases h')
   | nil =>
    have h':some true=some b:=he;injection h' with h'; subst h'; rfl
 | k + 1,j,l,m,b,us,vs,pu,pv,hs,he,hu,hv,hp,hq=>by
  obtain ⟨l1,l2,rfl,s1,s2⟩:=DW (z1:=z) (z2:=rep z k) hs;obtain ⟨m1,m2,b1,b2,rfl,e1,e2,rfl⟩:=ND he;obtain ⟨u1,u2,hu1,hu2,rfl⟩:=sP hu;obtain ⟨v1,v2,hv1,hv2,rfl⟩:=sP hv;have n1:u1.length=z.length:=by rw [cF hu1,vO s1]
  have n2:v1.length=z.length:=by rw [cF hv1,← NC e1,vO s1]
  have p1:=zL (P:=P) (w:=w) (pu:=pu) (us:=u1) (rs:=u2) hm n1 hp;have p2:=zL (P:=P) (w:=w) (pu:=pv) (us:=v1) (rs:=v2) hm n2 hq;have p3:(Op.equalIn (d + 2) e (.agg u1.toArray) (.agg v1.toArray)).run P w=.ok b1 w:=by
   have:=CI (P:=P) (w:=w) (d:=d) (pu:=[]) (pv:=[]) hf s1 e1 hu1 hv1 rfl rfl;rw [run_equalIn_agg w (d + 1) e _ _ hS h1];simpa using this
  simp only [List.range'_succ,Op.eqItems,Sem.run_bind,hc,p1,p2,Result.andThen_ok,p3];cases b1 with
  | false=>simp
  | true =>
   simp only [Bool.not_true,Bool.false_eq_true,if_false,cond_true];have:=zW (w:=w) (d:=d) hc hm hS hf h1 (k:=k) (j:=j + 1) (pu:=pu++u1) (pv:=pv++v1) s2 e2 hu2 hv2 (by simp [hp,n1,Nat.add_mul]) (by simp [hq,n2,Nat.add_mul]);simpa [hc] using this
theorem T9 {P:Program} {T e:TypeId} {n:Nat} {z zz:List SV} (hA:P.underlying T=some (.array n e)) (hi:∃ i,P.info? e=some i) (hc:P.cellsOf e=z.length) (hm:Many P e z.length) (hS:P.underlying e=some (.struct (P.fieldsOf e))) (hf:GU P (P.fieldsOf e).toList 0 z) (h1:P.stoodInHeld e=false) (h2:P.eqGuardType P.depth T=false) (hz:zz=rep z n):X7 P T zz:=by
 subst hz;intro g l m xs ys b0 w rv y z' T' op v hsh hl hm' hy hz h;obtain ⟨i,hi⟩:=hi;have hrun:∀ b,eqs l m=some b→(Op.equalIn 10000 T (.agg xs.toArray) (.agg ys.toArray)).run P w=.ok b w:=by
  intro b hb;have:=zW (P:=P) (w:=w) (d:=9997) (pu:=[]) (pv:=[]) (j:=0) hc hm hS hf h1 hsh hb hl hm' (by simp) (by simp);rw [run_equalIn_array w 9999 _ _ hA hi,List.range_eq_range'];simpa using this
 have hg:∀ op,(eqGuard op T y z' (.agg xs.toArray) (.agg ys.toArray)).run P w=.ok () w:=fun op=>run_eqGuard_agg w op T y z' _ _ h2;cases hq:eqs l m with
 | none=>rw [hq] at h; cases op <;> cases h
 | some b =>
  rw [hq] at h;cases op <;> simp only [JV,Option.map_some,Option.some.injEq,reduceCtorEq] at h
  ·subst h;refine ⟨.bool b,rfl,fun d ty ps af gd=>?_⟩;simp only [execOp,a2,hy,hz,Sem.run_bind,hg,Result.andThen_ok,run_eql_struct,hrun b hq,Sem.run_pure]
  subst h;refine ⟨.bool (!b),rfl,fun d ty ps af gd=>?_⟩;simp only [execOp,a2,hy,hz,Sem.run_bind,hg,Result.andThen_ok,run_neq_struct,hrun b hq,Sem.run_pure]
end
section
def p1:Pos:=.h
def p2:Pos:=(.o p1)
def p3:Pos:=(.i p1)
def p4:Pos:=(.o p2)
def p5:Pos:=(.i p2)
def p6:Pos:=(.o p3)
def p7:Pos:=(.i p3)
def p8:Pos:=(.o p4)
def p9:Pos:=(.i p4)
def eZ:Pos:=(.o p5)
def hO:Pos:=(.i p5)
def eO:Pos:=(.o p6)
def lP:Pos:=(.i p6)
def nR:Pos:=(.o p7)
def oK:Pos:=(.i p7)
def p16:Pos:=(.o p8)
def wA:Pos:=(.i p8)
def II:Pos:=(.o p9)
def I0:Pos:=(.i p9)
def H9:Pos:=(.o eZ)
def A6:Pos:=(.i eZ)
def PN:Pos:=(.o hO)
def EK:Pos:=(.i hO)
def HB:Pos:=(.o eO)
def p25:Pos:=(.i eO)
def p26:Pos:=(.o lP)
def p27:Pos:=(.i lP)
def p28:Pos:=(.o nR)
def p29:Pos:=(.i nR)
def p30:Pos:=(.o oK)
def p31:Pos:=(.i oK)
def p32:Pos:=(.o p16)
def p33:Pos:=(.i p16)
def p34:Pos:=(.o wA)
def p35:Pos:=(.i wA)
def p36:Pos:=(.o II)
def p37:Pos:=(.i II)
def p38:Pos:=(.o I0)
def p39:Pos:=(.i I0)
def p40:Pos:=(.o H9)
def p41:Pos:=(.i H9)
def p42:Pos:=(.o A6)
def p43:Pos:=(.i A6)
def p44:Pos:=(.o PN)
def p45:Pos:=(.i PN)
def p46:Pos:=(.o EK)
def p47:Pos:=(.i EK)
def p48:Pos:=(.o HB)
def p49:Pos:=(.i HB)
def p50:Pos:=(.o p25)
def p51:Pos:=(.i p25)
def p52:Pos:=(.o p26)
def p53:Pos:=(.i p26)
def p54:Pos:=(.o p27)
def p55:Pos:=(.i p27)
def p56:Pos:=(.o p28)
def p57:Pos:=(.i p28)
def p58:Pos:=(.o p29)
def p59:Pos:=(.i p29)
def p60:Pos:=(.o p30)
def p61:Pos:=(.i p30)
def p62:Pos:=(.o p31)
def p63:Pos:=(.i p31)
def p64:Pos:=(.o p32)
def p65:Pos:=(.i p32)
def p66:Pos:=(.o p33)
def p67:Pos:=(.i p33)
def p68:Pos:=(.o p34)
def p69:Pos:=(.i p34)
def p70:Pos:=(.o p35)
def p71:Pos:=(.i p35)
def p72:Pos:=(.o p36)
def p73:Pos:=(.i p36)
def p74:Pos:=(.o p37)
def p75:Pos:=(.i p37)
def p76:Pos:=(.o p38)
def p77:Pos:=(.i p38)
def p80:Pos:=(.o p40)
def p81:Pos:=(.i p40)
def p82:Pos:=(.o p41)
def p83:Pos:=(.i p41)
def p84:Pos:=(.o p42)
def H8:Pos:=(.i p42)
def p86:Pos:=(.o p43)
def p87:Pos:=(.i p43)
def p88:Pos:=(.o p44)
def p89:Pos:=(.i p44)
def p90:Pos:=(.o p45)
def p91:Pos:=(.i p45)
def p92:Pos:=(.o p46)
def p93:Pos:=(.i p46)
def p94:Pos:=(.o p47)
def p95:Pos:=(.i p47)
def p96:Pos:=(.o p48)
def p97:Pos:=(.i p48)
def p98:Pos:=(.o p49)
def p99:Pos:=(.i p49)
def IK:Pos:=(.o p50)
def aIh:Pos:=(.i p50)
def aIg:Pos:=(.o p51)
def aIf:Pos:=(.i p51)
def aIe:Pos:=(.o p52)
def aCq:Pos:=(.i p52)
def aPv:Pos:=(.o p53)
def aId:Pos:=(.i p53)
def aIc:Pos:=(.o p54)
def aPu:Pos:=(.i p54)
def aCp:Pos:=(.o p55)
def aCo:Pos:=(.i p55)
def aCn:Pos:=(.o p56)
def VI:Pos:=(.i p56)
def yE:Pos:=(.o p57)
def PP:Pos:=(.i p57)
def IJ:Pos:=(.o p58)
def I9:Pos:=(.i p58)
def I8:Pos:=(.o p59)
def I7:Pos:=(.i p59)
def aIb:Pos:=(.o p60)
def I6:Pos:=(.i p60)
def I5:Pos:=(.o p61)
def aIa:Pos:=(.i p62)
def aH9:Pos:=(.o p63)
def I4:Pos:=(.i p63)
def I3:Pos:=(.o p64)
def I2:Pos:=(.i p64)
def aCm:Pos:=(.i p65)
def aCl:Pos:=(.o p66)
def aCk:Pos:=(.i p66)
def PO:Pos:=(.o p67)
def aH8:Pos:=(.i p67)
def aPt:Pos:=(.o p68)
def aCj:Pos:=(.i p68)
def aCi:Pos:=(.o p69)
def aPs:Pos:=(.o p70)
def aPr:Pos:=(.i p72)
def aPq:Pos:=(.o p73)
def aPp:Pos:=(.i p73)
def I1:Pos:=(.o p74)
def aPo:Pos:=(.i p74)
def aCh:Pos:=(.o p75)
def aH7:Pos:=(.i p75)
def aPn:Pos:=(.o p76)
def aPm:Pos:=(.i p76)
def aPl:Pos:=(.o p77)
def aPk:Pos:=(.i p77)
def aH6:Pos:=(.i p80)
def aPj:Pos:=(.o p84)
def aPi:Pos:=(.i p84)
def aPh:Pos:=(.o H8)
def aH5:Pos:=(.o p88)
def aCg:Pos:=(.o p89)
def aPg:Pos:=(.i p89)
def aPf:Pos:=(.i p90)
def aPe:Pos:=(.o IK)
def aCf:Pos:=(.i aIh)
def aPd:Pos:=(.o aIg)
def aPc:Pos:=(.i aIf)
def aPb:Pos:=(.o aIe)
def aH4:Pos:=(.o aId)
def aPa:Pos:=(.o aCp)
def aO9:Pos:=(.i aCp)
def aO8:Pos:=(.o aCo)
def aO7:Pos:=(.i aCo)
def aO6:Pos:=(.o aCn)
def aO5:Pos:=(.i aCn)
def aO4:Pos:=(.o VI)
def aH3:Pos:=(.i VI)
def aO3:Pos:=(.o yE)
def aO2:Pos:=(.i yE)
def aO1:Pos:=(.o PP)
def aH2:Pos:=(.i PP)
def aO0:Pos:=(.o IJ)
def aCe:Pos:=(.i IJ)
def aOz:Pos:=(.o I9)
def aH1:Pos:=(.i I9)
def aOy:Pos:=(.o I8)
def aH0:Pos:=(.i I8)
def aOx:Pos:=(.o I7)
def aOw:Pos:=(.i I7)
def aOv:Pos:=(.i I3)
def aHz:Pos:=(.o aCl)
def aOu:Pos:=(.o aCj)
def aOt:Pos:=(.i aCj)
def aOs:Pos:=(.o aCi)
def aOr:Pos:=(.i aCi)
def uZ:List SV:=[.s 3 4276803,.s 4 1313030466,.s 3 4276819,.s 2 16706,.s 3 4276803,.s 1 78,.s 3 4276819,.s 6 75047075270227,.s 1 65,.s 1 78]
def z3:List SV:=[(.i .i64 0)]
def z27:List SV:=[(.i .i64 0)]
def z31:List SV:=[(.i .i64 0),(.i .i64 0),(.i .i64 0)]
def z34:List SV:=[(.i .i64 0),(.s 0 0),(.b false),(.i .i64 0),.sn,(.i .i64 0)]
def z47:List SV:=[(.i .i64 0),(.i .i64 0),(.i .i64 0),(.i .i64 0),(.i .i64 0),(.i .u64 0),(.s 0 0)]
def z56:List SV:=[(.b false),(.b false),(.b false),(.b false)]
def z60:List SV:=[(.i .i64 0),(.i .i64 0)]
def z62:List SV:=[(.i .i64 0),(.i .i64 0)]
def z64:List SV:=[(.i .i64 0),(.i .i64 0),(.i .i64 0),(.i .i64 0)]
def z72:List SV:=[(.i .i64 0),(.i .i64 0),.sn,(.s 0 0),(.i .i64 0)]
def z79:List SV:=[.pn,(.i .i64 0),(.i .i64 0),.sn,(.s 0 0),(.i .i64 0),(.i .u64 0),(.i .u64 0),(.i .u64 0),.pn,.sn,.mn,.mn]
def SG:List SV:=[(.i .i64 0),(.i .u64 0),(.i .u64 0),(.s 0 0),(.i .i64 0),(.i .i64 0),(.i .i64 0),(.i .i64 0),(.i .i64 0),(.i .i64 0),(.i .i64 0),(.i .u64 0),(.i .u64 0)]
def z83:List SV:=[(.i .i64 0),(.i .i64 0),(.i .i64 0),(.i .u64 0)]
def z85:List SV:=[(.i .i64 0),(.i .i64 0),(.i .i64 0),(.i .u64 0),(.i .i64 0),(.i .i64 0),(.s 0 0)]
def z89:List SV:=[(.i .i64 0),(.i .i64 0),(.i .i64 0),(.i .i64 0),(.i .u64 0),(.i .i64 0),(.i .i64 0),(.s 0 0),(.i .u64 0)]
def CV:List SV:=[(.i .i64 0),(.s 0 0),(.i .u64 0),(.i .i64 0),(.i .i64 0),(.i .i64 0)]
def z96:List SV:=[(.i .u64 0),(.i .i64 0),(.i .i64 0),(.s 0 0)]
def z109:List SV:=[.sn,.sn,.mn,(.i .i64 0)]
def C3:List SV:=[(.i .u64 0),(.i .u64 0),(.i .u64 0)]
def aGt:List SV:=[.pn,(.i .u64 0),(.i .u64 0),(.i .u64 0),(.i .u64 0),(.i .u64 0),(.i .u64 0),(.i .u64 0),(.i .u64 0),(.i .u64 0)]
def aGs:List SV:=[.pn,.sn,(.i .u64 0),(.i .u64 0),.sn,.sn,.mn,(.b false),(.b false)]
def SQ:List SV:=[(.i .i64 0),(.i .i64 0),(.i .i64 0),(.i .i64 0),(.s 0 0),(.i .i64 0)]
def z171:List SV:=[.pn,(.i .i64 0),(.i .i64 0),(.i .i64 0),(.i .u64 0)]
def aGr:List SV:=[(.i .u64 0),(.i .u64 0),(.i .u64 0)]
def aGq:List SV:=[(.i .u64 0),(.i .u64 0),.pn,.pn,.pn]
def HF:List SV:=[(.i .u64 0),(.i .u64 0),(.i .u64 0),(.i .u64 0),(.i .u64 0),(.i .u64 0),(.i .u64 0),(.i .u64 0),(.i .u64 0)]
def DC:List SV:=[.sn,(.i .i64 0),.sn]
def z228:List SV:=[.fn,.fn,.fn,.fn,.fn,.fn,.fn,.fn,.fn,.fn]
def aGp:List SV:=[.pn,.pn,.pn,.pn,.pn,.pn,.pn,.pn,(.i .i64 0)]
def aGo:List SV:=[.mn,(.i .i64 0),(.i .i64 0),(.i .i64 0)]
def aNn:List SV:=[(.i .i64 0)]
def aGn:List SV:=[.sn]
def aGm:List SV:=[(.s 0 0),(.i .i64 0),(.i .i64 0)]
def aGl:List SV:=[(.i .i64 0),(.i .i64 0),(.s 0 0)]
def OB:List SV:=[.fn,.fn,.fn,.fn,.fn,.fn,.fn,.fn,.fn,.fn,.fn,.fn]
def aGk:List SV:=[(.i .u8 0),(.i .u8 0),(.i .u8 0),(.i .u8 0),(.i .u8 0),(.i .u8 0),(.i .u8 0),(.i .u8 0),(.i .u8 0),(.i .u8 0),(.i .u8 0),(.i .u8 0),(.i .u8 0),(.i .u8 0),(.i .u8 0),(.i .u8 0),(.i .u8 0),(.i .u8 0),(.i .u8 0),(.i .u8 0),(.i .u8 0),(.i .u8 0),(.i .u8 0),(.i .u8 0)]
end
noncomputable section
def BDq (P:Program) (t:TypeId) (z:List SV) (l:List (Nat × Nat)):Prop:=∃ zs pl,(∀ g,aF (aE g) z=some zs)∧BD P t zs pl∧∀ (i:Nat) (q:Nat × Nat),l[i]?=some q→pl i=some q
def inL (l:List (Nat × IntKind × SV)) (a:Nat) (k:IntKind) (z:SV):Bool:=match l with
 | []=>false
 | x::r=>bif Nat.beq x.1 a then kN x.2.1 k && same z x.2.2 else inL r a k z
def aGg (Q:Nat→IntKind→SV→Prop):List (Nat × IntKind × SV)→Prop
 | []=>True
 | x::r=>Q x.1 x.2.1 x.2.2∧aGg Q r
theorem YB {Q:Nat→IntKind→SV→Prop}:∀ {l:List (Nat × IntKind × SV)} {a:Nat} {k:IntKind} {z:SV},aGg Q l→inL l a k z=true→Q a k z
 | x::r,a,k,z,⟨h1,h2⟩,h=>by
  simp only [inL] at h;cases hb:Nat.beq x.1 a with
  | true =>
   rw [hb] at h;simp only [cond_true,Bool.and_eq_true] at h;have e1:=Nat.eq_of_beq_eq_true hb; subst e1;have e2:=dO h.1; subst e2;rw [same_eq h.2]; exact h1
  | false=>rw [hb] at h; exact YB h2 h
theorem xV.imp {Q Q':Nat→Nat→Prop} (h:∀ a b,Q a b→Q' a b):∀ {l:List (Nat × Nat)},xV Q l→xV Q' l
 | [],_=>trivial
 | x::r,⟨h1,h2⟩=>⟨h _ _ h1,xV.imp h h2⟩
end
noncomputable section
def sv0:SV→Option Value
 | .i k n=>some (.int k n)
 | .b x=>some (.bool x)
 | .s n v=>if v < 256 ^ n then some (.string (dD n v)) else none
 | .pn=>some (.pointer none)
 | .sn=>some (.slice none 0 0)
 | .mn=>some (.map none)
 | .fn=>some .nilFunc
 | .ni=>some .nilIface
 | _=>none
theorem E0 {x:SV} {v:Value} (h:sv0 x=some v) (g:G):aE g x=some v:=by cases x <;> first | exact h | cases h
theorem uO:∀ {z:List SV} {zs:List Value},aF sv0 z=some zs→∀ g,aF (aE g) z=some zs
 | [],zs,h,g=>h
 | x::r,zs,h,g=>by
  simp only [aF] at h ⊢;cases hx:sv0 x with
  | none=>rw [hx] at h; cases h
  | some v =>
   cases hr:aF sv0 r with
   | none=>rw [hx,hr] at h; cases h
   | some vs =>
    rw [hx,hr] at h;rw [E0 hx g,uO hr g]; exact h
theorem HS {z:List SV} (h:(aF sv0 z).isSome=true):∃ zs,aF sv0 z=some zs:=Option.isSome_iff_exists.1 h
theorem X8.of {Q:Nat→Prop}:∀ {l:List Nat},(∀ p∈l,Q p)→X8 Q l
 | [],_=>trivial
 | _::_,h=>⟨h _ (List.mem_cons_self ..),X8.of fun p hp=>h p (List.mem_cons_of_mem _ hp)⟩
theorem xV.of {Q:Nat→Nat→Prop}:∀ {l:List (Nat × Nat)},(∀ p∈l,Q p.1 p.2)→xV Q l
 | [],_=>trivial
 | _::_,h=>⟨h _ (List.mem_cons_self ..),xV.of fun p hp=>h p (List.mem_cons_of_mem _ hp)⟩
theorem CU.of {Q:Nat→Nat→Nat→Prop}:∀ {l:List (Nat × Nat × Nat)},(∀ p∈l,Q p.1 p.2.1 p.2.2)→CU Q l
 | [],_=>trivial
 | _::_,h=>⟨h _ (List.mem_cons_self ..),CU.of fun p hp=>h p (List.mem_cons_of_mem _ hp)⟩
theorem CS.of {Q:Nat→Nat→Nat→Nat→Prop}:∀ {l:List (Nat × Nat × Nat × Nat)},(∀ p∈l,Q p.1 p.2.1 p.2.2.1 p.2.2.2)→CS Q l
 | [],_=>trivial
 | _::_,h=>⟨h _ (List.mem_cons_self ..),CS.of fun p hp=>h p (List.mem_cons_of_mem _ hp)⟩
theorem GW.of {Q:Nat→List SV→Prop}:∀ {l:List (Nat × List SV)},(∀ p∈l,Q p.1 p.2)→GW Q l
 | [],_=>trivial
 | _::_,h=>⟨h _ (List.mem_cons_self ..),GW.of fun p hp=>h p (List.mem_cons_of_mem _ hp)⟩
theorem KJ.of {Q:Nat→Nat→Nat→List SV→Prop}:∀ {l:List (Nat × Nat × Nat × List SV)},(∀ p∈l,Q p.1 p.2.1 p.2.2.1 p.2.2.2)→KJ Q l
 | [],_=>trivial
 | _::_,h=>⟨h _ (List.mem_cons_self ..),KJ.of fun p hp=>h p (List.mem_cons_of_mem _ hp)⟩
theorem GY.of {Q:Nat→List SV→List (Nat × Nat)→Prop}:∀ {l:List (Nat × List SV × List (Nat × Nat))},(∀ p∈l,Q p.1 p.2.1 p.2.2)→GY Q l
 | [],_=>trivial
 | _::_,h=>⟨h _ (List.mem_cons_self ..),GY.of fun p hp=>h p (List.mem_cons_of_mem _ hp)⟩
def dU (t:Nat):Option TypeDesc:=lu unT t
theorem aB7:X7 Tryz.prog 81 SG:=by
 have hS:Tryz.prog.underlying 81=some (.struct (Tryz.prog.fieldsOf 81)):=by kernel_rfl
 refine JT hS ?_ (by kernel_rfl) (by kernel_rfl);simp only [Program.fieldsOf,Tryz.underlying81];exact ⟨rfl,rfl,Tryz.underlying3,⟨rfl,rfl,Tryz.underlying30,⟨rfl,rfl,Tryz.underlying30,⟨rfl,rfl,Tryz.underlying9,⟨rfl,rfl,Tryz.underlying3,⟨rfl,rfl,Tryz.underlying3,⟨rfl,rfl,Tryz.underlying3,⟨rfl,rfl,Tryz.underlying3,⟨rfl,rfl,Tryz.underlying3,⟨rfl,rfl,Tryz.underlying3,⟨rfl,rfl,Tryz.underlying3,⟨rfl,rfl,Tryz.underlying30,⟨rfl,rfl,Tryz.underlying30,trivial⟩⟩⟩⟩⟩⟩⟩⟩⟩⟩⟩⟩⟩
theorem aB6:X7 Tryz.prog 83 z83:=by
 have hS:Tryz.prog.underlying 83=some (.struct (Tryz.prog.fieldsOf 83)):=by kernel_rfl
 refine JT hS ?_ (by kernel_rfl) (by kernel_rfl);simp only [Program.fieldsOf,Tryz.underlying83];exact ⟨rfl,rfl,Tryz.underlying3,⟨rfl,rfl,Tryz.underlying3,⟨rfl,rfl,Tryz.underlying3,⟨rfl,rfl,Tryz.underlying30,trivial⟩⟩⟩⟩
theorem aB5:X7 Tryz.prog 94 CV:=by
 have hS:Tryz.prog.underlying 94=some (.struct (Tryz.prog.fieldsOf 94)):=by kernel_rfl
 refine JT hS ?_ (by kernel_rfl) (by kernel_rfl);simp only [Program.fieldsOf,Tryz.underlying94];exact ⟨rfl,rfl,Tryz.underlying3,⟨rfl,rfl,Tryz.underlying9,⟨rfl,rfl,Tryz.underlying30,⟨rfl,rfl,Tryz.underlying3,⟨rfl,rfl,Tryz.underlying3,⟨rfl,rfl,Tryz.underlying3,trivial⟩⟩⟩⟩⟩⟩
theorem G4:X7 Tryz.prog 217 HF:=by
 have hS:Tryz.prog.underlying 112=some (.struct (Tryz.prog.fieldsOf 112)):=by kernel_rfl
 have hi:∃ i,Tryz.prog.info? 112=some i:=⟨_,rfl⟩;refine T9 (z:=C3) Tryz.underlying217 hi (by kernel_rfl) (Many.of Tryz.underlying112 rfl (by kernel_rfl)) hS ?_ (by kernel_rfl) (by kernel_rfl) (by kernel_rfl);simp only [Program.fieldsOf,Tryz.underlying112];exact ⟨rfl,rfl,Tryz.underlying30,⟨rfl,rfl,Tryz.underlying30,⟨rfl,rfl,Tryz.underlying30,trivial⟩⟩⟩
def eqL:List (Nat × List SV):=[(81,SG),(83,z83),(94,CV),(217,HF)]
theorem aFf:GW (fun t z=>X7 Tryz.prog t z) eqL:=⟨aB7,aB6,aB5,G4,trivial⟩
def bdL:List (Nat × List SV × List (Nat × Nat)):=[(34,z34,[(0,1),(1,1),(2,1),(3,1),(4,1),(5,1)]),(47,z47,[(0,1),(1,1),(2,1),(3,1),(4,1),(5,1),(6,1)]),(56,z56,[(0,1),(1,1),(2,1),(3,1)]),(60,z60,[(0,1),(1,1)]),(64,z64,[(0,2),(2,2)]),(72,z72,[(0,2),(2,1),(3,1),(4,1)]),(79,z79,[(0,1),(1,5),(6,1),(7,1),(8,1),(9,1),(10,1),(11,1),(12,1)]),(81,SG,[(0,1),(1,1),(2,1),(3,1),(4,1),(5,1),(6,1),(7,1),(8,1),(9,1),(10,1),(11,1),(12,1)]),(83,z83,[(0,1),(1,1),(2,1),(3,1)]),(89,z89,[(0,1),(1,7),(8,1)]),(94,CV,[(0,1),(1,1),(2,1),(3,1),(4,1),(5,1)]),(96,z96,[(0,1),(1,1),(2,1),(3,1)]),(109,z109,[(0,1),(1,1),(2,1),(3,1)]),(122,aGt,[(0,1),(1,9)]),(142,aGs,[(0,1),(1,1),(2,1),(3,1),(4,1),(5,1),(6,1),(7,2)]),(147,SQ,[(0,1),(1,1),(2,1),(3,1),(4,1),(5,1)]),(171,z171,[(0,1),(1,4)]),(220,DC,[(0,1),(1,1),(2,1)]),(238,aGp,[(0,8),(8,1)]),(241,aGo,[(0,1),(1,1),(2,1),(3,1)]),(284,aGm,[(0,1),(1,1),(2,1)]),(291,aGl,[(0,1),(1,1),(2,1)])]
theorem W4:GY (fun t z l=>BDq Tryz.prog t z l) bdL:=GY.of fun p h=>by
 have h:=tab (f:=fun p:Nat × List SV × List (Nat × Nat)=>(Tryz.prog.built p.1,(aF sv0 p.2.1).isSome)) (g:=fun p=>(fun ps=>Instr.fill (fun i=>p.2.2.toArray[i]?) ((aF sv0 p.2.1).getD []).toArray ps,true)) (l:=bdL) (by kernel_rfl) h;simp only [Prod.mk.injEq] at h;obtain ⟨zs,hz⟩:=HS h.2;refine ⟨zs,_,uO hz,aAx (ls:=p.2.2) ?_,fun i q h=>by rw [MG]; exact h⟩;rw [h.1,hz]; rfl
theorem BR (n s i:Nat) (q:Nat × Nat) (h:((List.range n).map fun i=>(i * s,s))[i]?=some q):some (i * s,s)=some q:=by
 rw [List.getElem?_map] at h;rcases Nat.lt_or_ge i n with hi | hi
 ·rw [List.getElem?_range hi] at h; exact h
 rw [List.getElem?_eq_none (by simpa using hi)] at h; cases h
theorem aB8:BD Tryz.prog 62 [.int .i64 0,.int .i64 0] (fun i=>some (i * 1,1)):=by unfold BD; kernel_rfl
theorem G5:BDq Tryz.prog 62 z62 [(0,1),(1,1)]:=⟨[.int .i64 0,.int .i64 0],_,fun g=>rfl,aB8,fun i q h=>BR 2 1 i q h⟩
theorem G8:BD Tryz.prog 217 [.int .u64 0,.int .u64 0,.int .u64 0,.int .u64 0,.int .u64 0,.int .u64 0,.int .u64 0,.int .u64 0,.int .u64 0] (fun i=>some (i * 3,3)):=by unfold BD; kernel_rfl
theorem UH:BDq Tryz.prog 217 HF [(0,3),(3,3),(6,3)]:=⟨[.int .u64 0,.int .u64 0,.int .u64 0,.int .u64 0,.int .u64 0,.int .u64 0,.int .u64 0,.int .u64 0,.int .u64 0],_,fun g=>rfl,G8,fun i q h=>BR 3 3 i q h⟩
theorem G7:BD Tryz.prog 228 [.nilFunc,.nilFunc,.nilFunc,.nilFunc,.nilFunc,.nilFunc,.nilFunc,.nilFunc,.nilFunc,.nilFunc] (fun i=>some (i * 1,1)):=by unfold BD; kernel_rfl
theorem UG:BDq Tryz.prog 228 z228 [(0,1),(1,1),(2,1),(3,1),(4,1),(5,1),(6,1),(7,1),(8,1),(9,1)]:=⟨[.nilFunc,.nilFunc,.nilFunc,.nilFunc,.nilFunc,.nilFunc,.nilFunc,.nilFunc,.nilFunc,.nilFunc],_,fun g=>rfl,G7,fun i q h=>BR 10 1 i q h⟩
theorem G6:BD Tryz.prog 364 [.nilFunc,.nilFunc,.nilFunc,.nilFunc,.nilFunc,.nilFunc,.nilFunc,.nilFunc,.nilFunc,.nilFunc,.nilFunc,.nilFunc] (fun i=>some (i * 1,1)):=by unfold BD; kernel_rfl
theorem UF:BDq Tryz.prog 364 OB [(0,1),(1,1),(2,1),(3,1),(4,1),(5,1),(6,1),(7,1),(8,1),(9,1),(10,1),(11,1)]:=⟨[.nilFunc,.nilFunc,.nilFunc,.nilFunc,.nilFunc,.nilFunc,.nilFunc,.nilFunc,.nilFunc,.nilFunc,.nilFunc,.nilFunc],_,fun g=>rfl,G6,fun i q h=>BR 12 1 i q h⟩
def bdA:List (Nat × List SV × List (Nat × Nat)):=[(62,z62,[(0,1),(1,1)]),(217,HF,[(0,3),(3,3),(6,3)]),(228,z228,[(0,1),(1,1),(2,1),(3,1),(4,1),(5,1),(6,1),(7,1),(8,1),(9,1)]),(364,OB,[(0,1),(1,1),(2,1),(3,1),(4,1),(5,1),(6,1),(7,1),(8,1),(9,1),(10,1),(11,1)])]
theorem aF7:GY (fun t z l=>BDq Tryz.prog t z l) bdA:=⟨G5,UH,UG,UF,trivial⟩
def slL:List (Nat × Nat):=[(26,1),(40,1),(44,7),(53,6),(70,4),(75,1),(106,6),(117,3),(136,1),(172,4),(182,5),(225,2),(248,1),(297,1),(332,1)]
def slR (t:Nat):Option Nat:=match Tryz.prog.underlying t with
 | some (.slice e)=>(Tryz.prog.info? e).map (·.size)
 | _=>none
theorem HU:xV (fun t s=>∃ e,SL Tryz.prog t e s) slL:=xV.of fun p h=>by
 have h:=tab (f:=fun p:Nat × Nat=>slR p.1) (g:=fun p=>some p.2) (l:=slL) (by kernel_rfl) h;simp only [slR] at h;split at h
 ·rename_i e he; exact ⟨e,he,h⟩
 cases h
def arL:List (Nat × Nat × Nat):=[(31,3,1),(62,2,1),(178,3,1),(228,10,1),(322,10,1),(364,12,1),(412,24,1)]
def arR (t:Nat):Option (Nat × Option Nat):=match Tryz.prog.underlying t with
 | some (.array n e)=>some (n,(Tryz.prog.info? e).map (·.size))
 | _=>none
theorem KE:CU (fun t n s=>AR Tryz.prog t n s) arL:=CU.of fun p h=>by
 have h:=tab (f:=fun p:Nat × Nat × Nat=>arR p.1) (g:=fun p=>some (p.2.1,some p.2.2)) (l:=arL) (by kernel_rfl) h;simp only [arR] at h;split at h
 ·rename_i n e he; injection h with h; injection h with h1 h2; subst h1; exact ⟨e,he,h2⟩
 cases h
def aNi:List (Nat × Nat × Nat × Nat):=[(62,2,1,0),(217,3,3,1)]
theorem W8:CS (fun t n s a=>∃ e,Tryz.prog.underlying t=some (.array n e)∧(Tryz.prog.info? e).map (·.size)=some s∧(if a=1 then Many Tryz.prog e s else One Tryz.prog e)) aNi:=⟨⟨3,Tryz.underlying62,by kernel_rfl,oN⟩,⟨112,Tryz.underlying217,by kernel_rfl,mN⟩,trivial⟩
def aLi:List (Nat × Nat × Nat × Nat):=[(89,1,1,15),(126,0,0,2)]
theorem T2:CS (fun s i o n=>∃ fs e,Tryz.prog.underlying s=some (.struct fs)∧(fs[i]?).map (fun f=>(f.type,f.offset))=some (e,o)∧(if n % 2=1 then Many Tryz.prog e (n / 2) else One Tryz.prog e)) aLi:=⟨⟨_,85,Tryz.underlying89,rfl,mN⟩,⟨_,3,Tryz.underlying126,rfl,oN⟩,trivial⟩
theorem vV:dX Tryz.prog 62 (aC .u16):=by
 have hi:∃ i,Tryz.prog.info? 3=some i:=⟨_,rfl⟩;obtain ⟨i,hi⟩:=hi;exact aHw Tryz.underlying62 Tryz.underlying3 hi (by kernel_rfl) (One.of Tryz.underlying3 rfl)
theorem aB4:ZV Tryz.prog 89 (.agg #[.int .i64 0,.int .i64 0,.int .i64 0,.int .i64 0,.int .u64 0,.int .i64 0,.int .i64 0,.string ⟨#[]⟩,.int .u64 0]):=by unfold ZV; kernel_rfl
theorem aB3:ZV Tryz.prog 110 (.pointer none):=by unfold ZV; kernel_rfl
theorem G3:ZV Tryz.prog 4 (.bool false):=by unfold ZV; kernel_rfl
theorem G2:ZV Tryz.prog 62 (.agg #[.int .i64 0,.int .i64 0]):=by unfold ZV; kernel_rfl
theorem G1:ZV Tryz.prog 53 (.slice none 0 0):=by unfold ZV; kernel_rfl
theorem G0:ZV Tryz.prog 3 (.int .i64 0):=by unfold ZV; kernel_rfl
def lkL:List (Nat × IntKind × SV):=[(76,.u64,(.a [(.i .i64 0),(.i .i64 0),(.i .i64 0),(.i .i64 0),(.i .u64 0),(.i .i64 0),(.i .i64 0),(.s 0 0),(.i .u64 0)])),(77,.u64,.pn),(138,.i64,(.b false)),(226,.u16,(.a [(.i .i64 0),(.i .i64 0)])),(234,.i64,.sn),(333,.u16,(.i .i64 0))]
theorem aD1:aGg (fun t k z=>∃ K E zv,Tryz.prog.underlying t=some (.map K E)∧dX Tryz.prog K (aC k)∧ZV Tryz.prog E zv∧∀ g,aT g z=some zv) lkL:=⟨⟨_,_,_,Tryz.underlying76,oR Tryz.underlying30 rfl,aB4,fun g=>rfl⟩,⟨_,_,_,Tryz.underlying77,oR Tryz.underlying30 rfl,aB3,fun g=>rfl⟩,⟨_,_,_,Tryz.underlying138,oR Tryz.underlying3 rfl,G3,fun g=>rfl⟩,⟨_,_,_,Tryz.underlying226,vV,G2,fun g=>rfl⟩,⟨_,_,_,Tryz.underlying234,oR Tryz.underlying3 rfl,G1,fun g=>rfl⟩,⟨_,_,_,Tryz.underlying333,vV,G0,fun g=>rfl⟩,trivial⟩
def alL:List (Nat × List SV):=[(3,z3),(27,z27),(31,z31),(34,z34),(47,z47),(56,z56),(60,z60),(62,z62),(64,z64),(72,z72),(81,SG),(83,z83),(85,z85),(89,z89),(94,CV),(96,z96),(112,C3),(147,SQ),(178,aGr),(188,aGq),(217,HF),(220,DC),(228,z228),(243,aNn),(248,aGn),(364,OB),(412,aGk)]
theorem KG:GW (fun t z=>∃ zs,AL Tryz.prog t zs∧∀ g,aF (aE g) z=some zs) alL:=GW.of fun p h=>by
 have h:=tab (f:=fun p:Nat × List SV=>((Tryz.prog.info? p.1).map fun i=>i.zero.map (·.cells),(aF sv0 p.2).isSome)) (g:=fun p=>(some (some ((aF sv0 p.2).getD []).toArray),true)) (l:=alL) (by kernel_rfl) h;simp only [Prod.mk.injEq] at h;obtain ⟨zs,hz⟩:=HS h.2;exact ⟨zs,by unfold AL; rw [h.1,hz]; rfl,uO hz⟩
def bsL:List (Nat × Nat × Nat × List SV):=[(26,9,1,[(.s 0 0)]),(40,3,1,[(.i .i64 0)]),(44,47,7,[(.i .i64 0),(.i .i64 0),(.i .i64 0),(.i .i64 0),(.i .i64 0),(.i .u64 0),(.s 0 0)]),(53,147,6,[(.i .i64 0),(.i .i64 0),(.i .i64 0),(.i .i64 0),(.s 0 0),(.i .i64 0)]),(70,64,4,[(.i .i64 0),(.i .i64 0),(.i .i64 0),(.i .i64 0)]),(75,123,1,[.pn]),(106,94,6,[(.i .i64 0),(.s 0 0),(.i .u64 0),(.i .i64 0),(.i .i64 0),(.i .i64 0)]),(117,112,3,[(.i .u64 0),(.i .u64 0),(.i .u64 0)]),(136,23,1,[.pn]),(137,291,3,[(.i .i64 0),(.i .i64 0),(.s 0 0)]),(172,96,4,[(.i .u64 0),(.i .i64 0),(.i .i64 0),(.s 0 0)]),(225,60,2,[(.i .i64 0),(.i .i64 0)]),(248,5,1,[(.i .u8 0)]),(297,30,1,[(.i .u64 0)])]
theorem KA:KJ (fun t e s z=>∃ zero,BS Tryz.prog t e s zero∧∀ g,aF (aE g) z=some zero) bsL:=KJ.of fun p h=>by
 have h:=tab (f:=fun p:Nat × Nat × Nat × List SV=>(Tryz.prog.underlying p.1,(Tryz.prog.info? p.2.1).map (fun i=>(i.size,i.zero.map (·.cells))),((aF sv0 p.2.2.2).getD []).length,Nat.ble 1 p.2.2.1,(aF sv0 p.2.2.2).isSome)) (g:=fun p=>(some (.slice p.2.1),some (p.2.2.1,some ((aF sv0 p.2.2.2).getD []).toArray),p.2.2.1,true,true)) (l:=bsL) (by kernel_rfl) h;simp only [Prod.mk.injEq] at h;obtain ⟨zs,hz⟩:=HS h.2.2.2.2;rw [hz] at h;exact ⟨zs,⟨h.1,h.2.1,h.2.2.1,Nat.le_of_ble_eq_true h.2.2.2.1⟩,uO hz⟩
def aF3:List (Nat × Nat × Nat):=[(53,147,6),(70,64,4)]
theorem W3:CU (fun t e z=>Tryz.prog.underlying t=some (.slice e)∧(Tryz.prog.info? e).map (·.size)=some z) aF3:=CU.of fun p h=>by
 have h:=tab (f:=fun p:Nat × Nat × Nat=>(Tryz.prog.underlying p.1,(Tryz.prog.info? p.2.1).map (·.size))) (g:=fun p=>(some (.slice p.2.1),some p.2.2)) (l:=aF3) (by kernel_rfl) h;simp only [Prod.mk.injEq] at h;exact h
def apL:List (Nat × Nat × Nat × Nat):=[(26,9,1,16),(40,3,1,8),(44,47,7,64),(53,147,6,56),(70,64,4,32),(75,123,1,8),(117,112,3,24),(136,23,1,8),(137,291,3,32),(172,96,4,40),(225,60,2,16),(248,5,1,1),(297,30,1,8)]
theorem KF:CS (fun t e z b=>∃ zv,C2 Tryz.prog t e z b zv) apL:=CS.of fun p h=>by
 have h:=tab (f:=fun p:Nat × Nat × Nat × Nat=>(Tryz.prog.underlying p.1,(Tryz.prog.info? p.2.1).map (fun i=>(i.size,i.bytes,i.zero.map fun z=>(vc z).length)),Nat.ble 1 p.2.2.1)) (g:=fun p=>(some (.slice p.2.1),some (p.2.2.1,p.2.2.2,some p.2.2.1),true)) (l:=apL) (by kernel_rfl) h;simp only [Prod.mk.injEq] at h;obtain ⟨h1,h2,h3⟩:=h;cases hi:Tryz.prog.info? p.2.1 with
 | none=>rw [hi] at h2; cases h2
 | some i =>
  rw [hi] at h2;simp only [Option.map_some,Option.some.injEq,Prod.mk.injEq] at h2;obtain ⟨h4,h5,h6⟩:=h2;cases hz:i.zero with
  | none=>rw [hz] at h6; cases h6
  | some z =>
   rw [hz] at h6;exact ⟨z,h1,by rw [hi]; simp only [Option.map_some,hz,h4,h5],Option.some.inj h6,Nat.le_of_ble_eq_true h3⟩
def mpL:List (Nat × IntKind):=[(76,.u64),(77,.u64),(138,.i64),(226,.u16),(234,.i64),(333,.u16)]
theorem aDr:aGh (fun t k=>∃ K E,Tryz.prog.underlying t=some (.map K E)∧dX Tryz.prog K (aC k)) mpL:=⟨⟨_,_,Tryz.underlying76,oR Tryz.underlying30 rfl⟩,⟨_,_,Tryz.underlying77,oR Tryz.underlying30 rfl⟩,⟨_,_,Tryz.underlying138,oR Tryz.underlying3 rfl⟩,⟨_,_,Tryz.underlying226,vV⟩,⟨_,_,Tryz.underlying234,oR Tryz.underlying3 rfl⟩,⟨_,_,Tryz.underlying333,vV⟩,trivial⟩
end
noncomputable section
variable (gls:Nat→List SV→Bool)
def lub (l:List (Nat × Nat)) (t n:Nat):Bool:=match lu l t with
 | some m=>Nat.beq m n
 | none=>false
theorem XE {l:List (Nat × Nat)} {t n:Nat} (h:lub l t n=true):lu l t=some n:=by
 unfold lub at h;split at h
 ·rename_i m hm; rw [hm,Nat.eq_of_beq_eq_true h]
 cases h
def inU (k:IntKind) (t:Nat):Bool:=match dU t with
 | some (.int j)=>kN j k
 | _=>false
theorem JG {k:IntKind} {t:Nat} (h:inU k t=true):Tryz.prog.underlying t=some (.int k):=by
 unfold inU at h;split at h
 ·rename_i j hj; rw [← dO h]; exact uN hj
 cases h
def D7 (k:TK) (t:Nat):Bool:=match k,dU t with
 | .s,some .string=>true
 | .l,some (.slice _)=>true
 | .m,some (.map _ _)=>true
 | .p,some (.pointer _)=>true
 | .o,some _=>true
 | .a z,some _=>inZ eqL t z
 | _,_=>false
theorem HT {t:Nat} (h:D7 .s t=true):Tryz.prog.underlying t=some .string:=by
 unfold D7 at h;split at h <;> first | exact uN (by assumption) | (rename_i e _; cases e; done) | (cases h; done)
def RL:FT where
 fa s i o:=match lf faT s i with
  | some x=>Nat.beq x o
  | none=>false
 one t:=(lu VJ t).isSome
 many:=lub MF
 tk k t:=D7 k t
 toI s t k:=(dU s).isSome && inU k t
 toS s t:=D7 .l s && (match dU s with
  | some (.slice e)=>inU .u8 e
  | _=>false) && D7 .s t
 bd t z l:=inB bdL t z l || inB bdA t z l
 sl:=in2 slL
 ar:=in3 arL
 str:=D7 .s
 ara t n s ag:=in4 aNi t n s (bif ag then 1 else 0)
 YU s i o n ag:=in4 aLi s i o (2 * n + bif ag then 1 else 0)
 lk:=inL lkL
 al:=inZ alL
 bs:=inR bsL
 bs0:=in3 aF3
 sz:=lub szT
 ap:=in4 apL
 mp:=inK mpL
 toB s t e:=D7 .s s && (match dU t with
  | some (.slice e')=>Nat.beq e' e
  | _=>false) && inU .u8 e
 gl:=gls
theorem T1 {W0:World} (hg:∀ b l,gls b l=true→∀ (o:Nat) (v:SV),l[o]?=some v→∃ x,(∀ g,aE g v=some x)∧W0.cell? ⟨b,o,none⟩=some x):(RL gls).Ok Tryz.prog W0 where
 fa s i o h:=by
  dsimp only [RL] at h;split at h
  ·rename_i x hx; rw [← Nat.eq_of_beq_eq_true h]; exact fA hx
  cases h
 one t h:=oN (by
  cases hx:lu VJ t with
  | none=>simp only [RL,hx] at h; cases h
  | some u=>rfl)
 many t n h:=mN (XE h)
 tk k t h:=by
  have h':D7 k t=true:=h;unfold D7 at h';split at h'
  ·exact ⟨_,uN (by assumption),rfl,fun zz e=>by cases e⟩
  ·exact ⟨_,uN (by assumption),rfl,fun zz e=>by cases e⟩
  ·exact ⟨_,uN (by assumption),rfl,fun zz e=>by cases e⟩
  ·exact ⟨_,uN (by assumption),rfl,fun zz e=>by cases e⟩
  ·exact ⟨_,uN (by assumption),rfl,fun zz e=>by cases e⟩
  ·exact ⟨_,uN (by assumption),rfl,fun zz e=>by injection e with e; subst e; exact JF aFf h'⟩
  cases h'
 toI s t k h:=by
  have h':((dU s).isSome && inU k t)=true:=h;simp only [Bool.and_eq_true] at h';obtain ⟨d,hd⟩:=Option.isSome_iff_exists.1 h'.1;exact ⟨⟨d,uN hd⟩,JG h'.2⟩
 toS s t h:=by
  dsimp only [RL] at h;simp only [Bool.and_eq_true] at h;obtain ⟨⟨_,h2⟩,h3⟩:=h;split at h2
  ·rename_i e he; exact ⟨e,uN he,JG h2,HT h3⟩
  cases h2
 bd t z l h:=by
  have h':(inB bdL t z l || inB bdA t z l)=true:=h;obtain ⟨pl,⟨zs,p2,h1,h2,h3⟩,h4⟩:∃ pl,BDq Tryz.prog t z pl∧∀ p∈l,pl[p.1]?=some (p.2.1,p.2.2):=by
   rcases Bool.or_eq_true_iff.1 h' with h | h
   ·exact JI W4 h
   exact JI aF7 h
  exact ⟨zs,p2,h1,h2,fun q hq=>h3 _ _ (h4 q hq)⟩
 sl t s h:=YD HU h
 ar t n s h:=JJ KE h
 str t h:=HT h
 ara t n s ag h:=by
  obtain ⟨e,h1,h2,h3⟩:=CA W8 h;refine ⟨e,h1,h2,?_⟩;cases ag <;> simpa using h3
 YU s i o n ag h:=by
  obtain ⟨fs,e,h1,h2,h3⟩:=CA T2 h;refine ⟨fs,e,h1,h2,?_⟩;cases ag with
  | true =>
   have e1:(2 * n + 1) % 2=1:=by omega
   have e2:(2 * n + 1) / 2=n:=by omega
   simpa [e1,e2] using h3
  | false =>
   have e1:¬ (2 * n) % 2=1:=by omega
   simpa [e1] using h3
 lk t k z h:=YB aD1 h
 al t z h:=JF KG h
 bs t e z n zs h:=by
  obtain ⟨zz,⟨zero,h1,h2⟩,h3,h4,h5,rfl⟩:=YA KA h;exact ⟨zero,h1,h3,h4,fun g=>LD (h2 g) n,Nat.le_trans h5 (by unfold maxLen; decide)⟩
 bs0 t e z h:=JJ W3 h
 sz t n h:=sZ (XE h)
 ap t e z b h:=CA KF h
 mp t k h:=YC aDr h
 toB s t e h:=by
  dsimp only [RL] at h;simp only [Bool.and_eq_true] at h;obtain ⟨⟨h1,h2⟩,h3⟩:=h;split at h2
  ·rename_i e' he; rw [← Nat.eq_of_beq_eq_true h2] at h3 ⊢; exact ⟨HT h1,uN he,JG h3⟩
  cases h2
 gl b l h:=hg b l h
end
noncomputable section
theorem aGi:(Tryz.prog.info? 243).map (·.zero)=some (some (.agg #[.int .i64 0])):=by kernel_rfl
theorem vT (w:World):(Instr.typeAssert .nilIface 20 243 true).run Tryz.prog w=.ok (.tuple #[.agg #[.int .i64 0],.bool false]) w:=by
 have hz:=ZV.run (P:=Tryz.prog) (t:=243) (z:=.agg #[.int .i64 0]) aGi w;simp [Instr.typeAssert,underlying,Tryz.underlying243,hz]
theorem uD (v:Value) (w:World):(Instr.typeAssert (.iface 243 v) 20 243 true).run Tryz.prog w=.ok (.tuple #[v,.bool true]) w:=by
 simp [Instr.typeAssert,underlying,Tryz.underlying243]
theorem JW (x:Value) (W:World):CallsD Tryz.prog 55 #[x] .returning W fun e u' w'=>(∃ v,e=.returned v)∧u'=.returning∧∀ W0 L,aB W0 W L→aB W0 w' L:=by
 refine callsD_of_wpS Tryz.func55 rfl fun c₀ cs hu=>?_;apply wpS_seq;apply wpS_region;simp [wpOpsS,go_sem,recoverD,hu,Tryz.ntmps55,Exit.thenS,vT];apply wpS_seq;apply wpS_region;simp [wpOpsS,go_sem,Exit.thenS];refine wpS_cond (t:=false) (by simp [Act.eval,Array.replicate]) ?_;simp only [Bool.false_eq_true,if_false];refine wpS_of_wp (wp_skip ?_);refine ⟨rfl,.returning,by cases c₀; simp_all,.tuple #[],by simp [results,Tryz.results55],⟨_,rfl⟩,rfl,fun W0 L hs=>?_⟩;exact hs.step ((Below.refl _ _).alloc (Nat.le_refl _) _)
theorem FY (b o t:Nat) (C:List Value) (k:IntKind) (n:Int) (W0 W:World) (L:List aA) (hs:aB W0 W (Bk b t C::L)) (ho:o < C.length):CallsD Tryz.prog 55 #[.pointer (some ⟨b,o,none⟩)] (.panicking (chain (.int k n))) W fun e u' w'=>(∃ v,e=.returned v)∧settle u'=.returning∧aB W0 w' (Bk b t (C.set o (.int k n))::L):=by
 have hat:=(hs.bk .here);have hb:b < W.heap.size:=hat.lt;have hc:∀ x,C[o]?=some x→W.cell? ⟨b,o,none⟩=some x:=fun x hx=>by rw [hat.rd]; simpa using hx
 obtain ⟨x0,hx0⟩:∃ x,C[o]?=some x:=⟨_,List.getElem?_eq_getElem ho⟩;have hcell:=hc x0 hx0;have hne:W.heap.size≠b:=by omega
 have hfz:W.frozen? ⟨b,o,none⟩=false:=hat.fr o;refine callsD_of_wpS Tryz.func55 rfl fun c₀ cs hu=>?_;apply wpS_seq;apply wpS_region;simp [wpOpsS,go_sem,recoverD,hu,Tryz.ntmps55,Exit.thenS,uD,chain,HG];apply wpS_seq;apply wpS_region;simp [wpOpsS,go_sem,Exit.thenS];refine wpS_cond (t:=true) (by simp [Act.eval,Array.replicate]) ?_;simp only [if_true];apply wpS_region;have h1:=aK1 (.cells #[.int k n] 243) hcell;have h2:=aEk (.cells #[.int k n] 243) hcell hfz;simp [wpOpsS,go_sem,h1,h2,bodyPostS,results,Tryz.results55];have s1:aB W0 (W.alloc (.cells #[.int k n] 243)) (Bk b t C::L):=((hs.wD 243 [.int k n]).p1).perm (List.Perm.swap _ _ _) |>.tail
 refine ⟨rfl,?_⟩;unfold Bk at s1 ⊢;have:=s1.set (o:=o) (.int k n);simpa using this
theorem FZ:SF Tryz.prog where
 inv x w:=by
  simp only [invoke];exact (eN:Enters Tryz.prog 55) (#[x]++#[]) w
 quiet:=JW
 caught:=FY
end
section
namespace KK
def x0:O:=.l 0
def x1:O:=.l 1
def x2:O:=.l 2
def x3:O:=.l 3
def x4:O:=.l 4
def x5:O:=.l 5
def x6:O:=.l 6
def x7:O:=.l 7
def x8:O:=.l 8
def x9:O:=.l 9
def x10:O:=.l 10
def x11:O:=.l 11
def x12:O:=.l 12
def x13:O:=.l 13
def x14:O:=.l 14
def x15:O:=.l 15
def x16:O:=.l 16
def x18:O:=.l 18
def x21:O:=.l 21
def x24:O:=.l 24
def x26:O:=.l 26
def t1:O:=.t p1
def t2:O:=.t p2
def t3:O:=.t p3
def t4:O:=.t p4
def t5:O:=.t p5
def t6:O:=.t p6
def t7:O:=.t p7
def t8:O:=.t p8
def t9:O:=.t p9
def pL:O:=.t eZ
def HA:O:=.t hO
def t12:O:=.t eO
def GZ:O:=.t lP
def xZ:O:=.t nR
def OO:O:=.t oK
def t16:O:=.t p16
def t17:O:=.t wA
def SH:O:=.t II
def t19:O:=.t I0
def t20:O:=.t H9
def t21:O:=.t A6
def t22:O:=.t PN
def t23:O:=.t EK
def t24:O:=.t HB
def t25:O:=.t p25
def t26:O:=.t p26
def t27:O:=.t p27
def t28:O:=.t p28
def t29:O:=.t p29
def t30:O:=.t p30
def t31:O:=.t p31
def t32:O:=.t p32
def t33:O:=.t p33
def t34:O:=.t p34
def t35:O:=.t p35
def t36:O:=.t p36
def t37:O:=.t p37
def t38:O:=.t p38
def t39:O:=.t p39
def t40:O:=.t p40
def t41:O:=.t p41
def t42:O:=.t p42
def t43:O:=.t p43
def t44:O:=.t p44
def t45:O:=.t p45
def t46:O:=.t p46
def t47:O:=.t p47
def t48:O:=.t p48
def t49:O:=.t p49
def t50:O:=.t p50
def t51:O:=.t p51
def t54:O:=.t p54
def t55:O:=.t p55
def t58:O:=.t p58
def t59:O:=.t p59
def t60:O:=.t p60
def t61:O:=.t p61
def t62:O:=.t p62
def t63:O:=.t p63
def t64:O:=.t p64
def t65:O:=.t p65
def t66:O:=.t p66
def t67:O:=.t p67
def t69:O:=.t p69
def t71:O:=.t p71
def t72:O:=.t p72
def t73:O:=.t p73
def t74:O:=.t p74
def t75:O:=.t p75
def t80:O:=.t p80
def t81:O:=.t p81
def t82:O:=.t p82
def t83:O:=.t p83
def t84:O:=.t p84
def t88:O:=.t p88
def aN3:O:=.t VI
def aHi:O:=.t yE
def D8:O:=.t PP
def t116:O:=.t IJ
def t127:O:=.t I4
def aBd:O:=.t I3
def aN2:O:=.t I2
def aN1:O:=.t aCk
def aN0:O:=.t aH6
def S (l:List CO) (w:List (Pos × Nat)) (c:CC):CC:=.seq (.ops l w) c
def o0:CO:=.v none (.mv x0) 0
def o1:CO:=.v none (.mv t1) 0
def o2:CO:=.v none (.ld x0) 0
def o3:CO:=.v none (.mv (.c (.i .i64 0))) 0
def o4:CO:=.v none (.mv x1) 0
def o5:CO:=.v none (.nc x0) 0
def o6:CO:=.v none (.mv t2) 0
def o7:CO:=.v none (.ext x0 0) 0
def o8:CO:=.v none (.ext x1 1) 0
def o9:CO:=.v none (.mv x2) 0
def iY:CO:=.v none (.mv t3) 0
def kM:CO:=.v none (.mv t4) 0
def kL:CO:=.v none (.mv (.c (.b false))) 0
def kK:CO:=.v none (.mv t8) 0
def kJ:CO:=.v none (.mv t7) 0
def lM:CO:=.v none (.fa 1 x0) 0
def o16:CO:=.v none (.ln .l x0) 0
def nK:CO:=.v none (.mv t6) 0
def nJ:CO:=.v none (.mv t5) 0
def nI:CO:=.v none (.mv pL) 0
def pG:CO:=.v none (.mv (.c .sn)) 0
def pF:CO:=.v none (.mv (.c (.s 0 0))) 0
def rN:CO:=.v none (.mv t12) 0
def uG:CO:=.v none (.fa 0 x0) 0
def uF:CO:=.v none (.ar .neq .o x0 (.c (.i .i64 0))) 0
def uU:CO:=.v none (.mv HA) 0
def yH:CO:=.v none (.not x0) 0
def yG:CO:=.v none (.ld x0) 1
def yF:CO:=.e none (.st 1 x0 x1)
def zO:CO:=.v none (.mv t16) 0
def BN:CO:=.v none (.mv t9) 0
def HD:CO:=.v none (.ext x2 2) 0
def o32:CO:=.v (some (.l 0,true)) (.mv t1) 0
def IM:CO:=.v none (.mv (.c .pn)) 0
def PY:CO:=.v none (.fa 2 x0) 0
def PX:CO:=.v none (.mv (.c (.i .i64 1))) 0
def PW:CO:=.v (some (.l 3,true)) (.ld x0) 0
def SM:CO:=.v none (.ar .eql .o x0 (.c (.i .i64 0))) 0
def SK:CO:=.v none (.ar .add .o x0 (.c (.i .i64 1))) 0
def SJ:CO:=.v none (.fa 2 t4) 0
def SI:CO:=.v none (.mv OO) 0
def VT:CO:=.v none (.mv GZ) 0
def VS:CO:=.v none (.pick x2 (.c (.b true)) x0) 0
def VR:CO:=.v none (.cvi .u64 x0) 0
def VQ:CO:=.v none (.pick x3 x0 (.c (.b false))) 0
def VP:CO:=.v none (.mv (.c (.b true))) 0
def VO:CO:=.v (some (.l 1,true)) (.ld x0) 0
def B3:CO:=.e none (.st 1 x0 x2)
def B2:CO:=.v none (.ia 1 x1 x0) 0
def B1:CO:=.v none (.fa 0 t4) 0
def B0:CO:=.v (some (.l 1,false)) (.ld x0) 0
def A9:CO:=.v none (.cvi .i64 x0) 0
def A8:CO:=.v none (.ar .sub .o x0 (.c (.i .i64 1))) 0
def A7:CO:=.c none aCq [x0]
def K0:CO:=.v none (.mv xZ) 0
def J9:CO:=.v (some (.l 0,false)) (.mv t1) 0
def J8:CO:=.v none (.mv (.c (.i .u64 0))) 0
def J7:CO:=.v (some (.l 1,true)) (.nc x0) 0
def J6:CO:=.v none (.fa 3 t4) 0
def Z4:CO:=.v none (.nc x1) 0
def Z3:CO:=.v none (.pick x3 (.c (.b true)) x0) 0
def Z2:CO:=.v none (.mv (.c (.i .i64 3))) 0
def Z1:CO:=.v none (.ln .s x0) 0
def Z0:CO:=.v none (.fa 0 t2) 0
def Y9:CO:=.v none (.fa 1 t4) 0
def Y8:CO:=.e none (.box 94 t2)
def o66:CO:=.v none (.eH 4 x0) 0
def o67:CO:=.v none (.fa 6 x0) 0
def o68:CO:=.e none (.al 81 SG)
def o69:CO:=.v none (.fa 0 t9) 0
def o70:CO:=.v none (.ar .neq .p x0 (.c .pn)) 0
def o71:CO:=.v (some (.l 2,true)) (.fa 1 x0) 0
def o72:CO:=.v none (.ar .lss .o x0 (.c (.i .i64 0))) 0
def o73:CO:=.e none (.al 83 z83)
def o74:CO:=.e none (.st 4 x0 x2)
def o75:CO:=.v none (.mv x3) 0
def o76:CO:=.v none (.eH 2 x0) 0
def o77:CO:=.v none (.fa 3 x0) 0
def o78:CO:=.v none (.fa 11 x0) 0
def o79:CO:=.v none (.fa 4 x0) 0
def o80:CO:=.v none (.fa 4 t6) 0
def o81:CO:=.v none (.ld x0) 2
def o82:CO:=.v none (.ar .add .s x1 x0) 0
def o83:CO:=.e none (.st 6 x0 x1)
def o84:CO:=.v none (.fa 3 t6) 0
def o85:CO:=.v none (.fa 0 t6) 0
def o86:CO:=.v none .bad 0
def o87:CO:=.v none (.fa 4 t4) 0
def o88:CO:=.v none (.ia 1 x2 x0) 0
def o89:CO:=.v none (.fW z83 []) 0
def o90:CO:=.v none (.ar .sub .o x1 x0) 0
def o91:CO:=.v none (.ar .add .o x0 (.c (.i .u64 1))) 0
def o92:CO:=.v none (.pick x2 x0 (.c (.b false))) 0
def o93:CO:=.v (some (.l 4,true)) (.ld x0) 0
def o94:CO:=.v none (.fa 3 pL) 0
def o95:CO:=.e none (.al 96 z96)
def o96:CO:=.v none (.fW SG []) 0
def o97:CO:=.e none (.st 13 t3 x0)
def o98:CO:=.c none p88 [x0]
def o99:CO:=.v none (.fW z62 [(0,1,x2),(1,1,x0)]) 0
def WE:CO:=.v none (.ext x0 1) 0
def WD:CO:=.v none (.mv t20) 0
def WC:CO:=.v none (.eH 6 x0) 0
def WB:CO:=.e none (.al 147 SQ)
def WA:CO:=.v (some (.l 3,false)) (.ld x0) 0
def VZ:CO:=.v none (.fa 2 t6) 0
def VY:CO:=.v none (.cvs x0) 0
def VX:CO:=.v (some (.l 4,true)) (.mv t1) 0
def VW:CO:=.e none (.box 83 t1)
def VV:CO:=.e none (.al 94 CV)
def VU:CO:=.v (some (.l 7,true)) (.ld x0) 0
def o111:CO:=.e none (.rng x0)
def N5:CO:=.v none (.nc x4) 0
def N4:CO:=.v none (.fa 10 x0) 0
def N3:CO:=.v none (.eH 3 x0) 0
def N2:CO:=.v none (.fa 0 t8) 0
def N1:CO:=.v (some (.l 0,true)) (.mv t2) 0
def N0:CO:=.v none (.pick x5 x0 (.c (.b false))) 0
def M9:CO:=.e none (.st 4 t3 x0)
def M8:CO:=.v none (.pick x4 (.c (.b true)) x0) 0
def M7:CO:=.v none (.pick x7 x0 (.c (.b false))) 0
def M6:CO:=.v none (.fa 4 pL) 0
def M5:CO:=.v none (.fa 7 x0) 0
def M4:CO:=.e none (.st 4 x0 x1)
def M3:CO:=.v none (.ar .add .o t12 (.c (.i .i64 1))) 0
def M2:CO:=.v none (.mv (.c (.i .i64 4))) 0
def M1:CO:=.v none (.eH 5 x0) 0
def M0:CO:=.e none (.al 188 aGq)
def L9:CO:=.e none (.st 5 x0 x1)
def L8:CO:=.e none (.box 81 t1)
def L7:CO:=.v none (.fa 2 t2) 0
def L6:CO:=.v none (.fa 3 t2) 0
def L5:CO:=.v (some (.l 0,false)) (.mv t7) 0
def L1:CO:=.v none (.mv t23) 0
def L0:CO:=.v none (.eH 7 t4) 0
def K9:CO:=.v (some (.l 5,true)) (.ld x0) 0
def K8:CO:=.v (some (.l 5,false)) (.ld x0) 0
def K7:CO:=.v none (.ar .lss .o x0 (.c (.i .i64 1))) 0
def K6:CO:=.c none p26 [x2,x0]
def K5:CO:=.v none (.ld t4) 0
def K4:CO:=.v none (.pick x4 x0 (.c (.b false))) 0
def K3:CO:=.c none I1 [x1,x0]
def K2:CO:=.e none (.st 6 x0 x2)
def K1:CO:=.v none (.ld HA) 0
def aDl:CO:=.e none (.nF 3 1 1 [(.i .i64 0)] [(0,1,x0)])
def aDk:CO:=.v none (.ar .geq .o x0 (.c (.i .i64 0))) 0
def aDj:CO:=.v (some (.l 2,false)) (.ar .eql .o x0 (.c (.i .i64 1))) 0
def aDi:CO:=.e none (.st 13 x0 x1)
def aDh:CO:=.v none (.yJ 3 1 t12 (.c (.i .i64 0))) 0
def aDg:CO:=.e none (.st 1 x0 x9)
def aDf:CO:=.v none (.ar .lss .o t16 OO) 0
def aDe:CO:=.v none (.ar .add .s x3 x0) 0
def aDd:CO:=.v none (.ar .add .o t16 (.c (.i .i64 1))) 0
def aDc:CO:=.v none (.ar .lss .o x1 x0) 0
def aDb:CO:=.v none (.ar .lss .o xZ GZ) 0
def aDa:CO:=.v none (.ar .add .o xZ (.c (.i .i64 1))) 0
def aC9:CO:=.v (some (.l 0,false)) (.mv t2) 0
def aC8:CO:=.v none (.pick x5 (.c (.b true)) x0) 0
def aC7:CO:=.v (some (.l 0,true)) (.fa 3 t2) 0
def aC6:CO:=.v (some (.l 0,true)) (.mv t5) 0
def aC5:CO:=.e none (.st 7 x0 x1)
def aC4:CO:=.v (some (.l 2,true)) (.ld x0) 0
def aC3:CO:=.e none (.st 4 t7 x0)
def aC2:CO:=.v none (.yJ 2 1 GZ (.c (.i .i64 0))) 0
def aC1:CO:=.v none (.yJ 2 1 GZ (.c (.i .i64 1))) 0
def aC0:CO:=.e none (.st 4 HA x1)
def aCz:CO:=.c none aOw [x2,x0]
def aCy:CO:=.v (some (.l 6,true)) (.ia 1 x2 x0) 0
def aCx:CO:=.v (some (.l 1,false)) (.nc x0) 0
def aCw:CO:=.v (some (.l 2,false)) (.fa 1 x0) 0
def aCv:CO:=.v (some (.l 7,false)) (.ld x0) 0
def aCu:CO:=.v none (.ar .add .o (.c (.i .i64 1)) x0) 0
end KK
open KK
def k6:CF:=⟨[.t hO,.t eO],(S [.e none (.box 31 t5),pG,o3] [(eZ,2),(hO,1),(eO,0)] (.seq (S [o1,o6,.c none EK [x1,x0],yH] [(PN,0)] (.cond t22 (S [pG,.v none (.mv (.c (.i .i64 5))) 0] [(hO,1),(eO,0)] .ret) .skip)) (S [kM,o1,o5,.v none (.fa 8 x0) 0,o2,o91,.v none (.mx x5 x0) 0,o0] [(lP,0)] (.seq (.fZ [0,1,2,3,4,5,6,7,8,9,10,11,12,13,14,15,16,17,18,19,20,21,22,23,24,25,26,27,28,29,30,31,32,33,34,35,36,37,38,39] [o1,o5,uG,o2,o1,o5,lM,uG,o76,o1,o5,lM,PY,o2,o6,.v none (.ia 4 x1 x0) 0,o66,o1,o5,o67,o2,o1,o5,lM,o77,o2,iY,.v none (.fW SG [(1,1,x6),(3,1,x1),(4,1,x0)]) 0,VT,.v none (.eH 3 pL) 0,.c none HB [x26,x21,x13,x2,x1,x0],o0,o7,o8,HD,.fl 81 SG,.fl 85 z85,.e none (.st 13 x1 x4),.e none (.st 7 x1 x4),.v none (.mv x4) 0] [(nR,4),(oK,3),(p16,0)]) (.seq (S [zO,uF] [(p66,0)] (.cond t66 (S [zO,pG,o4] [(hO,1),(eO,0)] .ret) .skip)) (.seq (S [o1,o5,o78,o2,o111] [(p72,0)] (.block 0 (.loop (S [.e none (.Z5 t72),o7] [(p74,0)] (.seq (.cond t74 .skip (.exit 0)) (.block 1 (S [.e none (.ent t72),o7,o8,.e none (.al 89 z89),o9,.e none (.st 9 x1 x2)] [(wA,1),(II,2)] (S [.v none (.fa 0 SH) 0,o2,o6,.v none (.ar .eql .o x1 x0) 0] [(p81,0)] (.cond t81 (.ops [o1,o5,o78,o2,.v none (.mv t17) 0,.e none (.del .u64 x1 x0)] []) .skip))))))))) (.seq (.fZ [0,1,2,3,4,5,6,7,8,9,10,11,12] [o1,o5,o78,o2,o1,o5,o67,o2,o6,.v none (.eH 7 OO) 0,kM,.v none (.fW z89 [(0,1,x2),(1,7,x1),(8,1,x0)]) 0,.e none (.mu .u64 x8 x4 x0)] []) (S [o1,VT,Z4,.v none (.fa 8 x0) 0,B3] [] (S [o1,o5,o67,o2,o91,N5,o67,B3] [] (S [o1,.v none (.eH 13 xZ) 0,.c none p25 [x1,x0],o0,o3] [(hO,1),(eO,0)] .ret)))))))))),1220768629309950709202463,5⟩
def k12:CF:=⟨[.t p5],(S [pG] [(p5,0)] (.seq (S [o1,o6,.c none EK [x1,x0],yH] [(eO,0)] (.cond t12 (S [pG] [(p5,0)] .ret) .skip)) (S [pG] [(p6,0)] (.seq (S [o1,o5,N4,o2,o6,B2,o2,o5,lM,.v none (.eH 9 x0) 0,.c none p35 [x0],o16,o3] [(EK,2),(HB,1),(p25,0)] (.block 0 (.loop (S [.v none (.ar .lss .o t25 t24) 0] [(p26,0)] (.seq (.cond t26 .skip (.exit 0)) (.seq (.block 1 (S [.v none (.ia 3 t23 t25) 0,N3,.e none (.al 112 C3),.e none (.st 3 x0 x1)] [(p8,1)] (.fZ [0,1,2,3,4,5,6,7,8,9,10,11,12] [nK,o1,o5,.v none (.fa 12 x0) 0,o2,N2,o2,.v none (.lk .u64 .pn x2 x0 false) 0,.c none p36 [x0],.v none (.YU 0 1 false x0) 0,aDl,.e none (.ap 3 1 8 x10 x0),o0] [(p6,0)]))) (.ops [.v none (.ar .add .o t25 (.c (.i .i64 1))) 0,o0] [(p25,0)]))))))) (S [nK,o0] [(p5,0)] .ret))))),62916787,2⟩
def k13:CF:=⟨[.t p1],(S [kL] [(p1,0)] (S [.c none p37 [(.c (.s 13 158768237371725874470269747456))],o0,o7,o8,o4,o4] [(p2,1),(p3,0)] (S [iY,SM,o0,N1,.v (some (.l 1,true)) (.ar .eql .s x0 (.c (.s 19 1073240079300444329018914101574259439016028938))) 0,o92,o0] [(p1,0)] .ret))),7,0⟩
def k16:CF:=⟨[.t p7,.t p8,.t p9],(S [o3,o3,o3] [(p7,2),(p8,1),(p9,0)] (.seq (S [o1,o6,iY,.c none p41 [x2,x1,x0],yH] [(nR,0)] (.cond xZ (S [o3,o3,o3] [(p7,2),(p8,1),(p9,0)] .ret) .skip)) (.seq (.fZ [0,1,2,3,4,5,6,7,8,9,10,11,12,13,14,15,16] [o1,o5,lM,yG,o6,B2,yG,o6,iY,.c none p43 [x1,x0],.c none p42 [x3,x0],o7,o8,HD,o9,o9,o9] [(p7,2),(p8,1),(p9,0)]) .ret))),8647,3⟩
def k17:CF:=⟨[.t p7],(S [pG] [(p7,0)] (.seq (S [o1,o6,iY,.c none p41 [x2,x1,x0],yH] [(eO,0)] (.cond t12 (S [pG] [(p7,0)] .ret) .skip)) (.seq (.fZ [0,1,2,3,4,5,6,7,8,9,10,11] [o1,o5,lM,yG,o6,B2,yG,o6,iY,.c none p43 [x1,x0],.c none lP [x3,x0],o0] [(p7,0)]) .ret))),2119,3⟩
def k18:CF:=⟨[.t p3],(S [pG] [(p3,0)] (S [o1,o5,.v none (.fa 5 x0) 0,o2,.c none p44 [x0],o0] [(p3,0)] .ret)),5,1⟩
def k19:CF:=⟨[.c p3 4 true],(S [.e none (.al 56 z56)] [(p3,0)] (S [o3] [(p4,0)] (.seq (.block 0 (.loop (.seq (S [kM,.v none (.ar .lss .o x0 (.c (.i .i64 8))) 0,o0,o32,.v (some (.l 1,true)) (.mv t4) 0,.c (some (.l 2,true)) p45 [x1,x0],.v (some (.l 3,true)) (.ln .l x0) 0,.v (some (.l 4,true)) (.ar .gtr .o x0 (.c (.i .i64 0))) 0,N0] [(nR,0)] (.cond xZ .skip (.exit 0))) (.block 1 (.ops [kM,SK,o0] [(p4,0)]))))) (S [o1,.c none I0 [x0],o0] [(p5,0)] (S [o1,kM,.c none p46 [x1,x0],nJ,.c none p47 [x0],nJ,.c none p48 [x0],o1,kM,.c none p49 [x1,x0],.v none (.fW z56 [(0,1,x7),(1,1,x5),(2,1,x3),(3,1,x0)]) 0,M9] [] .ret))))),8221,1⟩
def k21:CF:=⟨[.t p5,.t p6],(S [.e none (.box 72 t2),IM,o3] [(p4,2),(p5,1),(p6,0)] (S [o1,B1,o76,.c none p51 [x2,x0],o0,o7,o8,.e none (.al 60 z60),.e none (.st 2 x0 x2),o9] [(p8,0)] (S [SJ,o2,o16,.c none p52 [x0],o0,o7,o8,o4,o4] [(p9,1),(eZ,0)] (.seq (S [kK,uF,o0,.v (some (.l 0,false)) (.mv pL) 0,.v (some (.l 1,false)) (.ar .neq .o x0 (.c (.i .i64 0))) 0,VS,o0,.v (some (.l 0,false)) (.fa 3 t4) 0,B0,.c (some (.l 2,false)) p53 [x0],.v (some (.l 3,false)) (.not x0) 0,M8,o0,.v (some (.l 0,false)) (.fa 4 t4) 0,B0,.v (some (.l 2,false)) (.ar .lss .o x0 (.c (.i .i64 8))) 0,Z3,o0,.v (some (.l 0,false)) (.fa 4 t4) 0,B0,.v (some (.l 2,false)) (.ar .gtr .o x0 (.c (.i .i64 1000))) 0,Z3] [(p49,0)] (.cond t49 (S [IM,PX] [(p5,1),(p6,0)] .ret) .skip)) (S [SJ,o2,.c none p54 [x0],SJ,yF] [] (S [o1,.v none (.eH 5 t4) 0,BN,.e none (.B5 .u64),.e none (.B5 .u64),.v none (.fW z79 [(0,1,x4),(1,5,x3),(6,1,(.c (.i .u64 1))),(7,1,(.c (.i .u64 1))),(9,1,x2),(11,1,x1),(12,1,x0)]) 0,.e none (.box 79 x0),o0] [(hO,0)] (.seq (S [SJ,o2,o16,o3] [(p63,1),(p64,0)] (.block 0 (.loop (S [.v none (.ar .lss .o t64 t63) 0] [(p65,0)] (.seq (.cond t65 .skip (.exit 0)) (.seq (.block 1 (S [.c none p55 [(.c (.i .i64 4)),(.c (.i .i64 4096))],o0,o7,o8,o4,o4] [(eO,1),(lP,0)] (.seq (S [VT,uF] [(p71,0)] (.cond t71 (S [VT,IM,o4] [(p5,1),(p6,0)] .ret) .skip)) (.ops [uU,uU,o5,N4,o2,rN,.v none (.fW aGt [(0,1,x0)]) 0,.e none (.box 122 x0),.e none (.nF 123 1 1 [.pn] [(0,1,x0)]),.e none (.ap 123 1 8 x4 x0),.v none (.nc x9) 0,N4,B3] [])))) (.ops [.v none (.ar .add .o t64 (.c (.i .i64 1))) 0,o0] [(p64,0)]))))))) (S [uU,o0,o3] [(p5,1),(p6,0)] .ret)))))))),1212873704321379737531,2⟩
def k22:CF:=⟨[.t p5],(S [kL] [(p5,0)] (S [o6,aDk,o0,N1,.v (some (.l 1,true)) (.mv t1) 0,.v (some (.l 2,true)) (.nc x0) 0,.v (some (.l 3,true)) (.fa 10 x0) 0,o93,.v (some (.l 5,true)) (.ln .l x0) 0,.v (some (.l 6,true)) (.ar .lss .o x5 x0) 0,M7,o0] [(p5,0)] .ret)),19,2⟩
def k23:CF:=⟨[.c lP 13 true,.c nR 7 true,.c oK 1 false],(S [.e none (.box 60 t2),.e none (.box 64 t3),.e none (.box 81 t4),.e none (.box 31 t6),o68,.e none (.al 85 z85),.e none (.al 27 z27)] [(p8,6),(p9,5),(eZ,4),(eO,3),(lP,2),(nR,1),(oK,0)] (S [.df OO] [] (S [M6,o2,SM,o0,.v (some (.l 0,false)) (.fa 4 pL) 0,B0,aDj,Z3,.c none p57 [x0,(.c (.i .i64 1))]] [] (S [o1,o94,o2,M6,o2,o69,o76,.c none p58 [x6,x4,x2,x0],o0] [(p16,0)] (S [.v none (.fa 1 pL) 0,o2,o94,o2,M6,o2,.v none (.fW SG [(0,1,(.c (.i .i64 1))),(1,1,x4),(3,1,x2),(4,1,x0)]) 0,o68,aDi] [(wA,1)] (S [zO,aDh,o2,.c none p59 [x2,x0],.v none (.fa 6 t17) 0,yF] [] (S [zO,.v none (.fa 6 t17) 0,o2,.c none p60 [x2,x0]] [] (S [zO,.v none (.yJ 3 1 t12 (.c (.i .i64 1))) 0,o2,.c none p61 [x2,x0],.v none (.fa 7 t17) 0,yF] [] (S [zO,.v none (.fa 7 t17) 0,o2,.c none p60 [x2,x0]] [] (S [zO,zO,aDh,o2,o69,uG,o2,.c none p63 [x5,x3,x0],.c none p62 [x7,x0]] [] (S [zO,o69,lM,o2,.v none (.yJ 3 1 t12 (.c (.i .i64 2))) 0,o2,.c none p64 [x5,x2,x0],.v none (.fa 8 t17) 0,yF] [] (S [zO,zO,N2,o2,.c none p59 [x2,x0],.c none p65 [x4,x0],.v none (.fa 9 t17) 0,yF] [] (S [zO,zO,N2,o2,o69,uG,o2,.c none p63 [x5,x3,x0],.c none p62 [x7,x0]] [] (S [zO,M6,o2,.v none (.fa 2 t9) 0,.v none (.yJ 2 1 x0 x1) 0,o2,.c none p62 [x5,x0]] [] (S [zO,zO,nJ,.c none p67 [x0],.c none p66 [x2,x0],.c none p65 [x4,x0],.v none (.fa 10 t17) 0,yF] [] (S [.v none (.eH 13 t17) 0,.c none p68 [x0],.c none p57 [x0,(.c (.i .i64 3))]] [] (.seq (.fZ [0,1,2,3,4,5,6,7,8,9,10,11,12,13,14,15,16,17,18,19,20,21] [.v none (.eH 13 t17) 0,zO,o5,lM,.v none (.eH 4 x0) 2,aDh,.v none (.ld x0) 3,.v none (.yJ 3 1 t12 (.c (.i .i64 1))) 0,.v none (.ld x0) 4,o94,.v none (.ld x0) 5,.e none (.st 13 GZ x10),.e none (.st 7 xZ (.c (.a [(.i .i64 0),(.i .i64 0),(.i .i64 0),(.i .u64 0),(.i .i64 0),(.i .i64 0),(.s 0 0)]))),.v none (.fa 0 xZ) 0,.e none (.st 4 x0 x9),.v none (.fa 4 xZ) 0,aDg,.v none (.fa 5 xZ) 0,aDg,.v none (.fa 6 xZ) 0,aDg,.e none (.st 1 OO (.c (.i .i64 0)))] []) .ret))))))))))))))))),129983,6⟩
def k24:CF:=⟨[.t p5],(S [.e none (.box 81 t2),pG] [(p4,1),(p5,0)] (.seq (.fZ [0,2,3,4,5,6,7,8,9,10,1,11,12,13,14,15,16] [.v none (.eH 13 t4) 0,o1,o5,M5,yG,o1,o5,lM,o79,yG,.c none p30 [x9],.c none p69 [x0,x6,x1],o0,o7,o8,o4,o4] [(p6,1)]) (S [o1,o5,M5,o2,o91,N5,M5,B3] [] (S [pG] [(p8,0)] (.seq (S [nK,o16,o3] [(p33,2),(p34,1),(p35,0)] (.block 0 (.loop (S [.v none (.ar .lss .o t35 t34) 0] [(p36,0)] (.seq (.cond t36 .skip (.exit 0)) (.seq (.block 1 (S [.v none (.ia 4 t33 t35) 0,o66,o95,M4] [(eZ,1)] (.ops [kK,.v none (.eH 4 pL) 0,.c none p32 [x0],.e none (.nF 9 1 1 [(.s 0 0)] [(0,1,x0)]),.e none (.ap 9 1 16 x3 x0),o0] [(p8,0)]))) (.ops [.v none (.ar .add .o t35 (.c (.i .i64 1))) 0,o0] [(p35,0)]))))))) (S [kK,o0] [(p5,0)] .ret)))))),64424510139,2⟩
def k26:CF:=⟨[.c p3 4 true,.t p4],(S [o95,o3] [(p3,1),(p4,0)] (S [.e none (.al 178 aGr)] [(p5,0)] (S [o3] [(p6,0)] (.seq (S [o3] [(eO,0)] (.block 0 (.loop (S [.v none (.ar .lss .o t12 (.c (.i .i64 3))) 0] [(lP,0)] (.seq (.cond GZ .skip (.exit 0)) (.seq (.block 1 (S [rN,o0] [(p7,0)] (S [o1,nK,.c none p72 [x1,x0],o0,o7,o8,HD,o9,o9,o9] [(p8,2),(p9,1),(eZ,0)] (.seq (S [nI,uF] [(EK,0)] (.cond t23 (S [.v none (.fW z96 []) 0,nI,.e none (.st 4 t3 x1),o4] [(p4,0)] .ret) .skip)) (.ops [kJ,kK,BN,.v none (.yJ 3 1 t5 x2) 0,B3,o9] [(p6,0)]))))) (.ops [M3,o0] [(eO,0)]))))))) (.seq (S [.v none (.yJ 3 1 t5 (.c (.i .i64 0))) 0,o2,.v none (.yJ 3 1 t5 (.c (.i .i64 1))) 0,o2,.v none (.yJ 3 1 t5 (.c (.i .i64 2))) 0,o2,.v none (.mx3 x4 x2 x0) 0,.v none (.ar .gtr .o x0 (.c (.i .u64 4294967296))) 0] [(p38,0)] (.cond t38 (S [.v none (.fW z96 []) 0,M9,Z2] [(p4,0)] .ret) .skip)) (.seq (.fZ [0,1,2,3,4,5,6,7,8,9,10,11,12,13] [.v none (.yJ 3 1 t5 (.c (.i .i64 0))) 0,yG,.v none (.yJ 3 1 t5 (.c (.i .i64 1))) 0,yG,A9,.v none (.yJ 3 1 t5 (.c (.i .i64 2))) 0,yG,A9,o1,nK,.v none (.sls x1 (some x0) none) 0,.v none (.fW z96 [(0,1,x9),(1,1,x6),(2,1,x3),(3,1,x0)]) 0,o95,M4] [(hO,1)]) (.seq (S [.v none (.eH 4 HA) 0,.c none p73 [x0],yH] [(p54,0)] (.cond t54 (S [.v none (.fW z96 []) 0,M9,Z2] [(p4,0)] .ret) .skip)) (S [.v none (.eH 4 HA) 0,M9,o3] [(p4,0)] .ret)))))))),9007336697896957,1⟩
def k27:CF:=⟨[.c p3 13 true,.t p4],(S [o68,o3] [(p3,1),(p4,0)] (.seq (S [o1,Z1,.v none (.ar .gtr .o x0 (.c (.i .i64 4096))) 0] [(lP,0)] (.cond GZ (S [o96,o97,M2] [(p4,0)] .ret) .skip)) (S [o1,.c none p72 [x0,(.c (.i .i64 0))],o0,o7,o8,HD,o9,o9,o9] [(p5,2),(p6,1),(p7,0)] (.seq (.block 0 (S [kJ,uF,o0] [(A6,0)] (.cond t21 (S [o96,kJ,.e none (.st 13 t3 x1),o4] [(p4,0)] .ret) (S [nJ,.v none (.ar .lss .o x0 (.c (.i .u64 1))) 0,o0,.v (some (.l 0,false)) (.mv t5) 0,.v (some (.l 1,false)) (.ar .geq .o x0 (.c (.i .u64 5))) 0,VS,o0] [(p26,0)] (.cond t26 (S [o96,o97,Z2] [(p4,0)] .ret) .skip))))) (S [nJ,A9,.v none (.fW SG [(0,1,x0)]) 0,o68,aDi] [(p8,1)] (.seq (S [.c none p74 [t8],o16,o3] [(p37,2),(p38,1),(p39,0)] (.block 1 (.loop (S [.v none (.ar .lss .o t39 t38) 0] [(p40,0)] (.seq (.cond t40 .skip (.exit 1)) (.seq (.block 2 (S [.v none (.ia 5 t37 t39) 0,M1,M0,L9] [(eZ,1)] (S [.v none (.eH 5 pL) 0,o1,nK,.c none p75 [x2,x1,x0],o0,o7,o8,o4,o4] [(p6,1),(p7,0)] (S [kJ,uF] [(p51,0)] (.cond t51 (S [o96,kJ,.e none (.st 13 t3 x1),o4] [(p4,0)] .ret) .skip))))) (.ops [.v none (.ar .add .o t39 (.c (.i .i64 1))) 0,o0] [(p39,0)]))))))) (.seq (S [nK,o1,Z1,.v none (.ar .lss .o x2 x0) 0,o0,.v (some (.l 0,false)) (.eH 13 t8) 0,.c (some (.l 1,false)) p68 [x0],.v (some (.l 2,false)) (.not x0) 0,Z3] [(p63,0)] (.cond t63 (S [o96,o97,Z2] [(p4,0)] .ret) .skip)) (S [.v none (.eH 13 t8) 0,o97,o3] [(p4,0)] .ret)))))))),4612812949160989437,1⟩
def k29:CF:=⟨[.t p3],(S [L8,pF] [(p2,1),(p3,0)] (.seq (S [.v none (.eH 13 t2) 0,.c none p68 [x0],yH] [(p9,0)] (.cond t9 (S [pF] [(p3,0)] .ret) .skip)) (S [Z0,o2,VR,.c none p67 [x0],o0] [(p4,0)] (.seq (S [.c none p74 [t2],o16,o3] [(nR,2),(oK,1),(p16,0)] (.block 0 (.loop (S [aDf] [(wA,0)] (.seq (.cond t17 .skip (.exit 0)) (.seq (.block 1 (S [.v none (.ia 5 xZ t16) 0,M1,M0,L9] [(p6,1)] (.seq (S [o80,o2,o70] [(PN,0)] (.cond t22 (S [kM,o80,o2,o5,o2,.c none p76 [x0],.v none (.ar .add .s x5 x0) 0,o0] [(p4,0)] (.exit 1)) .skip)) (.ops [kM,.v none (.eH 5 t6) 0,.c none p77 [x0],.c none p67 [x0],aDe,o0] [(p4,0)])))) (.ops [aDd,o0] [(p16,0)]))))))) (S [kM,o0] [(p3,0)] .ret))))),2220335,1⟩
def k31:CF:=⟨[.t p3],(S [.e none (.box 96 t1),pF] [(p2,1),(p3,0)] (.seq (S [.v none (.eH 4 t2) 0,.c none p73 [x0],yH] [(p6,0)] (.cond t6 (S [pF] [(p3,0)] .ret) .skip)) (.seq (.fZ [0,1,3,4,5,8,9,10,13,14,2,6,7,11,12,15,16] [Z0,o2,.v none (.fa 1 t2) 0,yG,VR,L7,o81,VR,L6,.v none (.ld x0) 3,.c none p67 [x8],.c none p67 [x6],o82,.c none p67 [x5],o82,.v none (.ar .add .s x0 x5) 0,o0] [(p3,0)]) .ret))),39,1⟩
def k34:CF:=⟨[.t p3],(S [.e none (.box 120 t1),pG] [(p2,1),(p3,0)] (S [pG] [(p4,0)] (.seq (S [.v none (.eH 9 t2) 0,.c none p83 [x0],o3] [(p8,1),(p9,0)] (.block 0 (.loop (S [.v none (.ar .lss .o t9 (.c (.i .i64 3))) 0] [(eZ,0)] (.seq (.cond pL .skip (.exit 0)) (.seq (.block 1 (S [.v none (.ixa 3 3 true t8 t9) 0,.e none (.al 112 C3),.e none (.st 3 x0 x1)] [(p6,1)] (S [.v none (.eH 3 t6) 0,.c none p84 [x0]] [(lP,0)] (.cond GZ (.ops [kM,.v none (.eH 3 t6) 0,.e none (.nF 112 3 1 [(.i .u64 0),(.i .u64 0),(.i .u64 0)] [(0,3,x0)]),.e none (.ap 112 3 24 x2 x0),o0] [(p4,0)]) .skip)))) (.ops [.v none (.ar .add .o t9 (.c (.i .i64 1))) 0,o0] [(p9,0)]))))))) (S [kM,o0] [(p3,0)] .ret)))),5039,1⟩
def k36:CF:=⟨[.t p3,.t p4],(S [pF,o3] [(p3,1),(p4,0)] (S [o1,.c none H8 [x0],o0,o7,o8,.e none (.al 220 DC),.e none (.st 3 x0 x2),o9] [(p5,2),(p6,0)] (.seq (S [nK,uF] [(p16,0)] (.cond t16 (S [nK,pF,o4] [(p3,1),(p4,0)] .ret) .skip)) (S [.v none (.fa 0 t5) 0,o2,.v none (.fa 1 t5) 0,o2,.c none p38 [x2,x0],o0,o7,o8,o4,o4] [(p6,0),(p7,1)] (.seq (S [nK,uF] [(p27,0)] (.cond t27 (S [nK,pF,o4] [(p3,1),(p4,0)] .ret) .skip)) (S [kJ,.v none (.fa 2 t5) 0,o2,.c none p86 [x2,x0],o0] [(p8,0)] (S [kJ,.c none H9 [x0],.e none (.al 56 z56),M4] [(p9,1)] (.seq (.fZ [0,1,2,5,6,9,10,13,14,3,4,7,8,11,12,15,16,17,18,19] [kK,o69,o2,.v none (.fa 1 t9) 0,yG,.v none (.fa 2 t9) 0,o81,.v none (.fa 3 t9) 0,.v none (.ld x0) 3,.c none p87 [x6],.v none (.ar .add .s x9 x0) 0,.c none p87 [x6],o82,.c none p87 [x6],o82,.c none p87 [x6],o82,.v none (.ar .add .s x0 (.c (.s 1 10))) 0,o0,o3] [(p3,1),(p4,0)]) .ret)))))))),67142141,1⟩
def k37:CF:=⟨[.t p5,.t p6],(S [IM,o3] [(p5,1),(p6,0)] (S [o1,o16,o0] [(p7,0)] (S [.c none p50 [(.c (.i .i64 65536))],o0,o7,o8,o4,o4] [(p8,1),(p9,0)] (.seq (S [kJ,.v none (.ar .lss .o x0 (.c (.i .i64 2))) 0,o0,L5,.v (some (.l 1,false)) (.ar .gtr .o x0 (.c (.i .i64 8))) 0,VS,o0,.v (some (.l 0,false)) (.mv t9) 0,.v (some (.l 1,false)) (.ar .neq .o x0 (.c (.i .i64 0))) 0,VS] [(p41,0)] (.cond t41 (S [IM,PX] [(p5,1),(p6,0)] .ret) .skip)) (S [kK,.e none (.B5 .i64),.v none (.fW aGs [(0,1,x1),(6,1,x0)]) 0,.e none (.box 142 x0),o0] [(eZ,0)] (S [pG,pG] [(hO,1),(eO,0)] (.seq (S [kJ,o3] [(p46,1),(p47,0)] (.block 0 (.loop (S [.v none (.ar .lss .o t47 t46) 0] [(p48,0)] (.seq (.cond t48 .skip (.exit 0)) (.seq (.block 1 (.ops [uU,nI,o98,nI,o98,.v none (.fW z60 [(0,1,x2),(1,1,x0)]) 0,.e none (.nF 60 2 1 [(.i .i64 0),(.i .i64 0)] [(0,2,x0)]),.e none (.ap 60 2 16 x6 x0),o0] [(hO,0)])) (.ops [.v none (.ar .add .o t47 (.c (.i .i64 1))) 0,o0] [(p47,0)]))))))) (S [.e none (.B5 .u16),o0] [(lP,0)] (.seq (S [kJ,o3] [(p59,1),(p60,0)] (.block 2 (.loop (S [.v none (.ar .lss .o t60 t59) 0] [(p61,0)] (.seq (.cond t61 .skip (.exit 2)) (.seq (.block 3 (S [.v none (.mv t60) 0,o0] [(nR,0)] (S [K0,SK,o0] [(oK,0)] (.block 4 (.loop (.seq (S [SI,kJ,aDc] [(p67,0)] (.cond t67 .skip (.exit 4))) (.seq (.block 5 (.ops [VT,K0,SI,.v none (.fW z62 [(0,1,x1),(1,1,x0)]) 0,nI,o98,nI,o98,o99,.e none (.mu .u16 x8 x5 x0)] [])) (.ops [SI,SK,o0] [(oK,0)])))))))) (.ops [.v none (.ar .add .o t60 (.c (.i .i64 1))) 0,o0] [(p60,0)]))))))) (.seq (S [uU,o16,o3] [(p80,2),(p81,1),(p82,0)] (.block 6 (.loop (S [.v none (.ar .lss .o t82 t81) 0] [(p83,0)] (.seq (.cond t83 .skip (.exit 6)) (.seq (.block 7 (S [.v none (.ia 2 t80 t82) 0,o76,.e none (.al 60 z60),.e none (.st 2 x0 x1)] [(wA,1)] (S [kK,.v none (.eH 2 t17) 0,.c none p51 [x1,x0],o0,o7,o8,.e none (.al 60 z60),.e none (.st 2 x0 x2),o9] [(II,2)] (S [rN,.v none (.eH 2 SH) 0,.e none (.nF 60 2 1 [(.i .i64 0),(.i .i64 0)] [(0,2,x0)]),.e none (.ap 60 2 16 x2 x0),o0] [(eO,0)] (.fZ [0,1,2,3,4,5,6,7,8,9,10,11,12,13,14,15,16,17] [nI,o5,o67,o2,.v none (.fa 0 SH) 0,o2,nI,o5,o67,o2,.v none (.fa 1 SH) 0,o81,.e none (.men .i64 (.b false) x8 x6),WE,.e none (.mst x10 x0 (.c (.b true))),.e none (.men .i64 (.b false) x5 x3),WE,.e none (.mst x7 x0 (.c (.b true)))] []))))) (.ops [.v none (.ar .add .o t82 (.c (.i .i64 1))) 0,o0] [(p82,0)]))))))) (.seq (S [o1,o16,o3] [(VI,2),(yE,1),(PP,0)] (.block 8 (.loop (S [.v none (.ar .lss .o D8 aHi) 0] [(IJ,0)] (.seq (.cond t116 .skip (.exit 8)) (.seq (.block 9 (S [.v none (.mv D8) 0,.v none (.ia 1 aN3 D8) 0,o2,o9,o4] [(H9,1),(A6,0)] (S [uU,WD,.v none (.ia 2 x1 x0) 0,o76,.v none (.mv t21) 0,o6,.v none (.fW z72 [(0,2,x2),(3,1,x1),(4,1,x0)]) 0,.e none (.al 72 z72),L9] [(PN,1)] (.seq (S [kJ,o3] [(I4,1),(I3,0)] (.block 10 (.loop (S [.v none (.ar .lss .o aBd t127) 0] [(I2,0)] (.seq (.cond aN2 .skip (.exit 10)) (.seq (.block 11 (S [.v none (.mv aBd) 0,o0] [(EK,0)] (S [L1,WD,.v none (.ar .neq .o x1 x0) 0] [(aCk,0)] (.cond aN1 (.fZ [0,1,2,3,4,5,6,7,8,9,10,11,12,13,14,15,16,17,18,19] [.v none (.fa 2 t22) 0,yG,rN,L1,.v none (.ia 2 x1 x0) 0,o76,VT,WD,L1,.v none (.mn2 x1 x0) 0,WD,L1,.v none (.mx x1 x0) 0,.v none (.fW z62 [(0,1,x3),(1,1,x0)]) 0,.v none (.lk .u16 (.a [(.i .i64 0),(.i .i64 0)]) x7 x0 false) 0,.v none (.fW z64 [(0,2,x9),(2,2,x0)]) 0,.e none (.nF 64 4 1 [(.i .i64 0),(.i .i64 0),(.i .i64 0),(.i .i64 0)] [(0,4,x0)]),.e none (.ap 64 4 32 x15 x0),.v none (.fa 2 t22) 0,yF] []) .skip)))) (.ops [.v none (.ar .add .o aBd (.c (.i .i64 1))) 0,o0] [(I3,0)]))))))) (S [kK,.v none (.eH 5 t22) 0,.c none PN [x1,x0],o0,o7,o8,o4,o4] [(HB,1),(p25,0)] (.seq (S [.v none (.mv t25) 0,uF] [(aH6,0)] (.cond aN0 (S [IM,PX] [(p5,1),(p6,0)] .ret) .skip)) (.ops [nI,nI,o5,lM,o2,.v none (.mv t24) 0,.e none (.nF 23 1 1 [.pn] [(0,1,x0)]),.e none (.ap 23 1 8 x2 x0),.v none (.nc x7) 0,lM,B3] []))))))) (.ops [.v none (.ar .add .o D8 (.c (.i .i64 1))) 0,o0] [(PP,0)]))))))) (S [nI,o0,o3] [(p5,1),(p6,0)] .ret)))))))))))),1461501643370992815503229648625062205051616591859,2⟩
def k39:CF:=⟨[.c p5 6 true,.t p6,.t p7],(S [.e none (.box 47 t2),.e none (.al 34 z34),o3,o3] [(p4,3),(p5,2),(p6,1),(p7,0)] (.seq (S [o1,L0,.c none p89 [x1,x0],yH] [(eO,0)] (.cond t12 (S [.v none (.fW z34 []) 0,.e none (.st 6 t5 x0),o3,PX] [(p6,1),(p7,0)] .ret) .skip)) (S [o1,.v none (.IR p90 [x0] []) 0,o1,.v none (.IR p91 [x0] []) 0,o1,.v none (.IR p92 [x0] []) 0,o1,.v none (.IR p93 [x0] []) 0,o1,.v none (.IR p94 [x0] []) 0,o1,.v none (.IR p95 [x0] []) 0,o1,.v none (.IR p96 [x0] []) 0,o1,.v none (.IR p97 [x0] []) 0,o1,.v none (.IR p98 [x0] []) 0,o1,.v none (.IR p99 [x0] []) 0,.v none (.fW z228 [(0,1,x18),(1,1,x16),(2,1,x14),(3,1,x12),(4,1,x10),(5,1,x8),(6,1,x6),(7,1,x4),(8,1,x2),(9,1,x0)]) 0,.e none (.al 228 z228),.e none (.st 10 x0 x1)] [(p8,1)] (.seq (.fZ [0,1,2,3,4,5,6,7,8,9,10,11] [B1,o2,.v none (.yJ 10 1 t8 x0) 0,o2,L0,.cv none x1 [x0],o7,o8,HD,.e none (.st 6 t5 x2),o9,o9] [(p6,1),(p7,0)]) .ret)))),2299,2⟩
def k40:CF:=⟨[.t p7],(S [kL] [(p7,0)] (S [o1,o6,.c none IK [x1,x0],o0,o32,.v (some (.l 1,true)) (.mv t3) 0,.c (some (.l 2,true)) IK [x1,x0],VQ,o0,N1,.v (some (.l 1,true)) (.mv t3) 0,.v (some (.l 2,true)) (.ar .neq .o x1 x0) 0,VQ,o0] [(p7,0)] .ret)),71,3⟩
def k41:CF:=⟨[.t p5,.t p6,.t p7],(S [o3,o3,o3] [(p5,2),(p6,1),(p7,0)] (.seq (S [o1,o6,.c none EK [x1,x0],yH] [(p16,0)] (.cond t16 (S [o3,o3,o3] [(p5,2),(p6,1),(p7,0)] .ret) .skip)) (S [o3] [(p8,0)] (.seq (S [o1,o5,o78,o2,o111] [(A6,0)] (.block 0 (.loop (S [.e none (.Z5 t21),o7] [(EK,0)] (.seq (.cond t23 .skip (.exit 0)) (.block 1 (S [.e none (.ent t21),WE,.e none (.al 89 z89),.e none (.st 9 x0 x1)] [(eZ,1)] (S [.v none (.fa 0 pL) 0,o2,o6,.v none (.ar .eql .o x1 x0) 0] [(p29,0)] (.cond t29 (.ops [kK,SK,o0] [(p8,0)]) .skip))))))))) (S [o1,o5,N4,o2,o6,B2,o2,o5,uG,o2,.c none aIh [x0],o0,o7,o8,o4,o4] [(hO,1),(eO,0)] (S [kK,uU,rN,o9,o9,o9] [(p5,2),(p6,1),(p7,0)] .ret)))))),273714931,2⟩
def k42:CF:=⟨[.t p5],(S [o3] [(p5,0)] (.seq (S [o6,o1,.v none (.ar .gtr .o x1 x0) 0] [(p8,0)] (.cond t8 (S [o6,A8,o0] [(p5,0)] .ret) .skip)) (S [o6,o0] [(p5,0)] .ret))),147,2⟩
def k43:CF:=⟨[.t p3],(S [pG] [(p3,0)] (.seq (S [o1,.v none (.ar .eql .l x0 (.c .sn)) 0] [(p5,0)] (.cond t5 (S [pG] [(p3,0)] .ret) .skip)) (S [.e none (.nF 147 6 0 [] []),o1,.e none (.ap 147 6 56 x1 x0),o0] [(p3,0)] .ret))),21,1⟩
def k44:CF:=⟨[.t p5],(S [pG] [(p5,0)] (.seq (S [o1,o6,.c none IK [x1,x0],yH] [(p9,0)] (.cond t9 (S [pG] [(p5,0)] .ret) .skip)) (S [o1,o5,lM,o2,o6,B2,o2,.c none aIg [x0],o0] [(p5,0)] .ret))),275,2⟩
def k45:CF:=⟨[.t p5],(S [kL] [(p5,0)] (S [pG] [(p6,0)] (.seq (S [o6,o3] [(nR,1),(oK,0)] (.block 0 (.loop (S [.v none (.ar .lss .o OO xZ) 0] [(p16,0)] (.seq (.cond t16 .skip (.exit 0)) (.seq (.block 1 (S [SI,o0] [(p7,0)] (.ops [nK,o1,kJ,.c none p45 [x1,x0],.e none (.ap 3 1 8 x3 x0),o0] [(p6,0)]))) (.ops [.v none (.ar .add .o OO (.c (.i .i64 1))) 0,o0] [(oK,0)]))))))) (.seq (S [o1,.c none I0 [x0],o16,o3] [(p25,2),(p26,1),(p27,0)] (.block 2 (.loop (S [.v none (.ar .lss .o t27 t26) 0] [(p28,0)] (.seq (.cond t28 .skip (.exit 2)) (.seq (.block 3 (S [.v none (.ia 6 t25 t27) 0,WC,WB,o83] [(p9,1)] (S [o69,o2,.v none (.ar .eql .o x0 (.c (.i .i64 1))) 0] [(p33,0)] (.cond t33 (.ops [nK,o1,.v none (.fa 5 t9) 0,o2,.c none aIf [x2,x0],aDl,.e none (.ap 3 1 8 x5 x0),o0] [(p6,0)]) .skip)))) (.ops [.v none (.ar .add .o t27 (.c (.i .i64 1))) 0,o0] [(p27,0)]))))))) (.seq (S [nK,o16,o3] [(p42,2),(p43,1),(p44,0)] (.block 4 (.loop (S [.v none (.ar .lss .o t44 t43) 0] [(p45,0)] (.seq (.cond t45 .skip (.exit 4)) (.seq (.block 5 (S [.v none (.ia 1 t42 t44) 0,o2,o0] [(hO,0)] (S [o1,uU,.c none aIe [x1,x0],o0,o7,o8,o4,o4] [(eO,1)] (S [rN] [(p54,0)] (.cond t54 (S [kL] [(p5,0)] .ret) .skip))))) (.ops [.v none (.ar .add .o t44 (.c (.i .i64 1))) 0,o0] [(p44,0)]))))))) (S [VP] [(p5,0)] .ret)))))),9040189150260595,2⟩
def k46:CF:=⟨[.t p3],(S [kL] [(p3,0)] (S [.e none (.B5 .i64),o0] [(p4,0)] (.seq (S [o1,o16,o3] [(eO,2),(lP,1),(nR,0)] (.block 0 (.loop (S [aDb] [(oK,0)] (.seq (.cond OO .skip (.exit 0)) (.seq (.block 1 (S [.v none (.ia 6 t12 xZ) 0,WC,WB,o83] [(p6,1)] (S [kM,o84,o2,.v none (.lk .i64 .sn x2 x0 false) 0,o0] [(p7,0)] (.seq (S [o85,o2,SM] [(HB,0)] (.cond t24 (.seq (.seq (.fZ [0,1,2,3,4,5,6,7,8,9,10,11,12,13,14,15,16,17,18,19,20,21,22,23,24,25] [kJ,o16,.v none (.ar .gtr .o x0 (.c (.i .i64 1))) 0,o0,L5,.v (some (.l 1,false)) (.ln .l x0) 0,aDj,.v (some (.l 3,false)) (.mv x0) 0,.v (some (.l 0,true)) (.mv t7) 0,.v (some (.l 1,true)) (.ia 6 x0 (.c (.i .i64 0))) 0,o71,PW,.v (some (.l 4,true)) (.fa 2 t6) 0,K9,.v (some (.l 6,true)) (.ar .neq .o x2 x0) 0,.v (some (.l 7,true)) (.mv x0) 0,L5,.v (some (.l 1,false)) (.ia 6 x0 (.c (.i .i64 0))) 0,.v (some (.l 2,false)) (.fa 2 x0) 0,WA,.v (some (.l 4,false)) (.fa 1 t6) 0,K8,.v (some (.l 6,false)) (.ar .neq .o x2 x0) 0,.v (some (.l 15,true)) (.pick x7 (.c (.b true)) x0) 0,.v (some (.l 20,false)) (.pick x16 x0 (.c (.b false))) 0,.v none (.pick x21 (.c (.b true)) x0) 0] [(p50,0)]) (.cond t50 (S [kL] [(p3,0)] .ret) .skip)) (.fZ [0,1,2,3,4,5,6,7] [kM,o84,o81,kJ,.v none (.eH 6 t6) 0,.e none (.nF 147 6 1 [(.i .i64 0),(.i .i64 0),(.i .i64 0),(.i .i64 0),(.s 0 0),(.i .i64 0)] [(0,6,x0)]),.e none (.ap 147 6 56 x2 x0),.e none (.mu .i64 x6 x4 x0)] [])) .skip)) (S [o85,o2,.v none (.ar .eql .o x0 (.c (.i .i64 2))) 0] [(p60,0)] (.cond t60 (S [kL] [(p8,0)] (.seq (S [kJ,o16,o3] [(p61,2),(p62,1),(p63,0)] (.block 2 (.loop (S [.v none (.ar .lss .o t63 t62) 0] [(p64,0)] (.seq (.cond t64 .skip (.exit 2)) (.seq (.block 3 (S [.v none (.ia 6 t61 t63) 0,WC,WB,o83] [(eZ,1)] (.ops [kK,o0,.v (some (.l 0,false)) (.fa 1 pL) 0,B0,.v (some (.l 2,false)) (.fa 2 t6) 0,WA,.v (some (.l 4,false)) (.ar .eql .o x2 x0) 0,.v (some (.l 5,false)) (.mv x0) 0,.v (some (.l 0,true)) (.fa 2 pL) 0,VO,.v (some (.l 2,true)) (.fa 1 t6) 0,PW,.v (some (.l 4,true)) (.ar .eql .o x2 x0) 0,.v (some (.l 11,false)) (.pick x5 x0 (.c (.b false))) 0,.v none (.pick x12 (.c (.b true)) x0) 0,o0] [(p8,0)]))) (.ops [.v none (.ar .add .o t63 (.c (.i .i64 1))) 0,o0] [(p63,0)]))))))) (S [kK,yH] [(p84,0)] (.cond t84 (S [kL] [(p3,0)] .ret) .skip)))) .skip)))))) (.ops [aDa,o0] [(nR,0)]))))))) (S [VP] [(p3,0)] .ret)))),9671424427763304765618925,1⟩
def k47:CF:=⟨[.t p3],(S [kL] [(p3,0)] (S [.e none (.B5 .i64),o0] [(p4,0)] (.seq (S [o1,o16,o3] [(p9,2),(eZ,1),(hO,0)] (.block 0 (.loop (S [.v none (.ar .lss .o HA pL) 0] [(eO,0)] (.seq (.cond t12 .skip (.exit 0)) (.seq (.block 1 (S [.v none (.ia 6 t9 HA) 0,WC,WB,o83] [(p6,1)] (S [o85,o2] [(p16,0)] (.block 2 (S [.v none (.ar .eql .o t16 (.c (.i .i64 1))) 0,o0] [(wA,0)] (.cond t17 (.fZ [0,1,2,3,4,5,6,7,8,9,10,11,12,13,14] [kM,VZ,o2,.v none (.fa 1 t6) 0,o2,o84,o2,o80,o2,.v none (.fW SQ [(1,1,x6),(2,1,x4),(3,1,x2),(4,1,x0)]) 0,o86,SK,o86,WE,.e none (.mst x13 x0 x2)] []) (S [.v none (.ar .eql .o t16 (.c (.i .i64 2))) 0,o0] [(p33,0)] (.cond t33 (S [.v none (.fa 1 t6) 0,o2,VZ,o2,o84,o2,o80,o2,.v none (.fW SQ [(1,1,x6),(2,1,x4),(3,1,x2),(4,1,x0)]) 0,WB,o83] [(p7,1)] (.seq (S [kM,.v none (.eH 6 t7) 0,o86,SM] [(p47,0)] (.cond t47 (S [kL] [(p3,0)] .ret) .skip)) (.fZ [0,1,2,3,4,5,6] [kM,.v none (.eH 6 t7) 0,o86,A8,o86,WE,.e none (.mst x5 x0 x2)] []))) .skip)))))))) (.ops [.v none (.ar .add .o HA (.c (.i .i64 1))) 0,o0] [(hO,0)]))))))) (S [VP] [(p3,0)] .ret)))),70373039247213,1⟩
def k48:CF:=⟨[.t p5],(S [kL] [(p5,0)] (.seq (S [o6,o3] [(hO,1),(eO,0)] (.block 0 (.loop (S [.v none (.ar .lss .o t12 HA) 0] [(lP,0)] (.seq (.cond GZ .skip (.exit 0)) (.seq (.block 1 (S [rN,o0] [(p6,0)] (S [o6,o3] [(oK,1),(p16,0)] (.block 2 (.loop (S [aDf] [(wA,0)] (.seq (.cond t17 .skip (.exit 2)) (.seq (.block 3 (S [zO,o0] [(p7,0)] (S [o1,nK,kJ,.c none wA [x2,x1,x0],o0,o7,o8,HD,o9,o9,o9] [(p8,2),(p9,1),(eZ,0)] (S [kK,.v none (.ar .gtr .o x0 (.c (.i .i64 1))) 0,o0,.v (some (.l 0,false)) (.mv t9) 0,.v (some (.l 1,false)) (.ar .gtr .o x0 (.c (.i .i64 4))) 0,VS,o0,.v (some (.l 0,false)) (.mv pL) 0,.v (some (.l 1,false)) (.ar .gtr .o x0 (.c (.i .i64 4096))) 0,VS,o0,J9,.v (some (.l 1,false)) (.mv t6) 0,.v (some (.l 2,false)) (.mv t7) 0,.c (some (.l 3,false)) II [x2,x1,x0],.v (some (.l 4,false)) (.ln .l x0) 0,.v (some (.l 5,false)) (.ar .gtr .o x0 (.c (.i .i64 3))) 0,.v none (.pick x6 (.c (.b true)) x0) 0] [(p44,0)] (.cond t44 (S [kL] [(p5,0)] .ret) .skip))))) (.ops [aDd,o0] [(p16,0)]))))))))) (.ops [M3,o0] [(eO,0)]))))))) (S [VP] [(p5,0)] .ret))),8796093145075,2⟩
def k49:CF:=⟨[.t p3,.t p4],(S [IM,o3] [(p3,1),(p4,0)] (.seq (S [o1,o72,o0,J9,.v (some (.l 1,false)) (.ar .gtr .o x0 (.c (.i .i64 1048576))) 0,VS] [(eZ,0)] (.cond pL (S [IM,PX] [(p3,1),(p4,0)] .ret) .skip)) (S [.v none (.fW CV []) 0,.e none (.nF 94 6 1 [(.i .i64 0),(.s 0 0),(.i .u64 0),(.i .i64 0),(.i .i64 0),(.i .i64 0)] [(0,6,x0)]),.e none (.nF 3 1 1 [(.i .i64 0)] [(0,1,(.c (.i .i64 0)))]),.e none (.B5 .i64),o1,.v none (.fW z109 [(0,1,x3),(1,1,x2),(2,1,x1),(3,1,x0)]) 0,.e none (.box 109 x0),o0,o3] [(p3,1),(p4,0)] .ret))),525,1⟩
def k50:CF:=⟨[.c p5 2 true,.c p6 1 false],(S [.e none (.box 60 t2),.e none (.al 60 z60),.e none (.al 27 z27)] [(p4,2),(p5,1),(p6,0)] (S [.df t6] [] (S [o1,.v none (.fW z171 [(0,1,x0)]) 0,.e none (.box 171 x0),o0] [(p7,0)] (.seq (.fZ [0,1,2,4,5,6,3,7,8,9,10] [kJ,B1,o2,kJ,Y9,yG,.c none p59 [x5,x3],.c none p61 [x3,x1],.v none (.fW z60 [(0,1,x1),(1,1,x0)]) 0,.e none (.st 2 t5 x0),.e none (.st 1 t6 (.c (.i .i64 0)))] []) .ret)))),123,2⟩
def k51:CF:=⟨[.t p3,.t p4],(S [IM,o3] [(p3,1),(p4,0)] (.seq (S [o1,o72,o0,J9,.v (some (.l 1,false)) (.ar .gtr .o x0 (.c (.i .i64 8))) 0,VS] [(eZ,0)] (.cond pL (S [IM,PX] [(p3,1),(p4,0)] .ret) .skip)) (S [o1,.v none (.fW aGp [(8,1,x0)]) 0,.e none (.box 238 x0),o0,o3] [(p3,1),(p4,0)] .ret))),525,1⟩
def k52:CF:=⟨[.t p3],(S [kL] [(p3,0)] (S [.v none (.mv (.c (.i .i64 256))) 0] [(p4,0)] (.seq (S [o1,Z1,o3] [(p8,1),(p9,0)] (.block 0 (.loop (S [.v none (.ar .lss .o t9 t8) 0] [(eZ,0)] (.seq (.cond pL .skip (.exit 0)) (.seq (.block 1 (S [BN,o0] [(p5,0)] (S [o1,nJ,.v none (.ixs x1 x0) 0,A9,o0] [(p6,0)] (.seq (S [nK,K7,o0,.v (some (.l 0,false)) (.mv t6) 0,.v (some (.l 1,false)) (.mv t4) 0,.v (some (.l 2,false)) (.ar .geq .o x1 x0) 0,Z3] [(PN,0)] (.cond t22 (S [kL] [(p3,0)] .ret) .skip)) (.ops [nK,o0] [(p4,0)]))))) (.ops [.v none (.ar .add .o t9 (.c (.i .i64 1))) 0,o0] [(p9,0)]))))))) (S [o1,Z1,.v none (.ar .geq .o x0 (.c (.i .i64 1))) 0,o0,o32,.v (some (.l 1,true)) (.ln .s x0) 0,.v (some (.l 2,true)) (.ar .leq .o x0 (.c (.i .i64 8))) 0,VQ,o0] [(p3,0)] .ret)))),2098109,1⟩
def k53:CF:=⟨[.t p3],(S [pG] [(p3,0)] (.seq (S [o1,.v none (.ar .eql .l x0 (.c .sn)) 0] [(p5,0)] (.cond t5 (S [pG] [(p3,0)] .ret) .skip)) (S [.e none (.nF 64 4 0 [] []),o1,.e none (.ap 64 4 32 x1 x0),o0] [(p3,0)] .ret))),21,1⟩
def k54:CF:=⟨[.t p5,.t p6],(S [IM,o3] [(p5,1),(p6,0)] (.seq (S [o1,K7,o0,J9,.v (some (.l 1,false)) (.ar .gtr .o x0 (.c (.i .i64 16))) 0,VS,o0,aC9,.v (some (.l 1,false)) (.ar .lss .o x0 (.c (.i .i64 1))) 0,VS,o0,aC9,.v (some (.l 1,false)) (.ar .gtr .o x0 (.c (.i .i64 65536))) 0,VS] [(H9,0)] (.cond t20 (S [IM,PX] [(p5,1),(p6,0)] .ret) .skip)) (S [.e none (.B5 .u64),o1,o6,.v none (.fW aGo [(0,1,x2),(1,1,x1),(2,1,x0),(3,1,(.c (.i .i64 0)))]) 0,.e none (.box 241 x0),o0,o3] [(p5,1),(p6,0)] .ret))),524339,2⟩
def k56:CF:=⟨[],(S [o1,yH] [(p6,0)] (.cond t6 (.ops [o6,A7] []) .skip)),35,2⟩
def k57:CF:=⟨[.t p9],(S [.e none (.box 60 t4),IM] [(p8,1),(p9,0)] (S [o1,.c none aPv [x0,(.c (.s 5 495791204200))],o0,o7,o8,o73,o74,o9] [(eZ,2),(hO,0)] (S [uU,A7] [] (S [o1,.v none (.eH 4 pL) 0,.v none (.fW z171 [(0,1,x1),(1,4,x0)]) 0,.e none (.box 171 x0),o0] [(eO,0)] (S [rN,rN,o6,.c none p66 [x1,x0],.c none p60 [x3,x0]] [] (S [rN,rN,iY,.v none (.ar .add .o (.c (.i .i64 48)) x0) 0,.v none (.cvi .u8 x0) 0,.e none (.nF 5 1 1 [(.i .u8 0)] [(0,1,x0)]),VY,.c none p66 [x5,x0],.c none p60 [x7,x0]] [] (.seq (S [N2,o2,.v none (.fa 1 t8) 0,o2,o99,o3] [(p45,1),(p46,0)] (.block 0 (.loop (S [.v none (.ar .lss .o t46 (.c (.i .i64 2))) 0] [(p47,0)] (.seq (.cond t47 .skip (.exit 0)) (.seq (.block 1 (S [.v none (.ixa 2 1 false t45 t46) 0,o0] [(nR,0)] (S [rN,.v none (.IR p60 [x0] []) 0,o0] [(oK,0)] (.ops [SI,K0,.cv none x1 [x0]] [])))) (.ops [.v none (.ar .add .o t46 (.c (.i .i64 1))) 0,o0] [(p46,0)]))))))) (S [rN,o0] [(p9,0)] .ret)))))))),123145302339471,4⟩
def k58:CF:=⟨[.t p5],(S [o3] [(p5,0)] (S [o1,o5,uG,o2,o6,.c none aId [x1,x0],o0,o7,o8,o4,o4] [(p6,1),(p7,0)] (S [kJ,A7] [] (S [nK,o0] [(p5,0)] .ret)))),115,2⟩
def k59:CF:=⟨[],(.seq (.fZ [0,1,2,3,4,5,6,7,8,9,10,11,12,13,14,15] [o1,o5,lM,o66,o1,o5,uG,o2,o6,.c none aIc [x5,x1,x0],o0,o7,o8,.fl 83 z83,o74,o9] [(p5,2),(p6,0)]) (S [nK,A7] [] (.ops [o1,.v none (.eH 4 t5) 0,Z4,lM,o74] []))),51,2⟩
def k60:CF:=⟨[.t p5],(S [o3] [(p5,0)] (S [o1,o5,uG,o2,o6,.c none aPu [x1,x0],o0,o7,o8,o4,o4] [(p6,1),(p7,0)] (S [kJ,A7] [] (S [nK,o0] [(p5,0)] .ret)))),115,2⟩
end
section
open KK
def k61:CF:=⟨[],(.seq (.fZ [0,1,2,3,4,5,6,7,8,9,10,11,12,13,14,15] [o1,o5,lM,o66,o1,o5,uG,o2,o6,.c none aCp [x5,x1,x0],o0,o7,o8,.fl 83 z83,o74,o9] [(p5,2),(p6,0)]) (S [nK,A7] [] (.ops [o1,.v none (.eH 4 t5) 0,Z4,lM,o74] []))),51,2⟩
def k62:CF:=⟨[.t p7],(S [o3] [(p7,0)] (S [o1,o5,uG,o2,o6,iY,.c none aCo [x2,x1,x0],o0,o7,o8,o4,o4] [(p8,1),(p9,0)] (S [BN,A7] [] (S [kK,o0] [(p7,0)] .ret)))),455,3⟩
def k63:CF:=⟨[.t p7],(S [o3] [(p7,0)] (S [o1,o5,uG,o2,o6,iY,.c none aCn [x2,x1,x0],o0,o7,o8,HD,o9,o9,o9] [(p8,2),(p9,1),(eZ,0)] (S [nI,A7] [] (S [o1,kK,.c none p60 [x1,x0]] [] (S [o1,BN,.c none p62 [x1,x0]] [] (S [kK,o0] [(p7,0)] .ret)))))),967,3⟩
def k64:CF:=⟨[.t p5],(S [o3] [(p5,0)] (.seq (.fZ [0,1,2,3,4,5,6,7,8,9,10,11,12,13,14,15,16,17] [o1,o5,lM,o66,o1,o5,uG,o2,o6,.c none VI [x5,x1,x0],o0,o7,o8,HD,.fl 83 z83,.e none (.st 4 x0 x3),o75,o75] [(p6,3),(p7,1),(p8,0)]) (S [kK,A7] [] (S [o1,.v none (.eH 4 t6) 0,Z4,lM,o74] [] (S [kJ,o0] [(p5,0)] .ret))))),243,2⟩
def k65:CF:=⟨[.t p5],(S [o3] [(p5,0)] (S [o1,o5,uG,o2,o6,.v none (.fW CV [(0,1,(.c (.i .i64 1))),(1,1,x0)]) 0,K6,o0,o7,o8,o4,o4] [(p6,1),(p7,0)] (S [kJ,A7] [] (S [nK,o0] [(p5,0)] .ret)))),115,2⟩
def k66:CF:=⟨[.t p3],(S [.e none (.box 30 t1),pF] [(p2,1),(p3,0)] (S [.v none (.ld t2) 0,.c none yE [x0],.v none (.ar .add .o x0 (.c (.i .i64 7))) 0,A8,.v none (.ar .quo .o x0 (.c (.i .i64 7))) 0,.v none (.mx (.c (.i .i64 1)) x0) 0,.e none (.al 3 z3),yF] [(p4,1)] (S [.e none (.al 248 aGn)] [(p5,0)] (S [.v none (.IR PP [] [t2,t4,t5]) 0,o0] [(p6,0)] (.seq (S [K5,o3] [(oK,1),(p16,0)] (.block 0 (.loop (S [aDf] [(wA,0)] (.seq (.cond t17 .skip (.exit 0)) (.seq (.block 1 (S [zO,o0] [(p7,0)] (.ops [nK,kJ,.cv none x1 [x0]] []))) (.ops [aDd,o0] [(p16,0)]))))))) (S [.v none (.ld t5) 0,VY,o0] [(p3,0)] .ret)))))),114815,1⟩
def k67:CF:=⟨[.t p3],(S [L8,kL] [(p2,1),(p3,0)] (S [.c none p74 [t2],o0] [(p4,0)] (.seq (S [kM,o16,o3] [(p8,2),(p9,1),(eZ,0)] (.block 0 (.loop (S [.v none (.ar .lss .o pL t9) 0] [(hO,0)] (.seq (.cond HA .skip (.exit 0)) (.seq (.block 1 (S [.v none (.ia 5 t8 pL) 0,M1,M0,L9] [(p6,1)] (.block 2 (S [o80,o2,o70,o0] [(nR,0)] (.cond xZ (S [o80,o2,o5,o2,.c none p53 [x0],yH] [(EK,0)] (.cond t23 (S [kL] [(p3,0)] .ret) .skip)) (.seq (.fZ [0,2,3,1,4,5,6,8,9,7,10,11,12] [.v none (.eH 5 t6) 0,o85,yG,.c none p77 [x2],.v none (.ar .lss .o x0 x1) 0,o0,.v (some (.l 0,false)) (.eH 5 t6) 0,.v (some (.l 1,false)) (.fa 1 t6) 0,.v (some (.l 2,false)) (.ld x0) 1,.c (some (.l 3,false)) p77 [x2],.v (some (.l 4,false)) (.ar .gtr .o x0 x1) 0,aC8,o0] [(HB,0)]) (.cond t24 (S [kL] [(p3,0)] .ret) .skip))))))) (.ops [.v none (.ar .add .o pL (.c (.i .i64 1))) 0,o0] [(eZ,0)]))))))) (.seq (.fZ [0,1,2,3,4,5,6,7,8] [kM,.v none (.ar .neq .l x0 (.c .sn)) 0,o0,.v (some (.l 0,true)) (.eH 13 t2) 1,.v (some (.l 1,true)) (.eH 13 t2) 0,.c (some (.l 2,true)) IJ [x0],.v (some (.l 3,true)) (.ar .eql (.a SG) x2 x0) 0,K4,o0] [(p3,0)]) .ret)))),12593071,1⟩
def k71:CF:=⟨[.t p5,.t p6,.t p7],(S [J8,o3,o3] [(p5,2),(p6,1),(p7,0)] (.seq (S [o6,o72,o0,aC9,.v (some (.l 1,false)) (.mv t1) 0,.v (some (.l 2,false)) (.ln .s x0) 0,.v (some (.l 3,false)) (.ar .gtr .o x2 x0) 0,M8] [(II,0)] (.cond SH (S [J8,o3,PX] [(p5,2),(p6,1),(p7,0)] .ret) .skip)) (S [J8] [(p8,0)] (.seq (S [o1,o6,.v none (.sls x1 (some x0) none) 0,.e none (.cvb 5 x0),o16,o3] [(PN,2),(EK,1),(HB,0)] (.block 0 (.loop (S [.v none (.ar .lss .o t24 t23) 0] [(p25,0)] (.seq (.cond t25 .skip (.exit 0)) (.seq (.block 1 (S [.v none (.mv t24) 0,.v none (.ia 1 t22 t24) 0,o2,o9,o4] [(p9,1),(eZ,0)] (.seq (S [BN,SM,o0,.v (some (.l 0,true)) (.mv pL) 0,.v (some (.l 1,true)) (.ar .eql .o x0 (.c (.i .u8 128))) 0,o92,o0,.v (some (.l 0,false)) (.mv t8) 0,.c (some (.l 1,false)) yE [x0],.v (some (.l 2,false)) (.ar .gtr .o x0 (.c (.i .i64 57))) 0,Z3] [(p39,0)] (.cond t39 (S [J8,o3,Z2] [(p5,2),(p6,1),(p7,0)] .ret) .skip)) (S [kK,.v none (.ar .shl .o x0 (.c (.i .u64 7))) 0,nI,.v none (.ar .and .o x0 (.c (.i .u8 127))) 0,VR,.v none (.ar .or .o x3 x0) 0,o0] [(p8,0)] (S [nI,.v none (.ar .lss .o x0 (.c (.i .u8 128))) 0] [(p47,0)] (.cond t47 (S [kK,o6,BN,.v none (.ar .add .o x1 x0) 0,SK,.v none (.mv x4) 0,o4,o3] [(p5,2),(p6,1),(p7,0)] .ret) .skip)))))) (.ops [.v none (.ar .add .o t24 (.c (.i .i64 1))) 0,o0] [(HB,0)]))))))) (S [J8,o3,.v none (.mv (.c (.i .i64 2))) 0] [(p5,2),(p6,1),(p7,0)] .ret))))),70643653673971,2⟩
def k72:CF:=⟨[.t p3],(S [.e none (.box 96 t1),kL] [(p2,1),(p3,0)] (S [Z0,o2,.v none (.ar .geq .o x0 (.c (.i .u64 1))) 0,o0,.v (some (.l 0,true)) (.fa 0 t2) 0,VO,.v (some (.l 2,true)) (.ar .leq .o x0 (.c (.i .u64 4294967296))) 0,VQ,o0,.v (some (.l 0,true)) (.fa 2 t2) 0,VO,.v (some (.l 2,true)) (.ar .geq .o x0 (.c (.i .i64 1))) 0,VQ,o0,.v (some (.l 0,true)) (.fa 2 t2) 0,VO,.v (some (.l 2,true)) (.ar .leq .o x0 (.c (.i .i64 16))) 0,VQ,o0,.v (some (.l 0,true)) (.fa 1 t2) 0,VO,.v (some (.l 2,true)) (.ar .geq .o x0 (.c (.i .i64 0))) 0,VQ,o0,.v (some (.l 0,true)) (.fa 1 t2) 0,VO,.v (some (.l 2,true)) (.fa 2 t2) 0,PW,.v (some (.l 4,true)) (.ar .lss .o x2 x0) 0,N0,o0,aC7,VO,.v (some (.l 2,true)) (.ln .s x0) 0,.v (some (.l 3,true)) (.ar .geq .o x0 (.c (.i .i64 1))) 0,K4,o0,aC7,VO,.v (some (.l 2,true)) (.ln .s x0) 0,.v (some (.l 3,true)) (.ar .leq .o x0 (.c (.i .i64 1000))) 0,K4,o0] [(p3,0)] .ret)),7,1⟩
def k74:CF:=⟨[.t p7,.t p8],(S [.e none (.box 188 t1),o3,o3] [(p4,2),(p7,1),(p8,0)] (.seq (S [o87,o2,o70] [(wA,0)] (.cond t17 (S [o6,iY,.c none I6 [x1,x0,(.c (.i .i64 8))],o0,o7,o8,HD,o9,o9,o9] [(p9,2),(eZ,1),(hO,0)] (S [o87,o2,BN,Z4,yF] [] (S [nI,uU,o4,o4] [(p7,1),(p8,0)] .ret))) .skip)) (S [o6,iY,.c none p72 [x1,x0],o0,o7,o8,HD,o9,o9,o9] [(eO,2),(lP,1),(nR,0)] (.seq (S [K0,SM,o0,.v (some (.l 0,true)) (.mv t12) 0,.v (some (.l 1,true)) (.ar .gtr .o x0 (.c (.i .u64 4294967296))) 0,o92] [(p43,0)] (.cond t43 (.ops [Z2] [(nR,0)]) .skip)) (.seq (S [K0,SM] [(p45,0)] (.cond t45 (.ops [.v none (.eH 5 t4) 0,rN,.c none I5 [x1,x0]] []) .skip)) (S [VT,K0,o4,o4] [(p7,1),(p8,0)] .ret)))))),21990232637391,3⟩
def k75:CF:=⟨[.t p3],(S [pF] [(p3,0)] (S [o1,Z1,VR,.c none p67 [x0],o1,o82,o0] [(p3,0)] .ret)),5,1⟩
def k76:CF:=⟨[.t p3],(S [.e none (.box 188 t1),J8] [(p2,1),(p3,0)] (.seq (S [L7,o2,o70] [(p6,0)] (.cond t6 (S [L7,o2,o5,o2,o0] [(p3,0)] .ret) .skip)) (S [L6,o2,o5,o2,VR,o0] [(p3,0)] .ret))),39,1⟩
def k82:CF:=⟨[.c p3 9 true],(S [.e none (.box 120 t1),.e none (.al 217 HF)] [(p2,1),(p3,0)] (S [L6,N3,.v none (.fa 6 t2) 0,N3,Z0,N3,.v none (.fW HF [(0,3,x4),(3,3,x2),(6,3,x0)]) 0,.e none (.st 9 t3 x0)] [] .ret)),7,1⟩
def k83:CF:=⟨[.t p3],(S [.e none (.box 112 t1),kL] [(p2,1),(p3,0)] (S [Z0,o2,.v none (.ar .neq .o x0 (.c (.i .u64 0))) 0,o0] [(p3,0)] .ret)),7,1⟩
def k84:CF:=⟨[.c p3 3 true,.t p4],(S [.e none (.al 220 DC),o3] [(p3,1),(p4,0)] (.seq (S [o1,Z1,.v none (.ar .gtr .o x0 (.c (.i .i64 65536))) 0] [(hO,0)] (.cond HA (S [.v none (.fW DC []) 0,.e none (.st 3 t3 x0),M2] [(p4,0)] .ret) .skip)) (S [o1,.v none (.fW aGm [(0,1,x0)]) 0,.e none (.box 284 x0),.v none (.fW DC []) 0,.e none (.al 220 DC),o9,.e none (.st 3 x1 x2)] [(p5,1),(p6,2)] (.seq (S [nJ,.c none PO [x0,(.c (.i .u64 8)),(.c (.i .i64 4))],o0] [(p7,0)] (.block 0 (.loop (.seq (S [kJ,.v none (.ar .gtr .o x0 (.c (.i .u64 0))) 0,o0,aC6,J7,.v (some (.l 2,true)) (.fa 2 x0) 0,PW,.v (some (.l 4,true)) (.ar .eql .o x0 (.c (.i .i64 0))) 0,N0] [(p27,0)] (.cond t27 .skip (.exit 0))) (.seq (.block 1 (.fZ [0,1,2,3,4,5,6,7] [o85,o81,nJ,.c none aH8 [x0,(.c (.i .i64 8))],.e none (.nF 9 1 1 [(.s 0 0)] [(0,1,x0)]),.e none (.ap 9 1 16 x3 x0),o85,yF] [])) (.ops [kJ,.v none (.ar .sub .o x0 (.c (.i .u64 1))) 0,o0] [(p7,0)])))))) (S [nJ,.c none PO [x0,(.c (.i .u64 1000)),(.c (.i .i64 15))],A9,.v none (.fa 1 t6) 0,yF] [] (.seq (S [nJ,.c none PO [x0,(.c (.i .u64 200)),(.c (.i .i64 4))],o0] [(p8,0)] (.block 2 (.loop (.seq (S [kK,.v none (.ar .gtr .o x0 (.c (.i .u64 0))) 0,o0,aC6,J7,.v (some (.l 2,true)) (.fa 2 x0) 0,PW,.v (some (.l 4,true)) (.ar .eql .o x0 (.c (.i .i64 0))) 0,N0] [(p51,0)] (.cond t51 .skip (.exit 2))) (.seq (.block 3 (.fZ [0,1,2,3,4,5,6,7] [VZ,o81,nJ,.c none aPt [x0],.e none (.nF 47 7 1 [(.i .i64 0),(.i .i64 0),(.i .i64 0),(.i .i64 0),(.i .i64 0),(.i .u64 0),(.s 0 0)] [(0,7,x0)]),.e none (.ap 47 7 64 x3 x0),VZ,yF] [])) (.ops [kK,.v none (.ar .sub .o x0 (.c (.i .u64 1))) 0,o0] [(p8,0)])))))) (.seq (S [nJ,o5,PY,o2,SM,o0,aC6,J7,o71,PW,VX,.v (some (.l 5,true)) (.ln .s x0) 0,.v (some (.l 6,true)) (.ar .neq .o x2 x0) 0,M7] [(p74,0)] (.cond t74 (.ops [nJ,o5,PY,.e none (.st 1 x0 (.c (.i .i64 15)))] []) .skip)) (.seq (S [nJ,o5,PY,o2,uF] [(p82,0)] (.cond t82 (.seq (.fZ [0,1,2,3,4,5,6] [.v none (.fW DC []) 0,nJ,o5,PY,yG,.e none (.st 3 t3 x4),o4] [(p4,0)]) .ret) .skip)) (S [.v none (.eH 3 t6) 0,.e none (.st 3 t3 x0),o3] [(p4,0)] .ret))))))))),2427296373320897613792509,1⟩
def k85:CF:=⟨[.t p5],(S [pF] [(p5,0)] (S [pF] [(p6,0)] (.seq (S [o6,o16,o3] [(eO,2),(lP,1),(nR,0)] (.block 0 (.loop (S [aDb] [(oK,0)] (.seq (.cond OO .skip (.exit 0)) (.seq (.block 1 (S [.v none (.ia 7 t12 xZ) 0,.v none (.eH 7 x0) 0,.e none (.al 47 z47),aC5] [(p8,1)] (S [o1,.v none (.eH 7 t8) 0,.c none p40 [x1,x0],o0,o7,o8,HD,.e none (.al 34 z34),.e none (.st 6 x0 x3),o75,o75] [(p9,3),(eZ,1),(hO,0)] (.ops [nK,.v none (.eH 6 t9) 0,nI,uU,.c none aCj [x2,x1,x0],.v none (.ar .add .s x4 x0) 0,o0] [(p6,0)])))) (.ops [aDa,o0] [(nR,0)]))))))) (S [nK,o0] [(p5,0)] .ret)))),32691,2⟩
def k86:CF:=⟨[.t p3],(S [pF] [(p3,0)] (.seq (S [o1] [(p4,0)] (.cond t4 (S [.v none (.mv (.c (.s 1 43))) 0] [(p3,0)] .ret) .skip)) (S [.v none (.mv (.c (.s 1 45))) 0] [(p3,0)] .ret))),13,1⟩
def k87:CF:=⟨[.t p3],(S [o3] [(p3,0)] (S [o1,o5,o77,o2,o91,N5,o77,B3] [] (.seq (.fZ [0,1,2,3,4,5,6,7,8,9,10,11,12,13,14] [o1,o5,uG,o2,o1,o5,o77,o2,.v none (.fW CV [(0,1,(.c (.i .i64 2))),(2,1,x0)]) 0,.c none p26 [x5,x0],o0,o7,o8,o4,o4] [(p4,1)]) (S [kM,o0] [(p3,0)] .ret)))),13,1⟩
def k88:CF:=⟨[.t p5],(S [.e none (.box 47 t2),kL] [(p4,1),(p5,0)] (.seq (S [B1,o2] [(p7,0)] (.block 0 (.seq (S [.v none (.ar .eql .o t7 (.c (.i .i64 0))) 0,o0] [(p8,0)] (.cond t8 .skip (S [.v none (.ar .eql .o t7 (.c (.i .i64 2))) 0,o0] [(p8,0)] (.cond t8 .skip (S [.v none (.ar .eql .o t7 (.c (.i .i64 3))) 0,o0] [(p8,0)] (.cond t8 .skip (S [.v none (.ar .eql .o t7 (.c (.i .i64 4))) 0,o0] [(p8,0)] (.cond t8 .skip (.ops [.v none (.ar .eql .o t7 (.c (.i .i64 6))) 0,o0] [(p8,0)]))))))))) (.cond t8 (S [o1,Y9,o2,SJ,o2,.c none p41 [x4,x2,x0],o0] [(p5,0)] .ret) (S [.v none (.ar .eql .o t7 (.c (.i .i64 1))) 0,o0] [(H9,0)] (.cond t20 (S [J6,o2,SM,o0,.v (some (.l 0,false)) (.fa 3 t4) 0,B0,aDj,.v (some (.l 3,false)) (.mv x0) 0,o32,.v (some (.l 1,true)) (.fa 1 t4) 0,aC4,.v (some (.l 3,true)) (.fa 2 t4) 0,o93,.c (some (.l 5,true)) p41 [x4,x2,x0],.v (some (.l 10,false)) (.pick x6 x0 (.c (.b false))) 0,.v none (.pick x11 (.c (.b true)) x0) 0,o0] [(p5,0)] .ret) (S [.v none (.ar .eql .o t7 (.c (.i .i64 8))) 0,o0] [(p38,0)] (.cond t38 (S [o1,Y9,o2,.c none IK [x2,x0],o0] [(p5,0)] .ret) .skip)))))))) (S [B1,o2,aDk,o0,.v (some (.l 0,true)) (.fa 0 t4) 0,VO,.v (some (.l 2,true)) (.ar .lss .o x0 (.c (.i .i64 10))) 0,VQ,o0] [(p5,0)] .ret))),137439477979,2⟩
def k89:CF:=⟨[.c p5 6 true,.t p6,.t p7],(S [.e none (.box 47 t2),.e none (.al 34 z34),o3,o3] [(p4,3),(p5,2),(p6,1),(p7,0)] (S [.e none (.al 31 z31)] [(p8,0)] (.seq (S [o3] [(eO,0)] (.block 0 (.loop (S [.v none (.ar .lss .o t12 (.c (.i .i64 3))) 0] [(lP,0)] (.seq (.cond GZ .skip (.exit 0)) (.seq (.block 1 (S [rN,o0] [(p9,0)] (.ops [BN,o1,o98,.v none (.yJ 3 1 t8 x2) 0,yF] []))) (.ops [M3,o0] [(eO,0)]))))))) (.seq (.fZ [0,1,2,3,4,5,6,7,8,9,10,11,13,14,15,16,17,18,19,12,20,21,22,23,24,25] [o1,o5,lM,yG,Y9,yG,o88,yG,Y9,o2,SJ,o2,J6,yG,o1,o5,PY,yG,.v none (.eH 3 t8) 1,.c none p43 [x9,x7],.c none p7 [x12,x0,x6,x2,x1],o0,o7,o8,o4,o4] [(eZ,1),(hO,0)]) (.seq (S [uU,uF] [(p45,0)] (.cond t45 (S [.v none (.fW z34 []) 0,uU,.e none (.st 6 t5 x1),o3,o9] [(p6,1),(p7,0)] .ret) .skip)) (S [.v none (.fW z34 []) 0,o1,Y9,o2,SJ,o2,nI,.c none aCi [x5,x3,x1,x0],.e none (.st 6 t5 x7),o4,o3] [(p6,1),(p7,0)] .ret)))))),17592186052603,2⟩
def k99:CF:=⟨[.t p5],(S [kL] [(p5,0)] (S [o6,aDk,o0,N1,.v (some (.l 1,true)) (.mv t1) 0,.v (some (.l 2,true)) (.nc x0) 0,.v (some (.l 3,true)) (.fa 1 x0) 0,o93,.v (some (.l 5,true)) (.ln .l x0) 0,.v (some (.l 6,true)) (.ar .lss .o x5 x0) 0,M7,o0] [(p5,0)] .ret)),19,2⟩
def aEl:CF:=⟨[.t p3,.t p4],(S [o3,o3] [(p3,1),(p4,0)] (.seq (.fZ [0,1,2,3,4,5,6,7,8,9,10] [o1,o5,uG,o2,.v none (.ln .m x0) 0,o1,o5,o77,o2,.v none (.mv x4) 0,o4] [(p3,1),(p4,0)]) .ret)),13,1⟩
def aRq:CF:=⟨[.t p3],(S [pG] [(p3,0)] (.seq (.fZ [0,1,2,3,4,5,6,7,8,9,10,11,12,13] [o1,o5,lM,uG,uG,o2,o1,o5,lM,uG,lM,o2,.e none (.nF 3 1 2 [(.i .i64 0),(.i .i64 0)] [(0,1,x6),(1,1,x0)]),o0] [(p4,0)]) (.seq (S [o1,o5,lM,PY,o2,o16,o3] [(p29,2),(p30,1),(p31,0)] (.block 0 (.loop (S [.v none (.ar .lss .o t31 t30) 0] [(p32,0)] (.seq (.cond t32 .skip (.exit 0)) (.seq (.block 1 (S [.v none (.ia 4 t29 t31) 0,o66,.e none (.al 64 z64),M4] [(p6,1)] (.ops [kM,VZ,.v none (.sla 2 1 x0 none none) 0,.e none (.ap 3 1 8 x2 x0),o0] [(p4,0)]))) (.ops [.v none (.ar .add .o t31 (.c (.i .i64 1))) 0,o0] [(p31,0)]))))))) (.seq (S [o1,o5,o78,o2,.c none aPr [x0],o16,o3] [(p44,2),(p45,1),(p46,0)] (.block 2 (.loop (S [.v none (.ar .lss .o t46 t45) 0] [(p47,0)] (.seq (.cond t47 .skip (.exit 2)) (.seq (.block 3 (S [.v none (.ia 1 t44 t46) 0,o2,o0] [(p8,0)] (S [o1,o5,o78,o2,kK,.v none (.lk .u64 (.a [(.i .i64 0),(.i .i64 0),(.i .i64 0),(.i .i64 0),(.i .u64 0),(.i .i64 0),(.i .i64 0),(.s 0 0),(.i .u64 0)]) x1 x0 false) 0,.v none (.YU 1 7 true x0) 0,.e none (.al 85 z85),aC5] [(p9,1)] (.ops [kM,o69,uG,o2,.v none (.fa 4 t9) 0,o2,.v none (.fa 5 t9) 0,o2,.e none (.nF 3 1 3 [(.i .i64 0),(.i .i64 0),(.i .i64 0)] [(0,1,x4),(1,1,x2),(2,1,x0)]),.e none (.ap 3 1 8 x8 x0),o0] [(p4,0)])))) (.ops [.v none (.ar .add .o t46 (.c (.i .i64 1))) 0,o0] [(p46,0)]))))))) (.seq (S [o1,o5,.v none (.fa 12 x0) 0,o2,.c none aPq [x0],o16,o3] [(p72,2),(p73,1),(p74,0)] (.block 4 (.loop (S [.v none (.ar .lss .o t74 t73) 0] [(p75,0)] (.seq (.cond t75 .skip (.exit 4)) (.seq (.block 5 (S [.v none (.ia 1 t72 t74) 0,o2,o0] [(hO,0)] (.ops [kM,o1,o5,.v none (.fa 12 x0) 0,o2,uU,.v none (.lk .u64 .pn x1 x0 false) 0,.c none aPp [x0],.e none (.ap 3 1 8 x7 x0),o0] [(p4,0)]))) (.ops [.v none (.ar .add .o t74 (.c (.i .i64 1))) 0,o0] [(p74,0)]))))))) (S [kM,o0] [(p3,0)] .ret)))))),35417748753467760969133,1⟩
def aRp:CF:=⟨[.t p5,.t p6],(S [kL,o3] [(p5,1),(p6,0)] (.seq (.fZ [0,1,2,3,4,6,7,8,9,10,5,11,12,13,14,15] [o1,o5,uG,yG,o1,o1,o5,M5,.v none (.eH 2 x0) 1,o6,.c none aCh [x5],.c none aPo [x7,x0,x2,x1],o7,o8,o4,o4] [(p5,1),(p6,0)]) .ret)),51,2⟩
def aRo:CF:=⟨[.c p5 4 true,.t p6],(S [o73,o3] [(p5,1),(p6,0)] (S [o1,o6,.v none (.fW CV [(0,1,(.c (.i .i64 1))),(1,1,x0)]) 0,K6,o0,o7,o8,o4,o4] [(p7,1),(p8,0)] (.seq (S [kK,uF] [(wA,0)] (.cond t17 (S [o89,kK,.e none (.st 4 t5 x1),o4] [(p6,0)] .ret) .skip)) (S [kJ,kJ,.v none (.fW z83 [(0,1,x1),(2,1,x0)]) 0,.e none (.st 4 t5 x0),o3] [(p6,0)] .ret)))),65779,2⟩
def aRn:CF:=⟨[.t p5,.t p6],(S [o3,o3] [(p5,1),(p6,0)] (S [o1,o6,.v none (.fW CV [(0,1,(.c (.i .i64 3))),(3,1,x0)]) 0,K6,o7,o8,o4,o4] [(p5,1),(p6,0)] .ret)),51,2⟩
def aRm:CF:=⟨[.c p7 4 true,.t p8],(S [VW,o73,o3] [(p4,2),(p7,1),(p8,0)] (S [o6,SJ,o2,iY,.c none aH7 [x3,x1,x0],o0,o7,o8,o4,o4] [(p9,1),(eZ,0)] (.seq (S [nI,uF] [(H9,0)] (.cond t20 (S [o89,nI,.e none (.st 4 t7 x1),o4] [(p8,0)] .ret) .skip)) (S [BN,SJ,yF] [] (S [.v none (.eH 4 t4) 0,aC3,o3] [(p8,0)] .ret))))),525263,3⟩
def aRl:CF:=⟨[.t p5,.t p6],(S [o3,o3] [(p5,1),(p6,0)] (S [o1,o6,.v none (.fW CV [(0,1,(.c (.i .i64 5))),(3,1,x0)]) 0,K6,o7,o8,o4,o4] [(p5,1),(p6,0)] .ret)),51,2⟩
def aRk:CF:=⟨[.c p7 4 true,.t p8],(S [VW,o73,o3] [(p4,2),(p7,1),(p8,0)] (S [o6,B1,o2,iY,.c none aPn [x3,x1,x0],o0,o7,o8,HD,o9,o9,o9] [(p9,2),(eZ,1),(hO,0)] (.seq (S [uU,uF] [(PN,0)] (.cond t22 (S [o89,uU,.e none (.st 4 t7 x1),o4] [(p8,0)] .ret) .skip)) (S [BN,nI,SJ,o2,.v none (.fW z83 [(0,1,x3),(1,1,x2),(2,1,x0)]) 0,aC3,o3] [(p8,0)] .ret)))),2099151,3⟩
def aRj:CF:=⟨[.t p7,.t p8],(S [o3,o3] [(p7,1),(p8,0)] (S [o1,o6,K3,o0,o7,o8,VV,K2,o9] [(eZ,0)] (S [o1,iY,K3,o0,o7,o8,VV,K2,o9] [(hO,2)] (.seq (S [nI,yH,o0,.v (some (.l 0,false)) (.fa 0 HA) 0,B0,.v (some (.l 2,false)) (.ar .neq .o x0 (.c (.i .i64 3))) 0,Z3] [(p32,0)] (.cond t32 (S [o3,PX] [(p7,1),(p8,0)] .ret) .skip)) (S [o6,.v none (.fa 3 HA) 0,o2,o99,.e none (.al 62 z62),.e none (.st 2 x0 x1)] [(lP,1)] (.seq (S [aC2,o2,aC1,o2,.v none (.ar .gtr .o x2 x0) 0] [(p41,0)] (.cond t41 (.ops [aC1,o2,aC2,o2,o99,.e none (.st 2 GZ x0)] []) .skip)) (S [o1,aC2,o2,aC1,o2,.v none (.fW CV [(0,1,(.c (.i .i64 4))),(3,1,x2),(4,1,x0)]) 0,.c none p26 [x5,x0],o7,o8,o4,o4] [(p7,1),(p8,0)] .ret))))))),1101659117255,3⟩
def aRi:CF:=⟨[.t p7,.t p8,.t p9],(S [o3,o3,o3] [(p7,2),(p8,1),(p9,0)] (S [o1,o6,K3,o0,o7,o8,VV,K2,o9] [(eZ,2)] (.seq (S [.v none (.fa 0 pL) 0,o2,.v none (.ar .neq .o x0 (.c (.i .i64 5))) 0,o0,J9,.v (some (.l 1,false)) (.mv t3) 0,.e (some (.l 2,false)) (.nF 3 1 1 [(.i .i64 0)] [(0,1,x0)]),.c (some (.l 3,false)) aPm [x2,x0],.v (some (.l 4,false)) (.not x0) 0,aC8] [(p27,0)] (.cond t27 (S [o3,o3,PX] [(p7,2),(p8,1),(p9,0)] .ret) .skip)) (.seq (S [o1,o94,o2,iY,.v none (.fW CV [(0,1,(.c (.i .i64 6))),(3,1,x1),(4,1,x0)]) 0,.c none p26 [x4,x0],o0,o7,o8,o4,o4] [(p7,1),(p9,0)] (S [BN,uF] [(p38,0)] (.cond t38 (S [BN,o3,o3,o9] [(p7,2),(p8,1),(p9,0)] .ret) .skip))) (.seq (S [o1,o94,o2,iY,.v none (.fW CV [(0,1,(.c (.i .i64 7))),(3,1,x1),(4,1,x0)]) 0,.c none p26 [x4,x0],o0,o7,o8,o4,o4] [(p8,1),(p9,0)] (S [BN,uF] [(p50,0)] (.cond t50 (S [BN,o3,o3,o9] [(p7,2),(p8,1),(p9,0)] .ret) .skip))) (S [kJ,kK,o4,o4,o3] [(p7,2),(p8,1),(p9,0)] .ret)))))),563087459484615,3⟩
def aRh:CF:=⟨[.c p7 4 true,.t p8,.t p9],(S [VW,o73,o3,o3] [(p4,3),(p7,2),(p8,1),(p9,0)] (.seq (S [.v none (.eH 4 t4) 0,.c none aPl [x0],yH] [(nR,0)] (.cond xZ (S [o89,aC3,o3,.v none (.mv (.c (.i .i64 7))) 0] [(p8,1),(p9,0)] .ret) .skip)) (S [o6,Y9,o2,J6,o2,SJ,o2,iY,.c none aCk [x7,x5,x3,x1,x0],o0,o7,o8,o4,o4] [(eZ,1),(hO,0)] (S [.v none (.eH 4 t4) 0,o6,nI,nI,uU,.c none aPk [x4,x3,x2,x1,x0],o7,o8,HD,.e none (.st 4 t7 x2),o9,o9] [(p8,1),(p9,0)] .ret)))),10191,3⟩
def aRg:CF:=⟨[.t p3],(S [o3] [(p3,0)] (.seq (S [o1,.v none (.ar .geq .o x0 (.c (.i .u64 4294967296))) 0] [(p5,0)] (.cond t5 (S [o1,.v none (.ar .shr .o x0 (.c (.i .u64 32))) 0,o0] [(p1,0)] (.ops [.v none (.mv (.c (.i .i64 32))) 0] [(p3,0)])) .skip)) (.seq (S [o1,.v none (.ar .geq .o x0 (.c (.i .u64 65536))) 0] [(p9,0)] (.cond t9 (S [o1,.v none (.ar .shr .o x0 (.c (.i .u64 16))) 0,o0] [(p1,0)] (.ops [iY,.v none (.ar .add .o x0 (.c (.i .i64 16))) 0,o0] [(p3,0)])) .skip)) (.seq (S [o1,.v none (.ar .geq .o x0 (.c (.i .u64 256))) 0] [(oK,0)] (.cond OO (S [o1,.v none (.ar .shr .o x0 (.c (.i .u64 8))) 0,o0] [(p1,0)] (.ops [iY,.v none (.ar .add .o x0 (.c (.i .i64 8))) 0,o0] [(p3,0)])) .skip)) (S [iY,o1,.v none (.cvi .u8 x0) 0,.v none (.ixs (.c (.s 256 496986003408712215933005303621146343841837811690876167382323004466384420695090407243345123874780946046625255262057845613767806773758184921447759720770971536008171983842311960805720366577116933250839345203839274948261284255908394484732272583221484877694546905335834403051067785895034095251181560891789708940188598129052595634438001880866652824740680664595948164050600812232986714152902334120417949232733424961741260388658846598210939813666227264727603044226856020347194099943897342244906131705541414413428559898943151040826816076322978570758226444464494629814583418847495712557856038296917933182380796641777551368)) x0) 0,A9,.v none (.ar .add .o x4 x0) 0,o0] [(p3,0)] .ret))))),16661,1⟩
def aRf:CF:=⟨[],(S [.v none (.ld t2) 0,.v none (.ld t3) 0,A8,o1,o90,.v none (.ar .mul .o (.c (.i .i64 7)) x0) 0,.v none (.ar .shr .o x5 x0) 0,.v none (.ar .and .o x0 (.c (.i .u64 127))) 0,.v none (.cvi .u8 x0) 0,o0] [(p6,0)] (.seq (S [o1,.v none (.ld t3) 0,A8,.v none (.ar .lss .o x2 x0) 0] [(I0,0)] (.cond t19 (.ops [nK,.v none (.ar .or .o x0 (.c (.i .u8 128))) 0,o0] [(p6,0)]) .skip)) (.ops [K5,nK,.e none (.nF 5 1 1 [(.i .u8 0)] [(0,1,x0)]),.e none (.ap 5 1 1 x2 x0),.e none (.st 1 t4 x0)] []))),262191,4⟩
def aRe:CF:=⟨[.c p3 13 true],(S [L8,o68] [(p2,1),(p3,0)] (S [Z0,o2,.v none (.fW SG [(0,1,x0)]) 0,o68,aDi] [(p4,1)] (S [.c none p74 [t4],o0] [(p5,0)] (.seq (S [.c none p74 [t2],o16,o3] [(eO,2),(lP,1),(nR,0)] (.block 0 (.loop (S [aDb] [(oK,0)] (.seq (.cond OO .skip (.exit 0)) (.seq (.block 1 (S [K0,.v none (.ia 5 t12 xZ) 0,M1,M0,o75,.e none (.st 5 x1 x2)] [(p6,1),(p7,2)] (.seq (S [.v none (.fa 4 t7) 0,o2,o70] [(A6,0)] (.cond t21 (.seq (.fZ [0,1,2,3,4,5,6,7,8,9,10] [nJ,nK,.v none (.ia 5 x1 x0) 0,o79,o2,.v none (.fa 4 t7) 0,o2,o5,o2,N5,yF] []) (.exit 1)) .skip)) (.fZ [0,1,2,3,4,5,6] [nJ,nK,.v none (.ia 5 x1 x0) 0,.v none (.eH 5 x0) 1,.v none (.eH 5 t7) 0,.c none p77 [x0],.c none I5 [x2,x0]] [])))) (.ops [aDa,o0] [(nR,0)]))))))) (S [.v none (.eH 13 t4) 0,o97] [] .ret))))),1079423,1⟩
def aRc:CF:=⟨[.t p7,.t p8,.t p9],(S [pF,o3,o3] [(p7,2),(p8,1),(p9,0)] (S [o1,o6,.c none p72 [x1,x0],o0,o7,o8,HD,o9,o9,o9] [(eZ,2),(hO,1),(eO,0)] (.seq (.block 0 (S [rN,uF,o0] [(A6,0)] (.cond t21 (S [rN,pF,o3,o9] [(p7,2),(p8,1),(p9,0)] .ret) (S [nI,iY,.v none (.mx (.c (.i .i64 0)) x0) 0,VR,.v none (.ar .gtr .o x3 x0) 0,o0] [(p25,0)] (.cond t25 (S [pF,o3,M2] [(p7,2),(p8,1),(p9,0)] .ret) (S [nI,o1,Z1,uU,o90,VR,.v none (.ar .gtr .o x5 x0) 0,o0] [(p31,0)] (.cond t31 (S [pF,o3,.v none (.mv (.c (.i .i64 2))) 0] [(p7,2),(p8,1),(p9,0)] .ret) .skip))))))) (S [uU,nI,A9,.v none (.ar .add .o x2 x0) 0,o0] [(lP,0)] (S [o1,uU,VT,.v none (.sls x2 (some x1) (some x0)) 0,VT,o4,o4,o3] [(p7,2),(p8,1),(p9,0)] .ret))))),1091575751,3⟩
def aRb:CF:=⟨[],(S [.e none (.box 188 t1)] [(p3,0)] (.seq (S [.v none (.fa 2 t3) 0,o2,o70] [(p7,0)] (.cond t7 (S [.v none (.fa 2 t3) 0,o2,o6,Z4,yF] [] .ret) .skip)) (.ops [.v none (.fa 3 t3) 0,o2,o6,A9,.v none (.nc x2) 0,yF] []))),71,2⟩
def aQ9:CF:=⟨[.t p7,.t p8],(S [o3,o3] [(p7,1),(p8,0)] (S [o1,o6,iY,.v none (.fW CV [(0,1,(.c (.i .i64 9))),(3,1,x1),(2,1,x0)]) 0,.c none p26 [x3,x0],o7,o8,o4,o4] [(p7,1),(p8,0)] .ret)),199,3⟩
def aQ7:CF:=⟨[.t hO,.t eO],(S [o3,o3] [(hO,1),(eO,0)] (S [o1,o6,iY,kM,nJ,.v none (.fW CV [(0,1,(.c (.i .i64 10))),(3,1,x3),(2,1,x2),(4,1,x1),(5,1,x0)]) 0,.c none p26 [x5,x0],o7,o8,o4,o4] [(hO,1),(eO,0)] .ret)),3103,5⟩
end
section
open KK
def aQ6:CF:=⟨[.t p7],(S [J8] [(p7,0)] (.seq (S [o1,o5,PY,o2,uF] [(oK,0)] (.cond OO (S [J8] [(p7,0)] .ret) .skip)) (.seq (.fZ [0,1,2,3,4,5,6,7,8,9,10,11,12,13,14,15] [o1,o5,uG,o2,o1,o5,lM,o2,.c none p72 [x4,x0],o0,o7,o8,HD,o9,o9,o9] [(p8,2),(p9,1),(eZ,0)]) (.seq (S [nI,SM,o0,.v (some (.l 0,true)) (.mv t8) 0,.v (some (.l 1,true)) (.mv t2) 0,.v (some (.l 2,true)) (.ar .gtr .o x1 x0) 0,VQ] [(p35,0)] (.cond t35 (.ops [iY,o0] [(eZ,0)]) .skip)) (.seq (S [nI,uF] [(p38,0)] (.cond t38 (S [o1,nI,Z4,PY,B3] [] (S [J8] [(p7,0)] .ret)) .skip)) (S [o1,BN,Z4,lM,B3] [] (S [kK,o0] [(p7,0)] .ret))))))),154618840007,3⟩
def aQ5:CF:=⟨[.t p5],(S [pF] [(p5,0)] (.seq (S [o1,o5,PY,o2,uF] [(lP,0)] (.cond GZ (S [pF] [(p5,0)] .ret) .skip)) (.seq (.fZ [0,1,2,3,4,5,6,7,8,9,10,11,12,13,14,15,16] [o1,o5,uG,o2,o1,o5,lM,o2,o6,.c none I6 [x5,x1,x0],o0,o7,o8,HD,o9,o9,o9] [(p6,2),(p7,1),(p8,0)]) (S [o1,o1,kJ,kK,.v none (.nc x3) 0,lM,.e none (.st 1 x0 x3),.v none (.nc x5) 0,PY,.e none (.st 1 x0 x5)] [] (S [nK,o0] [(p5,0)] .ret))))),4339,2⟩
def aQ4:CF:=⟨[.c p3 7 true],(S [.e none (.al 47 z47)] [(p3,0)] (S [o1,.c none PO [x0,(.c (.i .u64 9)),(.c (.i .i64 15))],A9,.v none (.fW z47 [(0,1,x0)]) 0,.e none (.al 47 z47),aC5] [(p4,1)] (.seq (S [o1,o5,PY,o2,uF] [(p16,0)] (.cond t16 (S [L0,.e none (.st 7 t3 x0)] [] .ret) .skip)) (.seq (S [B1,o2,.v none (.yJ 10 1 (.c (.g 0 0)) x0) 0,.v none (.ldg 0 uZ x0) 0,.e none (.rgs x0)] [(PN,0)] (.block 0 (.loop (S [.e none (.nxs t22),o7] [(EK,1),(HB,0)] (.seq (.cond t24 .skip (.exit 0)) (.block 1 (S [.v none (.ext t23 2) 0,o0] [(p6,0)] (S [nK,.c none aPj [t4,x0],o0] [(p7,0)] (.block 2 (S [kJ,o70,o0] [(p31,0)] (.cond t31 (.ops [kJ,o1,.c none PO [x0,(.c (.i .u64 1048576)),(.c (.i .i64 15))],A9,.v none (.nc x3) 0,yF] []) (S [nK,.v none (.ar .eql .o x0 (.c (.i .i32 78))) 0,o0] [(p39,0)] (.cond t39 (.ops [o1,.c none PO [x0,(.c (.i .u64 18446744073709551615)),(.c (.i .i64 0))],.v none (.fa 5 t4) 0,yF] []) (.ops [o1,.c none aH8 [x0,(.c (.i .i64 100))],.v none (.fa 6 t4) 0,yF] [])))))))))))))) (S [L0,.e none (.st 7 t3 x0)] [] .ret))))),275966361709,1⟩
def aQ3:CF:=⟨[.t p7],(S [.e none (.box 34 t1),pF] [(p4,1),(p7,0)] (S [pF] [(p8,0)] (.seq (S [iY,o6,B1,o2,J6,o2,.v none (.fa 5 t4) 0,o2,o87,o2,o16,.e none (.nF 3 1 6 [(.i .i64 0),(.i .i64 0),(.i .i64 0),(.i .i64 0),(.i .i64 0),(.i .i64 0)] [(0,1,x10),(1,1,x9),(2,1,x7),(3,1,x5),(4,1,x3),(5,1,x0)]),o16,o3] [(HB,2),(p25,1),(p26,0)] (.block 0 (.loop (S [.v none (.ar .lss .o t26 t25) 0] [(p27,0)] (.seq (.cond t27 .skip (.exit 0)) (.seq (.block 1 (S [.v none (.ia 1 t24 t26) 0,o2,o0] [(eZ,0)] (.ops [kK,nI,.c none aPi [x0],.v none (.ar .add .s x0 (.c (.s 1 32))) 0,aDe,o0] [(p8,0)]))) (.ops [.v none (.ar .add .o t26 (.c (.i .i64 1))) 0,o0] [(p26,0)]))))))) (S [kK,SJ,o2,.c none p87 [x0],aDe,o0] [(p8,0)] (.seq (S [Y9,o2,.e none (.cvb 5 x0),o16,o3] [(p43,2),(p44,1),(p45,0)] (.block 2 (.loop (S [.v none (.ar .lss .o t45 t44) 0] [(p46,0)] (.seq (.cond t46 .skip (.exit 2)) (.seq (.block 3 (S [.v none (.ia 1 t43 t45) 0,o2,o0] [(eO,0)] (.fZ [0,1,2,3,4,5,6,7,8,9,10] [kK,rN,.v none (.ar .shr .o x0 (.c (.i .u64 4))) 0,.v none (.ixs (.c (.s 16 64058384521018188869745042196707698022)) x0) 0,rN,.v none (.ar .and .o x0 (.c (.i .u8 15))) 0,.v none (.ixs (.c (.s 16 64058384521018188869745042196707698022)) x0) 0,.e none (.nF 5 1 2 [(.i .u8 0),(.i .u8 0)] [(0,1,x3),(1,1,x0)]),VY,.v none (.ar .add .s x8 x0) 0,o0] [(p8,0)]))) (.ops [.v none (.ar .add .o t45 (.c (.i .i64 1))) 0,o0] [(p45,0)]))))))) (S [kK,.v none (.ar .add .s x0 (.c (.s 1 10))) 0,o0] [(p7,0)] .ret)))))),65970823498447,3⟩
def aQ2:CF:=⟨[.t p9],(S [o3] [(p9,0)] (S [pG] [(eZ,0)] (.seq (S [kM,o16,o3] [(A6,2),(PN,1),(EK,0)] (.block 0 (.loop (S [.v none (.ar .lss .o t23 t22) 0] [(HB,0)] (.seq (.cond t24 .skip (.exit 0)) (.seq (.block 1 (S [.v none (.ia 1 t21 t23) 0,o2,o0] [(eO,0)] (S [rN,.c none p27 [x0],o0,o7,o8,o95,o74,o9] [(lP,2)] (S [nI,.v none (.eH 4 GZ) 0,.e none (.nF 96 4 1 [(.i .u64 0),(.i .i64 0),(.i .i64 0),(.s 0 0)] [(0,4,x0)]),.e none (.ap 96 4 40 x2 x0),o0] [(eZ,0)] (.ops [o1,o1,o5,o79,o2,o6,iY,rN,.v none (.fW aGl [(0,1,x2),(1,1,x1),(2,1,x0)]) 0,.e none (.nF 291 3 1 [(.i .i64 0),(.i .i64 0),(.s 0 0)] [(0,3,x0)]),.e none (.ap 291 3 32 x5 x0),.v none (.nc x10) 0,o79,B3] []))))) (.ops [.v none (.ar .add .o t23 (.c (.i .i64 1))) 0,o0] [(EK,0)]))))))) (S [nI,.c none aPs [x0],o0,o7,o8,o4,o4] [(oK,1)] (S [SI,.c none p28 [x0],o0,o7,o8,o68,.e none (.st 13 x0 x2),o9] [(wA,2)] (.seq (S [.v none (.eH 13 t17) 0,.c none aPh [x0],o16,o3] [(p61,2),(p62,1),(p63,0)] (.block 2 (.loop (S [.v none (.ar .lss .o t63 t62) 0] [(p64,0)] (.seq (.cond t64 .skip (.exit 2)) (.seq (.block 3 (S [.v none (.ia 1 t61 t63) 0,o2,o0] [(H9,0)] (.ops [o1,o5,o67,o2,WD,.e none (.mu .i64 x1 x0 (.c (.b true)))] []))) (.ops [.v none (.ar .add .o t63 (.c (.i .i64 1))) 0,o0] [(p63,0)]))))))) (S [kM,o16,o0] [(p9,0)] .ret))))))),17293822569119046415,4⟩
def aQ1:CF:=⟨[.t p3,.t p4],(S [pF,o3] [(p3,1),(p4,0)] (.seq (S [o1,o16,K7,o0,J9,.v (some (.l 1,false)) (.ln .l x0) 0,.v (some (.l 2,false)) (.ar .gtr .o x0 (.c (.i .i64 16))) 0,Z3] [(oK,0)] (.cond OO (S [pF,Z2] [(p3,1),(p4,0)] .ret) .skip)) (S [pF] [(p5,0)] (.seq (S [o1,o16,o3] [(p16,2),(wA,1),(II,0)] (.block 0 (.loop (S [.v none (.ar .lss .o SH t17) 0] [(I0,0)] (.seq (.cond t19 .skip (.exit 0)) (.seq (.block 1 (S [.v none (.mv SH) 0,.v none (.ia 4 t16 SH) 0,o66,o95,o75,.e none (.st 4 x1 x2)] [(p6,1),(p7,2)] (.seq (.seq (.fZ [0,1,2,3,4,5,6,7,8,9,10,11,12,13,14,15,16,17,18,19,20,21,22,23,24] [.v none (.eH 4 t7) 0,.c none p73 [x0],yH,o0,.v (some (.l 0,false)) (.fa 0 t7) 0,B0,.v (some (.l 2,false)) (.mv t1) 0,.v (some (.l 3,false)) (.ia 4 x0 (.c (.i .i64 0))) 0,.v (some (.l 4,false)) (.fa 0 x0) 0,K8,.v (some (.l 6,false)) (.ar .neq .o x4 x0) 0,.v none (.pick x7 (.c (.b true)) x0) 0,o0,.v (some (.l 0,false)) (.fa 2 t7) 0,B0,.v (some (.l 2,false)) (.mv t1) 0,.v (some (.l 3,false)) (.ln .l x0) 0,.v (some (.l 4,false)) (.ar .neq .o x2 x0) 0,aC8,o0,.v (some (.l 0,false)) (.fa 1 t7) 0,B0,.v (some (.l 2,false)) (.mv t6) 0,.v (some (.l 3,false)) (.ar .neq .o x1 x0) 0,M8] [(p47,0)]) (.cond t47 (S [pF,Z2] [(p3,1),(p4,0)] .ret) .skip)) (.ops [nJ,.v none (.fa 3 t7) 0,o2,.v none (.ar .add .s x2 x0) 0,o0] [(p5,0)])))) (.ops [.v none (.ar .add .o SH (.c (.i .i64 1))) 0,o0] [(II,0)]))))))) (.seq (S [nJ,Z1,.v none (.ar .gtr .o x0 (.c (.i .i64 4096))) 0] [(p55,0)] (.cond t55 (S [pF,M2] [(p3,1),(p4,0)] .ret) .skip)) (S [nJ,o0,o3] [(p3,1),(p4,0)] .ret)))))),18084767254167677,1⟩
def aQ0:CF:=⟨[.t p3],(S [pG] [(p3,0)] (S [pG] [(p4,0)] (.seq (S [o1,o111] [(p7,0)] (.block 0 (.loop (S [.e none (.Z5 t7),o7] [(p9,0)] (.seq (.cond t9 .skip (.exit 0)) (.block 1 (S [.e none (.ent t7),o7,o0] [(p5,0)] (.ops [kM,nJ,.e none (.nF 30 1 1 [(.i .u64 0)] [(0,1,x0)]),.e none (.ap 30 1 8 x2 x0),o0] [(p4,0)])))))))) (S [kM,.c none aH5 [x0]] [] (S [kM,o0] [(p3,0)] .ret))))),349,1⟩
def aQz:CF:=⟨[.t p3],(S [pG] [(p3,0)] (S [pG] [(p4,0)] (.seq (S [o1,o111] [(p7,0)] (.block 0 (.loop (S [.e none (.Z5 t7),o7] [(p9,0)] (.seq (.cond t9 .skip (.exit 0)) (.block 1 (S [.e none (.ent t7),o7,o0] [(p5,0)] (.ops [kM,nJ,.e none (.nF 30 1 1 [(.i .u64 0)] [(0,1,x0)]),.e none (.ap 30 1 8 x2 x0),o0] [(p4,0)])))))))) (S [kM,.c none aH5 [x0]] [] (S [kM,o0] [(p3,0)] .ret))))),349,1⟩
def aQy:CF:=⟨[.t p9,.t eZ],(S [.e none (.box 140 t3),kL,o3] [(p7,2),(p9,1),(eZ,0)] (S [o1,o6,.v none (.eH 2 t7) 0,.c none aCg [x2,x1,x0],o0,o7,o8,o4,o4] [(hO,1),(eO,0)] (.seq (S [rN,yH] [(A6,0)] (.cond t21 (S [kL,PX] [(p9,1),(eZ,0)] .ret) .skip)) (.seq (S [kM,K7,o0,.v (some (.l 0,false)) (.mv t4) 0,.v (some (.l 1,false)) (.mv t1) 0,.c (some (.l 2,false)) eZ [x0],.v (some (.l 3,false)) (.ar .gtr .o x2 x0) 0,M8] [(p29,0)] (.cond t29 (S [kL,.v none (.mv (.c (.i .i64 5))) 0] [(p9,1),(eZ,0)] .ret) .skip)) (S [uU,.c none aPg [x0]] [] (S [uU,o5,lM,o2,kM,B2,o2,o0,o3] [(p9,1),(eZ,0)] .ret)))))),269487951,4⟩
def aQx:CF:=⟨[.t p7,.t p8],(S [o3,o3] [(p7,1),(p8,0)] (S [o1,o6,iY,.v none (.fW CV [(0,1,(.c (.i .i64 8))),(3,1,x1),(4,1,x0)]) 0,.c none p26 [x3,x0],o7,o8,o4,o4] [(p7,1),(p8,0)] .ret)),199,3⟩
def aQw:CF:=⟨[.t p7,.t p8,.t p9],(S [.e none (.box 22 t1),o3,o3,o3] [(p4,3),(p7,2),(p8,1),(p9,0)] (S [K5,o6,iY,.c none aH7 [x2,x1,x0],o0,o7,o8,.e none (.al 3 z3),.e none (.al 27 z27),.e none (.st 1 x1 x3),.e none (.st 1 x1 x3)] [(eZ,3),(hO,2)] (.seq (S [K1,uF] [(EK,0)] (.cond t23 (.seq (.fZ [0,1,2,3] [K1,o3,o3,o9] [(p7,2),(p8,1),(p9,0)]) .ret) .skip)) (S [.v none (.IR aPf [] [HA,t4,pL]) 0,o0] [(eO,0)] (S [rN,.cv none x0 [(.c (.i .u64 1))],o0] [(lP,0)] (S [rN,.cv none x0 [(.c (.i .u64 2))],o0] [(nR,0)] (.seq (S [K1,uF] [(p31,0)] (.cond t31 (.seq (.fZ [0,1,2,3] [K1,o3,o3,o9] [(p7,2),(p8,1),(p9,0)]) .ret) .skip)) (S [VT,K0,o4,o4,o3] [(p7,2),(p8,1),(p9,0)] .ret)))))))),1077952463,3⟩
def aQv:CF:=⟨[.t p5],(S [kL] [(p5,0)] (.seq (S [o6,o16,o3] [(eZ,2),(hO,1),(eO,0)] (.block 0 (.loop (S [.v none (.ar .lss .o t12 HA) 0] [(lP,0)] (.seq (.cond GZ .skip (.exit 0)) (.seq (.block 1 (S [.v none (.ia 1 pL t12) 0,o2,o0] [(p7,0)] (S [o1,kJ,K3,o0,o7,o8,VV,K2,o9] [(p9,0)] (S [BN,yH] [(EK,0)] (.cond t23 (S [kL] [(p5,0)] .ret) .skip))))) (.ops [M3,o0] [(eO,0)]))))))) (S [VP] [(p5,0)] .ret))),4202323,2⟩
def aQu:CF:=⟨[.t p3],(S [VW,kL] [(p2,1),(p3,0)] (S [.v none (.eH 4 t2) 0,Z0,o2,L7,o2,L6,o2,.v none (.fW z83 [(0,1,x4),(2,1,x2),(3,1,x0)]) 0,.v none (.ar .neq (.a z83) x7 x0) 0,o0,aC7,VO,.v (some (.l 2,true)) (.ar .lss .o x0 (.c (.i .u64 18446744073709551615))) 0,VQ,o0] [(p3,0)] .ret)),7,1⟩
def aQt:CF:=⟨[.c hO 4 true,.t eO,.t lP],(S [VW,o73,o3,o3] [(p6,3),(hO,2),(eO,1),(lP,0)] (.block 999 (.seq (.block 1000 (.seq (S [o73] [(nR,0)] (.seq (S [nJ,uF] [(p16,0)] (.cond t16 (.exit 1000) .skip)) (S [o84,o2,o91,o84,yF] [] (.seq (S [.v none (.eH 4 t6) 0,o6,iY,.c none aIc [x2,x1,x0],o0,o7,o8,.e none (.st 4 xZ x1),o4] [(p5,0)] (S [nJ,SM] [(p29,0)] (.cond t29 (S [.v none (.eH 4 xZ) 0,kM,aC0,o4,o3] [(eO,1),(lP,0)] .ret) .skip))) (.seq .skip (S [o89,nJ,aC0,o3,o9] [(eO,1),(lP,0)] .ret)))))) (.exit 999))) (.seq .skip (S [o89,nJ,aC0,o3,o9] [(eO,1),(lP,0)] .ret))))),268483647,5⟩
def aQs:CF:=⟨[.t p5],(S [IM] [(p5,0)] (.seq (S [o6] [(p6,0)] (.block 0 (S [.v none (.ar .eql .o t6 (.c (.i .i32 65))) 0,o0] [(p7,0)] (.cond t7 (S [o1,o5,lM,o0] [(p5,0)] .ret) (S [.v none (.ar .eql .o t6 (.c (.i .i32 66))) 0,o0] [(eO,0)] (.cond t12 (S [o1,o5,PY,o0] [(p5,0)] .ret) (S [.v none (.ar .eql .o t6 (.c (.i .i32 67))) 0,o0] [(wA,0)] (.cond t17 (S [o1,o5,o77,o0] [(p5,0)] .ret) (S [.v none (.ar .eql .o t6 (.c (.i .i32 68))) 0,o0] [(PN,0)] (.cond t22 (S [o1,o5,o79,o0] [(p5,0)] .ret) .skip)))))))))) (S [IM] [(p5,0)] .ret))),2164851,2⟩
def aQr:CF:=⟨[.t p3],(S [pF] [(p3,0)] (.seq (S [o1,o72] [(p5,0)] (.cond t5 (S [.v none (.mv (.c (.s 1 45))) 0] [(p3,0)] .ret) .skip)) (S [o1,.c none aPe [x0],o0] [(p3,0)] .ret))),21,1⟩
def aQq:CF:=⟨[.t p3],(S [L8,pG] [(p2,1),(p3,0)] (.seq (S [Z0,o2] [(p5,0)] (.block 0 (S [.v none (.ar .eql .o t5 (.c (.i .i64 1))) 0,o0] [(p6,0)] (.cond t6 (S [.v none (.fa 6 t2) 0,o2,.v none (.fa 7 t2) 0,o2,.v none (.fa 8 t2) 0,o2,.v none (.fa 9 t2) 0,o2,.v none (.fa 10 t2) 0,o2,.e none (.nF 3 1 5 [(.i .i64 0),(.i .i64 0),(.i .i64 0),(.i .i64 0),(.i .i64 0)] [(0,1,x8),(1,1,x6),(2,1,x4),(3,1,x2),(4,1,x0)]),o0] [(p3,0)] .ret) (S [.v none (.ar .eql .o t5 (.c (.i .i64 2))) 0,o0] [(I0,0)] (.cond t19 (S [.v none (.fa 6 t2) 0,o2,.v none (.fa 8 t2) 0,o2,.v none (.fa 9 t2) 0,o2,.e none (.nF 3 1 3 [(.i .i64 0),(.i .i64 0),(.i .i64 0)] [(0,1,x4),(1,1,x2),(2,1,x0)]),o0] [(p3,0)] .ret) (S [.v none (.ar .eql .o t5 (.c (.i .i64 4))) 0,o0] [(p28,0)] (.cond t28 (S [.v none (.fa 9 t2) 0,o2,aDl,o0] [(p3,0)] .ret) .skip)))))))) (S [pG] [(p3,0)] .ret))),134479927,1⟩
def aQp:CF:=⟨[],(S [o1,o16,o0] [(p3,0)] (.ops [o1,iY,iY,VR,.c none aPd [x0],.c none aCf [x4,(.c (.i .i64 0)),x3,x0]] [])),5,1⟩
def aQo:CF:=⟨[],(S [.c none aPc [],.e none (.al 364 OB),.e none (.st 12 x0 x1)] [(p3,1)] (.seq .skip (.block 0 (.loop (.block 1 (S [kL] [(p4,0)] (.seq (S [PX] [(p5,0)] (.block 2 (.loop (.seq (S [nJ,o1,o5,uG,o2,o16,.v none (.ar .lss .o x5 x0) 0] [(nR,0)] (.cond xZ .skip (.exit 2))) (.seq (.block 3 (S [o1,o5,uG,o2,nJ,.v none (.ia 6 x1 x0) 0,WC,VV,o83] [(p6,1)] (.seq (.seq (.fZ [0,1,2,3,4,5,6,7,8,9,10,11,12,13,14,15,16] [o1,o5,lM,o2,nJ,B2,o2,yH,o0,.v (some (.l 0,true)) (.fa 0 t6) 0,VO,.v (some (.l 2,true)) (.yJ 12 1 t3 x0) 0,PW,VX,.v (some (.l 5,true)) (.eH 6 t6) 0,.cv (some (.l 6,true)) x2 [x1,x0],M7] [(p40,0)]) (.cond t40 (.ops [o1,o5,lM,o2,nJ,B2,.e none (.st 1 x0 (.c (.b true))),VP] [(p4,0)]) .skip)) (S [o1,o5,lM,o2,nJ,B2,o2,o0,o32,.v (some (.l 1,true)) (.eH 6 t6) 0,.c (some (.l 2,true)) aPb [x1,x0],VQ] [(p58,0)] (.cond t58 (.ops [VP] [(p4,0)]) .skip))))) (.ops [nJ,SK,o0] [(p5,0)])))))) (S [kM,yH] [(p60,0)] (.cond t60 (.exit 0) .skip))))))))),720576490135101501,1⟩
def aQn:CF:=⟨[.t p6],(S [o3] [(p6,0)] (.seq (S [.v none (.ld t2) 0,uF] [(p9,0)] (.cond t9 (S [o3] [(p6,0)] .ret) .skip)) (S [o3] [(p7,0)] (S [.v none (.ld t3) 0,K5,o1,.c none aCm [x2,x1,x0],o0,o7,o8,o4,.e none (.st 1 t2 x1)] [(p7,1)] (S [kJ,o0] [(p6,0)] .ret))))),367,4⟩
def aQm:CF:=⟨[.t p3],(S [pF] [(p3,0)] (S [o1,.c none aPa [x0],o0] [(p3,0)] .ret)),5,1⟩
def aQl:CF:=⟨[],(S [VP] [(p9,0)] (S [VP] [(eZ,0)] (.block 0 (.loop (.block 1 (S [iY,o6,o90,o0] [(hO,0)] (.seq (S [uU,.v none (.ar .leq .o x0 (.c (.i .i64 12))) 0] [(HB,0)] (.cond t24 (S [o1,o6,iY,.c none aO9 [x2,x1,x0]] [] .ret) .skip)) (.seq (S [kM,SM] [(p30,0)] (.cond t30 (S [o1,o6,iY,.c none aO8 [x2,x1,x0]] [] .ret) .skip)) (.seq (S [BN,yH] [(p36,0)] (.cond t36 (S [o1,o6,iY,.c none aO7 [x2,x1,x0]] [] (.ops [kM,A8,o0] [(p4,0)])) .skip)) (S [o1,o6,iY,.c none aO6 [x2,x1,x0],o0,o7,o8,o4,o4] [(eO,1),(lP,0)] (.seq (S [VT,.v none (.ar .eql .o x0 (.c (.i .i64 2))) 0] [(p51,0)] (.cond t51 (S [o1,o6,iY,.c none aO5 [x2,x1,x0]] [] (S [iY,A8,rN,o6,o90,.v none (.ar .sub .o x3 x0) 0,o0] [(eO,0)] (.ops [PX] [(lP,0)]))) .skip)) (.seq (S [BN,o0,.v (some (.l 0,true)) (.mv pL) 0,.v none (.pick x1 x0 (.c (.b false))) 0,o0,.v (some (.l 0,true)) (.mv GZ) 0,.v (some (.l 1,true)) (.ar .eql .o x0 (.c (.i .i64 1))) 0,o92] [(p69,0)] (.cond t69 (S [o1,o6,iY,.c none aO4 [x2,x1,x0]] [(p73,0)] (.cond t73 .ret .skip)) .skip)) (.seq (.seq (.fZ [0,1,2,3,4,5,6,7,8,9,10,11,12,13,14] [o6,.v none (.ar .gtr .o x0 (.c (.i .i64 0))) 0,o0,o32,.v (some (.l 1,true)) (.mv t2) 0,.v (some (.l 2,true)) (.ar .sub .o x0 (.c (.i .i64 1))) 0,.v (some (.l 3,true)) (.ia 1 x2 x0) 0,o93,.v (some (.l 5,true)) (.mv t1) 0,.v (some (.l 6,true)) (.mv t12) 0,.v (some (.l 7,true)) (.ia 1 x1 x0) 0,.v (some (.l 8,true)) (.ld x0) 0,.c (some (.l 9,true)) aH3 [x4,x0],.v (some (.l 10,true)) (.not x0) 0,.v none (.pick x11 x0 (.c (.b false))) 0] [(p88,0)]) (.cond t88 (S [o1,o6,iY,rN,.c none aO3 [x3,x2,x1,x0],o0] [(nR,0)] (S [K0,o0] [(p2,0)] (.exit 1))) .skip)) (S [o1,o6,iY,rN,.c none aO2 [x3,x2,x1,x0],o0,o7,o8,o4,o4] [(oK,1),(p16,0)] (S [zO,o0] [(eZ,0)] (S [SI,o6,o90,iY,SI,o90,o75,o4] [(wA,1),(II,0)] (S [uU,.v none (.ar .quo .o x0 (.c (.i .i64 8))) 0,o0] [(I0,0)] (S [.v none (.mv t17) 0,.v none (.mv SH) 0,aDc] [(yE,0)] (.cond aHi (S [.v none (.mv t17) 0,.v none (.mv t19) 0,.v none (.ar .geq .o x1 x0) 0,o0] [(p9,0)] (S [o1,o6,SI,kM,.c none aCf [x3,x2,x1,x0]] [] (.ops [SI,SK,o0] [(p2,0)]))) (S [.v none (.mv SH) 0,.v none (.mv t19) 0,.v none (.ar .geq .o x1 x0) 0,o0] [(p9,0)] (S [o1,SI,SK,iY,kM,.c none aCf [x4,x2,x1,x0]] [] (.ops [SI,o0] [(p3,0)])))))))))))))))))))))),10384593871817177683247510831234831,4⟩
def aQk:CF:=⟨[.t p3],(S [o3] [(p3,0)] (.seq (.cond (.c (.b false)) (S [o1,.v none (.cvi .u32 x0) 0,.c none aO1 [x0],o0] [(p3,0)] .ret) .skip) (S [o1,.c none yE [x0],o0] [(p3,0)] .ret))),5,1⟩
def aQj:CF:=⟨[.c p1 12 true],(S [.e none (.al 364 OB)] [(p1,0)] (S [.v none (.fW OB [(0,1,(.c (.f aH2 [] []))),(1,1,(.c (.f aO0 [] []))),(2,1,(.c (.f aH2 [] []))),(3,1,(.c (.f aCe [] []))),(4,1,(.c (.f aOz [] []))),(5,1,(.c (.f aCe [] []))),(6,1,(.c (.f aH1 [] []))),(7,1,(.c (.f aOy [] []))),(8,1,(.c (.f aH0 [] []))),(9,1,(.c (.f aCe [] []))),(10,1,(.c (.f aOx [] []))),(11,1,(.c (.f aH0 [] [])))]) 0,.e none (.st 12 t1 x0)] [] .ret)),1,0⟩
def aQi:CF:=⟨[.t p5],(S [Y8,kL] [(p4,1),(p5,0)] (.seq (.block 0 (S [B1,o2,.v none (.ar .eql .o x0 (.c (.i .i64 11))) 0,o0] [(p8,0)] (.cond t8 (S [o1,J6,o2,aCz,o0] [(p6,0)] (S [o1,o87,o2,aCz,o0] [(p7,0)] (S [nK,o0,L5,.v none (.pick x1 (.c (.b true)) x0) 0,o0] [(p5,0)] .ret))) (.seq (.fZ [0,1,2,3,4,5,6,7,8,9,10,11,12,13] [B1,o2,.v none (.ar .eql .o x0 (.c (.i .i64 10))) 0,o0,o32,J7,o71,PW,.v (some (.l 4,true)) (.fa 3 t4) 0,K9,aCy,VU,.v none (.pick x8 x0 (.c (.b false))) 0,o0] [(HB,0)]) (.cond t24 (S [o1,.v none (.fa 5 t4) 0,o2,aCz,o0] [(p5,0)] .ret) .skip))))) (S [kL] [(p5,0)] .ret))),8388859,2⟩
def aQh:CF:=⟨[.t p3],(S [pF] [(p3,0)] (S [o1,.c none aOv [x0,(.c (.i .i64 10))],o0] [(p3,0)] .ret)),5,1⟩
def aQg:CF:=⟨[],(S [o6,SK,o0] [(p7,0)] (.block 0 (.loop (.seq (S [kJ,iY,aDc] [(lP,0)] (.cond GZ .skip (.exit 0))) (.seq (.block 1 (S [kJ,o0] [(p8,0)] (.block 2 (.loop (.seq (.seq (.fZ [0,1,2,3,4,5,6,7,8,9,10,11,12,13,14] [kK,o6,.v none (.ar .gtr .o x1 x0) 0,o0,o32,.v (some (.l 1,true)) (.mv t8) 0,.v (some (.l 2,true)) (.ia 1 x1 x0) 0,PW,VX,.v (some (.l 5,true)) (.mv t8) 0,.v (some (.l 6,true)) (.ar .sub .o x0 (.c (.i .i64 1))) 0,.v (some (.l 7,true)) (.ia 1 x2 x0) 0,.v (some (.l 8,true)) (.ld x0) 0,.c (some (.l 9,true)) aH3 [x5,x0],.v none (.pick x10 x0 (.c (.b false))) 0] [(p31,0)]) (.cond t31 .skip (.exit 2))) (.seq (.block 3 (.fZ [0,1,2,3,4,5,6,7,8,9,10,11,12,13,14,15,16,17] [o1,kK,o1,kK,A8,o1,kK,A8,o88,o2,o1,kK,B2,o2,.v none (.ia 1 x13 x12) 0,.e none (.st 1 x0 x5),.v none (.ia 1 x13 x11) 0,.e none (.st 1 x0 x3)] [])) (.ops [kK,A8,o0] [(p8,0)]))))))) (.ops [kJ,SK,o0] [(p7,0)])))))),1073746119,3⟩
def aQf:CF:=⟨[.t p5],(S [Y8,kL] [(p5,0)] (S [kL] [(p5,0)] .ret)),19,2⟩
def aQe:CF:=⟨[.t p5],(S [Y8,kL] [(p5,0)] (S [VP] [(p5,0)] .ret)),19,2⟩
def aQd:CF:=⟨[.t p5],(S [Y8,kL] [(p4,1),(p5,0)] (.seq (.fZ [0,1,2,3,4,5,6,7,8] [o1,o5,lM,o2,J6,o2,o88,o2,o0] [(p5,0)]) .ret)),27,2⟩
def aQc:CF:=⟨[.t p5],(S [Y8,kL] [(p4,1),(p5,0)] (.seq (.seq (.fZ [0,1,2,3,4,5,6,7,8,9,10,11,12,13,14,15,16,17,18,19,20,21,22,23,24,25,26,27,28,29] [o1,o5,lM,o2,J6,o2,o88,o2,o0,o32,.v (some (.l 1,true)) (.fa 4 t4) 0,aC4,.c (some (.l 3,true)) aHz [x2,x0],K4,o0,J9,aCx,aCw,WA,.v (some (.l 4,false)) (.fa 4 t4) 0,K8,.v (some (.l 6,false)) (.ia 1 x2 x0) 0,aCv,.v (some (.l 8,false)) (.mv x0) 0,o32,.v (some (.l 1,true)) (.fa 3 t4) 0,aC4,.c (some (.l 3,true)) aHz [x2,x0],.v (some (.l 13,false)) (.pick x4 x0 (.c (.b false))) 0,.v none (.pick x14 (.c (.b true)) x0) 0] [(p35,0)]) (.cond t35 (S [VP] [(p5,0)] .ret) .skip)) (.seq (.fZ [0,1,2,3,4,5,6,7,8,9,10,11,12,13,14,15,16,17,18,19,20,21,22,23,24,25,26,27,28,29,30,31,32,33,34,35,36,37] [o1,o5,.v none (.fa 5 x0) 0,uG,o2,o0,o32,J7,o71,PW,VX,.v (some (.l 5,true)) (.nc x0) 0,.v (some (.l 6,true)) (.fa 2 x0) 0,VU,.v (some (.l 8,true)) (.fa 3 t4) 0,.v (some (.l 9,true)) (.ld x0) 0,.v (some (.l 10,true)) (.ia 1 x2 x0) 0,.v (some (.l 11,true)) (.ld x0) 0,.v (some (.l 12,true)) (.ia 1 x8 x0) 0,.v (some (.l 13,true)) (.ld x0) 0,.v none (.pick x14 x0 (.c (.b false))) 0,o0,o32,J7,o71,PW,VX,.v (some (.l 5,true)) (.nc x0) 0,.v (some (.l 6,true)) (.fa 2 x0) 0,VU,.v (some (.l 8,true)) (.fa 4 t4) 0,.v (some (.l 9,true)) (.ld x0) 0,.v (some (.l 10,true)) (.ia 1 x2 x0) 0,.v (some (.l 11,true)) (.ld x0) 0,.v (some (.l 12,true)) (.ia 1 x8 x0) 0,.v (some (.l 13,true)) (.ld x0) 0,.v none (.pick x14 x0 (.c (.b false))) 0,o0] [(p5,0)]) .ret))),17179869211,2⟩
def aQb:CF:=⟨[.t p5],(S [Y8,kL] [(p4,1),(p5,0)] (.seq (.fZ [0,1,2,3,4,5,6,7,8,9,10,11,12,13,14,15,16,17,18,19,20,21,22,23,24,25,26,27,28,29,30,31,32,33,34] [o1,o5,lM,o2,o87,o2,o88,o2,o0,o32,J7,o71,PW,.v (some (.l 4,true)) (.fa 3 t4) 0,K9,aCy,VU,.v (some (.l 8,true)) (.mv x0) 0,J9,aCx,aCw,WA,.v (some (.l 4,false)) (.mv t1) 0,.v (some (.l 5,false)) (.nc x0) 0,.v (some (.l 6,false)) (.fa 3 x0) 0,aCv,.v (some (.l 8,false)) (.fa 3 t4) 0,.v (some (.l 9,false)) (.ld x0) 0,.v (some (.l 10,false)) (.ia 1 x2 x0) 0,.v (some (.l 11,false)) (.ld x0) 0,.v (some (.l 12,false)) (.ia 1 x8 x0) 0,.v (some (.l 13,false)) (.ld x0) 0,.v (some (.l 23,true)) (.pick x14 (.c (.b true)) x0) 0,.v none (.pick x24 x0 (.c (.b false))) 0,o0] [(p5,0)]) .ret)),27,2⟩
def aQa:CF:=⟨[.t p5],(S [Y8,kL] [(p4,1),(p5,0)] (.seq (.fZ [0,1,2,3,4,5,6,7,8,9,10,11,12,13,14,15,16] [o1,o5,lM,o2,o1,o5,o79,o2,J6,o2,o87,o2,o99,.v none (.lk .u16 (.i .i64 0) x5 x0 false) 0,.v none (.ia 1 x10 x0) 0,o2,o0] [(p6,0)]) (.seq (.fZ [0,1,2,3,4,5,6,7,8,9,10,11,12,13,14,15,16,17,18,19,20,21,22,23] [o1,.v none (.eH 6 t4) 0,.c none aH1 [x1,x0],o0,.v (some (.l 0,false)) (.mv t6) 0,.v (some (.l 1,false)) (.mv x0) 0,o32,J7,.v (some (.l 2,true)) (.fa 5 x0) 0,.v (some (.l 3,true)) (.fa 1 x0) 0,o93,.v (some (.l 5,true)) (.mv x0) 0,J9,aCx,aCw,WA,.v (some (.l 4,false)) (.fa 3 t4) 0,K8,.v (some (.l 6,false)) (.ia 1 x2 x0) 0,aCv,.v (some (.l 14,true)) (.pick x8 (.c (.b true)) x0) 0,.v (some (.l 17,false)) (.pick x15 x0 (.c (.b false))) 0,.v none (.pick x18 (.c (.b true)) x0) 0,o0] [(p5,0)]) .ret))),59,2⟩
def aP9:CF:=⟨[.t p5],(S [Y8,kL] [(p4,1),(p5,0)] (.seq (.fZ [0,1,2,3,4,5,6,7,8,9,10,11,12,13,14,15,16,17,18] [o1,o5,lM,o2,J6,o2,o88,o2,o0,o32,J7,o71,PW,.v (some (.l 4,true)) (.fa 4 t4) 0,K9,aCy,VU,.v none (.pick x8 x0 (.c (.b false))) 0,o0] [(p5,0)]) .ret)),27,2⟩
def aP8:CF:=⟨[.t p5],(S [pF] [(p5,0)] (.seq (S [o6,.v none (.ar .eql .o x0 (.c (.i .i64 10))) 0] [(eO,0)] (.cond t12 (.seq (S [o1,.v none (.ar .leq .o (.c (.i .i64 0)) x0) 0,o0,o32,.v (some (.l 1,true)) (.ar .lss .o x0 (.c (.i .i64 100))) 0,o92] [(II,0)] (.cond SH (S [o1,.c none aOu [x0],o0] [(p5,0)] .ret) .skip)) (S [.e none (.al 412 aGk)] [(p6,0)] (S [o1,VR,o0] [(p7,0)] (.seq (S [o1,o72] [(HB,0)] (.cond t24 (.ops [kJ,o86,o0] [(p7,0)]) .skip)) (S [kJ,.c none aOt [x0],o0] [(p8,0)] (S [kK,aCu,.v none (.sla 24 1 t6 (some (.c (.i .i64 1))) (some x0)) 0,kJ,.c none aOs [x1,x0]] [] (.seq (S [o1,o72] [(p35,0)] (.cond t35 (S [.v none (.yJ 24 1 t6 (.c (.i .i64 0))) 0,.e none (.st 1 x0 (.c (.i .u8 45)))] [] (S [kK,aCu,.v none (.sla 24 1 t6 none (some x0)) 0,VY,o0] [(p5,0)] .ret)) .skip)) (S [kK,aCu,.v none (.sla 24 1 t6 (some (.c (.i .i64 1))) (some x0)) 0,VY,o0] [(p5,0)] .ret)))))))) .skip)) (S [o1,VR,o6,o1,o72,.c none aOr [(.c .sn),x3,x2,x0,(.c (.b false))],o0,o7,o8,o4,o4] [(eZ,0)] (S [nI,o0] [(p5,0)] .ret)))),17188391667,2⟩
def aP7:CF:=⟨[.t p3],(S [pF] [(p3,0)] (.seq (S [o1,.v none (.ar .lss .o x0 (.c (.i .i64 10))) 0] [(p5,0)] (.cond t5 (S [o1,o1,SK,.v none (.sls (.c (.s 36 93621433862240650313326231306435056417042768930449266319129758623240466503934737414522)) (some x2) (some x0)) 0,o0] [(p3,0)] .ret) .skip)) (S [o1,.v none (.ar .mul .o x0 (.c (.i .i64 2))) 0,o1,.v none (.ar .mul .o x0 (.c (.i .i64 2))) 0,.v none (.ar .add .o x0 (.c (.i .i64 2))) 0,.v none (.sls (.c (.s 200 8369396053099643259884660439900312228746471110943504458504829912206407100469475510520505676855750014530596077689858408204562721349408824591789441711103775826291439126061900675989976254244761425382494394669896706626295868329681710377411642562040512013377776180902291979747008038411282346274188424097310996521951660972735479027990947060043115083917949168200323041593656569302669535377774123378085539195783572932112166539323561441937920580889744256865042652178519653545620815178381625)) (some x3) (some x0)) 0,o0] [(p3,0)] .ret))),21,1⟩
def fs:T CF:=(.n (.n (.n (.n (.n (.n (.n .e (some k63) .e) (some k31) .e) none (.n (.n .e none (.n .e (some aQi) .e)) (some k47) (.n (.n .e (some aQp) .e) (some aRi) .e))) none (.n (.n (.n (.n .e (some aQ4) .e) (some k71) (.n .e (some aQm) .e)) (some k39) (.n (.n .e (some aQs) .e) (some aRp) (.n .e (some aQe) .e))) (some k23) (.n (.n (.n .e (some aQw) .e) (some k87) .e) none .e))) none (.n (.n (.n (.n .e (some k67) .e) none (.n .e (some k99) .e)) (some k19) (.n (.n .e (some k83) .e) (some k51) (.n .e (some aRe) .e))) none (.n (.n (.n (.n .e (some aQ1) .e) (some k75) (.n .e (some aQk) .e)) (some k43) (.n .e (some aRm) (.n .e (some aQa) .e))) (some k27) (.n (.n .e none (.n .e (some aQh) .e)) (some k59) .e)))) none (.n (.n (.n (.n (.n .e (some k65) .e) none .e) (some k17) (.n (.n (.n (.n .e (some aP7) .e) (some aQz) .e) none .e) (some k49) (.n .e (some aRg) .e))) none (.n (.n (.n (.n .e (some aQ2) .e) none .e) (some k41) (.n (.n .e (some aQq) .e) (some aRo) (.n .e (some aQc) .e))) none (.n (.n (.n .e (some aQu) .e) (some k89) .e) (some k57) (.n .e (some aRb) .e)))) none (.n (.n (.n (.n (.n .e (some aQ6) .e) none .e) (some k37) (.n .e (some aRq) .e)) (some k21) (.n (.n .e (some k85) .e) (some k53) .e)) (some k13) (.n (.n .e (some k45) (.n .e (some aRk) .e)) (some k29) (.n .e (some k61) .e))))) none (.n (.n (.n (.n (.n (.n (.n (.n .e (some aP8) .e) none .e) (some k64) .e) none .e) (some k16) (.n (.n (.n .e (some aQ0) .e) none .e) (some k48) (.n .e (some aRh) .e))) none (.n (.n (.n (.n .e (some aQ3) .e) (some k72) .e) (some k40) (.n (.n .e (some aQr) .e) none (.n .e (some aQd) .e))) (some k24) (.n (.n (.n .e (some aQv) .e) (some k88) .e) (some k56) (.n .e (some aRc) .e)))) none (.n (.n (.n (.n (.n .e (some aQ7) .e) none .e) (some k36) (.n .e (some aEl) .e)) none (.n (.n (.n .e (some aQy) .e) (some k84) .e) (some k52) (.n (.n .e (some aQn) .e) none .e))) (some k12) (.n (.n (.n .e (some k76) .e) (some k44) (.n .e (some aRl) (.n .e (some aP9) .e))) none (.n (.n .e none (.n .e (some aQg) .e)) (some k60) .e)))) none (.n (.n (.n (.n (.n (.n .e (some aQ9) .e) (some k66) .e) (some k34) .e) (some k18) (.n (.n .e (some k82) .e) (some k50) (.n (.n .e (some aQo) .e) (some aRf) .e))) none (.n (.n (.n .e (some k74) (.n .e (some aQl) .e)) (some k42) (.n .e (some aRn) (.n .e (some aQb) .e))) (some k26) (.n (.n (.n .e (some aQt) .e) none .e) (some k58) .e))) (some k6) (.n (.n (.n (.n (.n .e (some aQ5) .e) none .e) none (.n .e none (.n .e (some aQf) .e))) (some k22) (.n (.n (.n .e (some aQx) .e) (some k86) .e) (some k54) .e)) none (.n (.n (.n .e none (.n .e (some aQj) .e)) (some k46) (.n .e (some aRj) .e)) none (.n .e (some k62) .e))))))
end
noncomputable section
abbrev BI:=List SV→T Ob→Pos→RF
def er (n:Nat):SV:=.i .i64 (.ofNat n)
def codeOf (kind sl sv n a b c:Nat):Nat:=Nat.add kind (Nat.mul 16 (Nat.add a (Nat.mul 2097152 (Nat.add b (Nat.mul 2097152 (Nat.add c (Nat.mul 2097152 (Nat.add n (Nat.mul 18446744073709551616 (Nat.add sl (Nat.mul 1024 sv)))))))))))
def fN {R:Type} (n:Nat) (k:Nat→R):R:=Nat.rec (k 0) (fun m _=>k (Nat.succ m)) n
def tX (c:Nat) (l:List Nat) (n:Nat):Nat:=List.rec (motive:=fun _=>Nat→Nat) (fun _=>0) (fun x _ ih n=>bif Nat.beq x c then n else ih (Nat.pred n)) l n
def lH (n a:Nat):Bool:=and (Nat.blt 0 a) (Nat.ble a n)
def eF (m kind sl n a b c:Nat):Bool:=match kind with
 | 1=>and (Nat.ble sl 1000) (and (Nat.beq n 0) (and (Nat.beq a 0) (and (Nat.beq b 0) (Nat.beq c 0))))
 | 2=>and (Nat.beq sl 0) (and (Nat.beq a 0) (and (Nat.beq b 0) (Nat.beq c 0)))
 | 3 | 5=>and (Nat.beq sl 0) (and (Nat.beq n 0) (and (lH m a) (and (Nat.beq b 0) (Nat.beq c 0))))
 | 4=>and (Nat.beq sl 0) (and (Nat.beq n 0) (and (lH m a) (and (lH m b) (and (Nat.beq c 0) (Nat.ble a b)))))
 | 6 | 7 | 8 | 11=>and (Nat.beq sl 0) (and (Nat.beq n 0) (and (lH m a) (and (lH m b) (Nat.beq c 0))))
 | 9=>and (Nat.beq sl 0) (and (lH m a) (and (Nat.beq b 0) (Nat.beq c 0)))
 | 10=>and (Nat.beq sl 0) (and (lH m a) (and (lH m b) (lH m c)))
 | _=>false
structure PR where
 x:Nat
 e:Nat
 m:Nat
 rev:List Nat
def aCa (m:Nat) (rev:List Nat) (most:Nat) (kind sl sv n a b c:Nat):PR :=
 bif eF m kind sl n a b c then fN (codeOf kind sl sv n a b c) fun cd=>fN (tX cd rev m) fun x =>
  bif Nat.beq x 0 then (bif Nat.ble most m then ⟨0,4,m,rev⟩ else ⟨Nat.succ m,0,Nat.succ m,cd::rev⟩) else ⟨x,0,m,rev⟩
 else ⟨0,1,m,rev⟩
def aDw (c:Nat) (l:List Nat):Bool:=List.rec false (fun x _ ih=>bif Nat.beq x c then true else ih) l
def inF (c:Nat) (F:Option (List Nat)):Bool:=match F with
 | none=>true
 | some l=>aDw c l
def LF:BI:=fun vs me nx=>match vs with
 | [.p i 0,.a [.i .i64 (.ofNat kind),.s sl sv,.i .u64 (.ofNat n),.i .i64 (.ofNat a),.i .i64 (.ofNat b),.i .i64 (.ofNat c)]]=>match T.get i me with
  | some (.st m rev most F)=>bif and (Nat.blt n 18446744073709551616) (bif eF m kind sl n a b c then inF (codeOf kind sl sv n a b c) F else true) then PR.rec (fun x e m rev=>.ret (.t [er x,er e]) (T.put i (some (.st m rev most F)) me) nx) (aCa m rev most kind sl sv n a b c) else .no
  | _=>.no
 | _=>.no
def U9 (cd:Nat):SV :=
 fN (Nat.mod cd 16) fun kind=>fN (Nat.div cd 16) fun cd=>fN (Nat.mod cd 2097152) fun a=>fN (Nat.div cd 2097152) fun cd=>fN (Nat.mod cd 2097152) fun b=>fN (Nat.div cd 2097152) fun cd =>
 fN (Nat.mod cd 2097152) fun c=>fN (Nat.div cd 2097152) fun cd=>fN (Nat.mod cd 18446744073709551616) fun n=>fN (Nat.div cd 18446744073709551616) fun cd=>fN (Nat.mod cd 1024) fun sl=>fN (Nat.div cd 1024) fun sv =>
 .a [.i .i64 (.ofNat kind),.s sl sv,.i .u64 (.ofNat n),.i .i64 (.ofNat a),.i .i64 (.ofNat b),.i .i64 (.ofNat c)]
def tmZ:SV:=.a [.i .i64 0,.s 0 0,.i .u64 0,.i .i64 0,.i .i64 0,.i .i64 0]
def CG:BI:=fun vs me nx=>match vs with
 | [.p i 0,.i .i64 (.ofNat a)]=>match T.get i me with
  | some (.st m rev most _)=>bif lH m a then (match nth rev (Nat.sub m a) with
   | some cd=>bif Nat.beq cd 0 then .no else .ret (.t [U9 cd,.b true]) me nx
   | none=>.no) else .ret (.t [tmZ,.b false]) me nx
  | _=>.no
 | _=>.no
def P7:BI:=fun vs me nx=>match vs with
 | [.p i 0]=>match T.get i me with
  | some (.st m rev most _)=>.ret (er m) me nx
  | _=>.no
 | _=>.no
def ML:BI:=fun vs me nx=>match vs with
 | [.p i 0,.i .i64 (.ofNat a)]=>match T.get i me with
  | some (.st m rev most _)=>.ret (.b (lH m a)) me nx
  | _=>.no
 | _=>.no
def LT:BI:=fun vs me nx=>match vs with
 | [.i .i64 (.ofNat n)]=>bif (bif Nat.beq n 5000 then true else Nat.beq n 65536) then .ret (.t [.p (Pos.succ (Pos.succ (Pos.succ nx))) 0,er 0]) (T.put (Pos.succ (Pos.succ (Pos.succ nx))) (some (.st 0 [] n none)) me) (Pos.succ (Pos.succ (Pos.succ (Pos.succ nx)))) else .no
 | _=>.no
def uV:BI:=fun vs me nx=>match vs with
 | [.i .i64 (.ofNat e)]=>bif Nat.beq e 0 then .ret (.t []) me nx else .dL (er e) me nx
 | _=>.no
def uu (n:Nat):SV:=.i .u64 (.ofNat n)
def fdN (lo hi:Nat) (i:Pos) (o:Nat):List SV:=[uu lo,uu hi,.p i o,.pn,.pn]
def fdI (lo hi:Nat) (i:Pos) (o:Nat):List SV:=[uu lo,uu hi,.pn,.p i o,.pn]
def fdT (i:Pos) (o:Nat):List SV:=[uu 0,uu 0,.pn,.pn,.p i o]
def fd1 (i:Pos) (o:Nat):List SV:=fdN 1 4294967296 i o
def B7 (i:Pos) (o:Nat):List SV:=fdI 1 1048576 i o
def fieldsOf (k:Nat) (i:Pos) (o:Nat):Option (Nat × List SV):=match k with
 | 1=>some (8,app (fd1 i (Nat.add o 1)) (app (fdT i (Nat.add o 3)) (app (fdI 0 1 i (Nat.add o 4)) (app (B7 i (Nat.add o 6)) (app (B7 i (Nat.add o 7)) (app (B7 i (Nat.add o 8)) (app (B7 i (Nat.add o 9)) (B7 i (Nat.add o 10)))))))))
 | 2=>some (5,app (fd1 i (Nat.add o 1)) (app (fd1 i (Nat.add o 2)) (app (B7 i (Nat.add o 6)) (app (B7 i (Nat.add o 8)) (B7 i (Nat.add o 9))))))
 | 3=>some (2,app (fd1 i (Nat.add o 2)) (fdI 1 15 i (Nat.add o 5)))
 | 4=>some (4,app (fd1 i (Nat.add o 2)) (app (fdN 0 1000 i (Nat.add o 11)) (app (fdN 0 255 i (Nat.add o 12)) (B7 i (Nat.add o 9)))))
 | _=>none
def qM:BI:=fun vs me nx=>match vs with
 | [.p i o]=>match cellsOf me i with
  | some cs=>match nth cs o with
   | some (.i .i64 (.ofNat k))=>match fieldsOf k i o with
    | some (n,l)=>.ret (.sr nx n) (T.put nx (some (.r 188 5 l)) me) (Pos.succ nx)
    | none=>.ret .sn me nx
   | _=>.no
  | none=>.no
 | _=>.no
def NK:BI:=fun vs me nx=>match vs with
 | [.s n v,.i .u64 (.ofNat id),.i .i64 (.ofNat size)]=>bif and (and (Nat.ble 1 id) (Nat.ble id 4294967296)) (and (and (Nat.ble 1 n) (Nat.ble n size)) (Nat.ble size 1000)) then
   .ret (.t [.sr nx 1,er 0]) (T.put nx (some (.r 96 4 [.i .u64 (.ofNat id),er 0,er 1,.s n v])) me) (Pos.succ nx)
  else .no
 | _=>.no
def aEr (n v c:Nat):Int :=
 Nat.rec (motive:=fun _=>Nat→Int) (fun _=>.negSucc 0) (fun m ih i=>bif Nat.beq (Nat.mod (Nat.div v (Nat.pow 256 m)) 256) c then .ofNat i else ih (Nat.succ i)) n 0
def CD:BI:=fun vs me nx=>match vs with
 | [.s n v,.i .u8 (.ofNat c)]=>bif Nat.blt c 256 then .ret (.i .i64 (aEr n v c)) me nx else .no
 | _=>.no
def yC (bi:T BI) (n:Nat):CL:=Nat.rec (fun _ _ _ _=>.no) (fun _ ih f vs me nx=>Option.rec (Option.rec .no (fun cf=>runK ih cf vs me nx) (T.get f fs)) (fun b=>b vs me nx) (T.get f bi)) n
def Y2 (r:RF):Option SV:=match r with
 | .ret v _ _=>some v
 | _=>none
end
end EV
end Go.Proofs.YtadggjnohohedaaGreatDoor
