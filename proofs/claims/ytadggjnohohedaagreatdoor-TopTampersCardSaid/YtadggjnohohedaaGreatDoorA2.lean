/- TopTampers: for every input the call returns true; part A2 of the proof. -/
import Derived.Test.YtadggjnohohedaaGreatDoorA1
import Derived.Lib.BufferMore
import Derived.Laws.BytesArg
import Derived.ChangeKeysEq
import Derived.Laws.StructEq
import Derived.Lib.LazyBuf
import Derived.Laws.Slices
import Derived.Laws.Strings2
set_option linter.unusedVariables false
set_option linter.unusedSimpArgs false
set_option linter.unusedSectionVars false
namespace Go.Proofs.YtadggjnohohedaaGreatDoor
namespace EV
noncomputable section
open Go.RowKit
theorem Pos.nat_o (p:Pos):(Pos.o p).nat=2 * p.nat:=rfl
theorem Pos.nat_i (p:Pos):(Pos.i p).nat=2 * p.nat + 1:=rfl
theorem Pos.nat_pos:∀ (p:Pos),0 < p.nat
 | .h=>Nat.one_pos
 | .o p=>by have:=Pos.nat_pos p; rw [Pos.nat_o]; omega
 | .i p=>by rw [Pos.nat_i]; omega
theorem pinj:∀ {p q:Pos},p.nat=q.nat→p=q
 | .h,.h,_=>rfl
 | .h,.o q,h=>by have:=Pos.nat_pos q; rw [Pos.nat_o] at h; have:Pos.h.nat=1:=rfl; omega
 | .h,.i q,h=>by have:=Pos.nat_pos q; rw [Pos.nat_i] at h; have:Pos.h.nat=1:=rfl; omega
 | .o p,.h,h=>by have:=Pos.nat_pos p; rw [Pos.nat_o] at h; have:Pos.h.nat=1:=rfl; omega
 | .i p,.h,h=>by have:=Pos.nat_pos p; rw [Pos.nat_i] at h; have:Pos.h.nat=1:=rfl; omega
 | .o p,.o q,h=>by rw [Pos.nat_o,Pos.nat_o] at h; rw [pinj (p:=p) (q:=q) (by omega)]
 | .i p,.i q,h=>by rw [Pos.nat_i,Pos.nat_i] at h; rw [pinj (p:=p) (q:=q) (by omega)]
 | .o p,.i q,h=>by rw [Pos.nat_o,Pos.nat_i] at h; omega
 | .i p,.o q,h=>by rw [Pos.nat_o,Pos.nat_i] at h; omega
theorem Pos.nat_succ:∀ (p:Pos),p.succ.nat=p.nat + 1
 | .h=>rfl
 | .o p=>rfl
 | .i p=>by show 2 * p.succ.nat=2 * p.nat + 1 + 1; rw [Pos.nat_succ p]; omega
instance:DecidableEq Pos:=fun p q=>if h:p.nat=q.nat then .isTrue (pinj h) else .isFalse fun e=>h (by rw [e])
section
variable {α:Type}
def T.ents:T α→List (Pos × α)
 | .e=>[]
 | .n l v r=>(match v with | some x=>[(Pos.h,x)] | none=>[])++(l.ents.map fun q=>(Pos.o q.1,q.2))++(r.ents.map fun q=>(Pos.i q.1,q.2))
theorem T.get_same (x:Option α):∀ (p:Pos) (t:T α),T.get p (T.put p x t)=x
 | .h,.e=>rfl
 | .h,.n _ _ _=>rfl
 | .o p,.e=>T.get_same x p .e
 | .o p,.n l _ _=>T.get_same x p l
 | .i p,.e=>T.get_same x p .e
 | .i p,.n _ _ r=>T.get_same x p r
theorem T.get_e:∀ (p:Pos),T.get p (.e:T α)=none
 | .h=>rfl
 | .o _=>rfl
 | .i _=>rfl
theorem T.get_other (x:Option α):∀ (p q:Pos) (t:T α),q≠p→T.get q (T.put p x t)=T.get q t
 | .h,.h,_,h=>(h rfl).elim
 | .h,.o q,.e,_=>T.get_e q
 | .h,.i q,.e,_=>T.get_e q
 | .h,.o _,.n _ _ _,_=>rfl
 | .h,.i _,.n _ _ _,_=>rfl
 | .o p,.h,.e,_=>rfl
 | .o p,.h,.n _ _ _,_=>rfl
 | .o p,.o q,.e,h=>(T.get_other x p q .e (fun e=>h (by rw [e]))).trans (T.get_e q)
 | .o p,.o q,.n l _ _,h=>T.get_other x p q l (fun e=>h (by rw [e]))
 | .o p,.i q,.e,_=>T.get_e q
 | .o p,.i q,.n _ _ _,_=>rfl
 | .i p,.h,.e,_=>rfl
 | .i p,.h,.n _ _ _,_=>rfl
 | .i p,.i q,.e,h=>(T.get_other x p q .e (fun e=>h (by rw [e]))).trans (T.get_e q)
 | .i p,.i q,.n _ _ r,h=>T.get_other x p q r (fun e=>h (by rw [e]))
 | .i p,.o q,.e,_=>T.get_e q
 | .i p,.o q,.n _ _ _,_=>rfl
theorem T.ents_nil:∀ (p:Pos),(T.put p none (.e:T α)).ents=[]
 | .h=>rfl
 | .o p=>by show _++((T.put p none (.e:T α)).ents.map _)++_=_; rw [T.ents_nil p]; rfl
 | .i p=>by show _++_++((T.put p none (.e:T α)).ents.map _)=_; rw [T.ents_nil p]; rfl
theorem T.ents_put (x:α):∀ (p:Pos) (t:T α),(T.put p (some x) t).ents.Perm ((p,x)::(T.put p none t).ents)
 | .h,.e=>List.Perm.refl _
 | .h,.n l v r=>by show (([(Pos.h,x)]++_)++_).Perm ((Pos.h,x)::(([]++_)++_)); simp
 | .o p,.e=>by
  show (([]++(T.put p (some x) (.e:T α)).ents.map _)++[]).Perm ((Pos.o p,x)::(([]++(T.put p none (.e:T α)).ents.map _)++[]))
  simpa using (T.ents_put x p .e).map (fun q=>(Pos.o q.1,q.2))
 | .o p,.n l v r=>by
  have h:=(T.ents_put x p l).map (fun q=>(Pos.o q.1,q.2))
  simp only [List.map_cons] at h
  exact ((h.append_left _).append_right _).trans ((List.perm_middle).append_right _)
 | .i p,.e=>by
  show (([]++[])++(T.put p (some x) (.e:T α)).ents.map _).Perm ((Pos.i p,x)::(([]++[])++(T.put p none (.e:T α)).ents.map _))
  simpa using (T.ents_put x p .e).map (fun q=>(Pos.i q.1,q.2))
 | .i p,.n l v r=>by
  have h:=(T.ents_put x p r).map (fun q=>(Pos.i q.1,q.2))
  simp only [List.map_cons] at h
  exact (h.append_left _).trans List.perm_middle
theorem T.ents_get {x:α}:∀ {p:Pos} {t:T α},T.get p t=some x→t.ents.Perm ((p,x)::(T.put p none t).ents)
 | .h,.e,h=>by cases h
 | .h,.n l v r,h=>by
  have h':v=some x:=h
  subst h'
  show (([(Pos.h,x)]++_)++_).Perm ((Pos.h,x)::(([]++_)++_)); simp
 | .o p,.e,h=>by cases h
 | .i p,.e,h=>by cases h
 | .o p,.n l v r,h=>by
  have h:=(T.ents_get (p:=p) (t:=l) h).map (fun q=>(Pos.o q.1,q.2))
  simp only [List.map_cons] at h
  exact ((h.append_left _).append_right _).trans ((List.perm_middle).append_right _)
 | .i p,.n l v r,h=>by
  have h:=(T.ents_get (p:=p) (t:=r) h).map (fun q=>(Pos.i q.1,q.2))
  simp only [List.map_cons] at h
  exact (h.append_left _).trans List.perm_middle
theorem T.ents_none:∀ {p:Pos} {t:T α},T.get p t=none→(T.put p none t).ents=t.ents
 | p,.e,_=>T.ents_nil p
 | .h,.n l v r,h=>by have h':v=none:=h; subst h'; rfl
 | .o p,.n l v r,h=>by
  have:=T.ents_none (p:=p) (t:=l) h
  show _++((T.put p none l).ents.map _)++_=_
  rw [this]; rfl
 | .i p,.n l v r,h=>by
  have:=T.ents_none (p:=p) (t:=r) h
  show _++_++((T.put p none r).ents.map _)=_
  rw [this]; rfl
theorem T.mem_ents {x:α} {p:Pos} {t:T α} (h:(p,x)∈t.ents):T.get p t=some x:=by
 induction t generalizing p with
 | e=>cases h
 | n l v r ihl ihr =>
  rcases List.mem_append.1 h with h | h
  ·rcases List.mem_append.1 h with h | h
   ·cases v with
    | none=>cases h
    | some y=>simp at h; obtain ⟨rfl,rfl⟩:=h; rfl
   ·obtain ⟨q,hq,e⟩:=List.mem_map.1 h
    injection e with e1 e2; subst e1; subst e2
    exact ihl hq
  ·obtain ⟨q,hq,e⟩:=List.mem_map.1 h
   injection e with e1 e2; subst e1; subst e2
   exact ihr hq
end
structure G where
 rho:Pos→Option (Nat × Nat)
 w:Nat
 n:Nat
 hw:w < 256
 hn:n < 256
def G.modz (g:G) (m:Nat):Nat:=if m=0 then g.w % 7 else g.n % m
theorem G.modz_lt (g:G) (m:Nat):g.modz m < 256:=by
 unfold G.modz
 split
 ·have:=Nat.mod_lt g.w (show 0 < 7 by decide); omega
 ·have:=Nat.mod_le g.n m; have:=g.hn; omega
def byts:Nat→Nat→List UInt8
 | 0,_=>[]
 | n + 1,v=>byts n (v / 256)++[UInt8.ofNat (v % 256)]
def byt (n v:Nat):ByteArray:=⟨(byts n v).toArray⟩
def den0 (g:G):SV→Option Value
 | .i k n=>some (.int k n)
 | .b x=>some (.bool x)
 | .s n v=>if v < 256 ^ n then some (.string (byt n v)) else none
 | .p i o=>(g.rho i).map fun q=>.pointer (some ⟨q.1,o,none⟩)
 | .g b o=>some (.pointer (some ⟨b,o,none⟩))
 | .pn=>some (.pointer none)
 | .sl i o n c=>(g.rho i).map fun q=>.slice (some ⟨q.1,o,none⟩) n c
 | .sr i n=>(g.rho i).map fun q=>.slice (some ⟨q.1,0,none⟩) n q.2
 | .sn=>some (.slice none 0 0)
 | .m i=>(g.rho i).map fun q=>.map (some q.1)
 | .mn=>some (.map none)
 | .fn=>some .nilFunc
 | .ni=>some .nilIface
 | .w k a b=>if (a=7∨g.w % 7=a)∧(b=4∨g.w % 4=b) then some (.int k g.w) else none
 | .y k=>some (.int k g.n)
 | .z m d=>some (.int .i64 ((d + g.modz m:Nat):Int))
 | .q i=>(g.rho i).map fun q=>.int .i64 (q.1:Int)
 | _=>none
def dens (d:SV→Option Value):List SV→Option (List Value)
 | []=>some []
 | x::r=>match d x,dens d r with
  | some v,some vs=>some (v::vs)
  | _,_=>none
def den1 (g:G):SV→Option Value
 | .f fn us cs=>match dens (den0 g) us,dens (den0 g) cs with
  | some us,some cs=>some (.func (.func (fn.nat - 1)) us.toArray cs.toArray)
  | _,_=>none
 | v=>den0 g v
def den2 (g:G):SV→Option Value
 | .a l=>(dens (den1 g) l).map fun vs=>.agg vs.toArray
 | v=>den1 g v
def den (g:G):SV→Option Value
 | .t l=>(dens (den2 g) l).map fun vs=>.tuple vs.toArray
 | v=>den2 g v
def G.le (g g':G):Prop:=g'.w=g.w∧g'.n=g.n∧∀ i q,g.rho i=some q→g'.rho i=some q
def G.fresh (g:G) (nx:Pos):Prop:=∀ i,nx.nat≤i.nat→g.rho i=none
def G.ext (g g':G) (nx:Pos):Prop:=g'.w=g.w∧g'.n=g.n∧∀ i,i.nat < nx.nat→g'.rho i=g.rho i
def G.set (g:G) (i:Pos) (q:Nat × Nat):G:={ g with rho:=fun j=>if j=i then some q else g.rho j }
section
variable {g g' g'':G} {nx nx':Pos}
theorem G.le.refl (g:G):g.le g:=⟨rfl,rfl,fun _ _ h=>h⟩
theorem G.le.trans (h:g.le g') (h':g'.le g''):g.le g'':=⟨h'.1.trans h.1,h'.2.1.trans h.2.1,fun i q e=>h'.2.2 i q (h.2.2 i q e)⟩
theorem G.ext.refl (g:G) (nx:Pos):g.ext g nx:=⟨rfl,rfl,fun _ _=>rfl⟩
theorem G.ext.trans (h:g.ext g' nx) (h':g'.ext g'' nx') (hn:nx.nat≤nx'.nat):g.ext g'' nx:=⟨h'.1.trans h.1,h'.2.1.trans h.2.1,fun i hi=>(h'.2.2 i (Nat.lt_of_lt_of_le hi hn)).trans (h.2.2 i hi)⟩
theorem G.ext.le (h:g.ext g' nx) (hf:g.fresh nx):g.le g':=⟨h.1,h.2.1,fun i q e=>by
 rcases Nat.lt_or_ge i.nat nx.nat with hl | hl
 ·rw [h.2.2 i hl]; exact e
 ·rw [hf i hl] at e; cases e⟩
theorem G.set_ext (g:G) (nx:Pos) (q:Nat × Nat):g.ext (g.set nx q) nx:=⟨rfl,rfl,fun i hi=>by
 show (if i=nx then some q else g.rho i)=_
 rw [if_neg (fun e=>by subst e; omega)]⟩
theorem G.set_fresh (hf:g.fresh nx) (q:Nat × Nat):(g.set nx q).fresh nx.succ:=fun i hi=>by
 rw [Pos.nat_succ] at hi
 show (if i=nx then some q else g.rho i)=_
 rw [if_neg (fun e=>by subst e; omega)]
 exact hf i (by omega)
theorem G.set_at (g:G) (nx:Pos) (q:Nat × Nat):(g.set nx q).rho nx=some q:=if_pos rfl
theorem G.fresh.mono (h:g.fresh nx) (hn:nx.nat≤nx'.nat):g.fresh nx':=fun i hi=>h i (Nat.le_trans hn hi)
theorem dens_mono {d d':SV→Option Value} (h:∀ x v,d x=some v→d' x=some v):∀ {l:List SV} {vs:List Value},dens d l=some vs→dens d' l=some vs
 | [],vs,e=>e
 | x::r,vs,e=>by
  simp only [dens] at e ⊢
  cases h1:d x with
  | none=>simp [h1] at e
  | some v =>
   cases h2:dens d r with
   | none=>simp [h1,h2] at e
   | some us=>rw [h x v h1,dens_mono h h2]; simpa [h1,h2] using e
theorem den0_mono (h:g.le g') (x:SV) (v:Value) (e:den0 g x=some v):den0 g' x=some v:=by
 obtain ⟨h1,h2,h3⟩:=h
 cases x with
 | p i o=>simp only [den0] at e ⊢; cases hr:g.rho i with
  | none=>simp [hr] at e
  | some q=>rw [hr] at e; rw [h3 i q hr]; exact e
 | sl i o n c=>simp only [den0] at e ⊢; cases hr:g.rho i with
  | none=>simp [hr] at e
  | some q=>rw [hr] at e; rw [h3 i q hr]; exact e
 | sr i n=>simp only [den0] at e ⊢; cases hr:g.rho i with
  | none=>simp [hr] at e
  | some q=>rw [hr] at e; rw [h3 i q hr]; exact e
 | m i=>simp only [den0] at e ⊢; cases hr:g.rho i with
  | none=>simp [hr] at e
  | some q=>rw [hr] at e; rw [h3 i q hr]; exact e
 | q i=>simp only [den0] at e ⊢; cases hr:g.rho i with
  | none=>simp [hr] at e
  | some q=>rw [hr] at e; rw [h3 i q hr]; exact e
 | w k a b=>simp only [den0] at e ⊢; rw [h1]; exact e
 | y k=>simp only [den0] at e ⊢; rw [h2]; exact e
 | z m d=>simp only [den0,G.modz] at e ⊢; rw [h1,h2]; exact e
 | _=>exact e
theorem den1_mono (h:g.le g') (x:SV) (v:Value) (e:den1 g x=some v):den1 g' x=some v:=by
 cases x with
 | f fn us cs =>
  simp only [den1] at e ⊢
  cases h1:dens (den0 g) us with
  | none=>simp [h1] at e
  | some us' =>
   cases h2:dens (den0 g) cs with
   | none=>simp [h1,h2] at e
   | some cs'=>rw [dens_mono (den0_mono h) h1,dens_mono (den0_mono h) h2]; simpa [h1,h2] using e
 | _=>simp only [den1] at e ⊢; exact den0_mono h _ v e
theorem den2_mono (h:g.le g') (x:SV) (v:Value) (e:den2 g x=some v):den2 g' x=some v:=by
 cases x with
 | a l =>
  simp only [den2] at e ⊢
  cases h1:dens (den1 g) l with
  | none=>simp [h1] at e
  | some us=>rw [dens_mono (den1_mono h) h1]; simpa [h1] using e
 | _=>simp only [den2] at e ⊢; exact den1_mono h _ v e
theorem den_mono (h:g.le g') (x:SV) (v:Value) (e:den g x=some v):den g' x=some v:=by
 cases x with
 | t l =>
  simp only [den] at e ⊢
  cases h1:dens (den2 g) l with
  | none=>simp [h1] at e
  | some us=>rw [dens_mono (den2_mono h) h1]; simpa [h1] using e
 | _=>simp only [den] at e ⊢; exact den2_mono h _ v e
end
def codeT (t:Tm) (c:Nat):Prop:=∃ kind sl sv n a b d:Nat,t=⟨kind,byt sl sv,n,a,b,d⟩∧sv < 256 ^ sl∧kind < 16∧kind≠0∧a < 2097152∧b < 2097152∧d < 2097152∧n < 18446744073709551616∧sl < 1024 ∧
 c=kind + 16 * (a + 2097152 * (b + 2097152 * (d + 2097152 * (n + 18446744073709551616 * (sl + 1024 * sv)))))
inductive Codes (F:Option (List Nat)):List Nat→List Tm→Prop
 | nil:Codes F [] []
 | known {c t r l} (h:codeT t c) (hs:Codes F r l):Codes F (c::r) (t::l)
 | junk {t r l L} (hF:F=some L) (h:∀ c∈L,¬ codeT t c) (hs:Codes F r l):Codes F (0::r) (t::l)
def ienc (k:IntKind) (n:Int):Value:=bif EV.keq k .u16 then .agg #[.int .i64 (n.fdiv 4294967296),.int .i64 (n.fmod 4294967296)] else .int k n
theorem ienc_i {k:IntKind} (h:EV.keq k .u16=false) (n:Int):ienc k n=.int k n:=by unfold ienc; rw [h]; rfl
def kvDen (g:G):List (Int × SV)→Option (List (Int × Value))
 | []=>some []
 | (k,x)::r=>match den2 g x,kvDen g r with
  | some v,some vs=>some ((k,v)::vs)
  | _,_=>none
def sawn (n:Nat) (seen:Array Nat) (es:Array MapEntry):Prop:=match n with
 | 0=>seen=#[]
 | _=>∃ s,seen=(#[]:Array Nat).push s∧∀ e∈es.toList,e.born=s
def Mit (b c:Nat) (n:Nat) (k:IntKind) (kvs:List (Int × Value)):Thing where
 is W F:=(b≠c∧∃ es ck since seen c0,W.heap[b]?=some (.map es ck)∧W.heap[c]?=some (.mapIter (some b) since seen c0)∧Ents (ienc k) kvs es ck∧(∀ e∈es.toList,e.born < since)∧since≤c0∧c0=ck∧sawn n seen es)∧∀ x,F x↔(x=b∨x=c)
 lt W F h x hx:=by
  obtain ⟨⟨_,es,ck,since,seen,c0,h1,h2,_⟩,h3⟩:=h
  rcases (h3 x).1 hx with rfl | rfl
  ·rcases Nat.lt_or_ge x W.heap.size with h2 | h2
   ·exact h2
   ·rw [Array.getElem?_eq_none h2] at h1; cases h1
  ·rcases Nat.lt_or_ge x W.heap.size with h4 | h4
   ·exact h4
   ·rw [Array.getElem?_eq_none h4] at h2; cases h2
 keep W W' F h e:=by
  obtain ⟨⟨hn,es,ck,since,seen,c0,h1,h2,hr⟩,h3⟩:=h
  exact ⟨⟨hn,es,ck,since,seen,c0,(e b ((h3 b).2 (.inl rfl))).trans h1,(e c ((h3 c).2 (.inr rfl))).trans h2,hr⟩,h3⟩
def Men (b born:Nat) (k:IntKind) (n:Int) (kvs:List (Int × Value)):Thing where
 is W F:=(∃ es ck j u,W.heap[b]?=some (.map es ck)∧Ents (ienc k) kvs es ck∧lookAt n kvs 0=some (j,u)∧(es[j]?).map (·.born)=some born)∧∀ x,F x↔x=b
 lt W F h x hx:=by
  rw [(h.2 x).1 hx]
  obtain ⟨⟨es,ck,j,u,hb,_⟩,_⟩:=h
  rcases Nat.lt_or_ge b W.heap.size with h2 | h2
  ·exact h2
  ·rw [Array.getElem?_eq_none h2] at hb; cases hb
 keep W W' F h e:=⟨by obtain ⟨⟨es,ck,j,u,hb,h2⟩,h3⟩:=h; exact ⟨es,ck,j,u,(e b ((h3 b).2 rfl)).trans hb,h2⟩,h.2⟩
def Ro (b:Nat) (xs:List Value):Thing where
 is W F:=(∃ C e f,W.heap[b]?=some (.cells C e f)∧∀ (j:Nat) (v:Value),xs[j]?=some v→C[j]?=some v)∧∀ x,F x↔x=b
 lt W F h x hx:=by
  rw [(h.2 x).1 hx]
  obtain ⟨⟨C,e,f,hb,_⟩,_⟩:=h
  rcases Nat.lt_or_ge b W.heap.size with h2 | h2
  ·exact h2
  ·rw [Array.getElem?_eq_none h2] at hb; cases hb
 keep W W' F h e:=⟨by obtain ⟨⟨C,s,n,hb,h2⟩,h3⟩:=h; exact ⟨C,s,n,(e b ((h3 b).2 rfl)).trans hb,h2⟩,h.2⟩
def Si (b:Nat) (s:ByteArray) (pos:Nat):Thing where
 is W F:=W.heap[b]?=some (.stringIter s pos)∧∀ x,F x↔x=b
 lt W F h x hx:=by
  rw [(h.2 x).1 hx]
  rcases Nat.lt_or_ge b W.heap.size with h2 | h2
  ·exact h2
  ·have:=h.1; rw [Array.getElem?_eq_none h2] at this; cases this
 keep W W' F h e:=⟨(e b ((h.2 b).2 rfl)).trans h.1,h.2⟩
def OT (g:G) (i:Pos):Ob→Thing
 | .c t cs=>AnyT fun x:Nat × Nat × List Value=>(Fact (g.rho i=some (x.1,x.2.1)∧dens (den1 g) cs=some x.2.2)).both (Bk x.1 t x.2.2)
 | .r t z cs=>AnyT fun x:Nat × Nat × List Value × Nat=>(Fact (g.rho i=some (x.1,x.2.1)∧dens (den1 g) cs=some x.2.2.1)).both (Rw t z (.slice (some ⟨x.1,0,none⟩) x.2.2.2 x.2.1) x.2.2.2 x.2.2.1)
 | .m k kvs=>AnyT fun x:Nat × Nat × List (Int × Value) × List (Int × Value)=>(Fact (g.rho i=some (x.1,x.2.1)∧kvDen g kvs=some x.2.2.1∧x.2.2.2.Perm x.2.2.1∧(kvs.map (·.1)).Nodup)).both (Mp (ienc k) x.1 x.2.2.2)
 | .it m=>AnyT fun x:Nat × Nat=>Fact (g.rho i=some x)
 | .mi j n k kvs=>AnyT fun x:Nat × Nat × Nat × Nat × List (Int × Value) × List (Int × Value)=>(Fact (g.rho i=some (x.1,x.2.1)∧g.rho j=some (x.2.2.1,x.2.2.2.1)∧kvDen g kvs=some x.2.2.2.2.1∧x.2.2.2.2.2.Perm x.2.2.2.2.1∧(kvs.map (·.1)).Nodup)).both (Mit x.1 x.2.2.1 n k x.2.2.2.2.2)
 | .me j k n kvs=>AnyT fun x:Nat × Nat × Nat × Nat × List (Int × Value) × List (Int × Value)=>(Fact (g.rho i=some (x.1,x.2.1)∧g.rho j=some (x.2.2.1,x.2.2.2.1)∧kvDen g kvs=some x.2.2.2.2.1∧x.2.2.2.2.2.Perm x.2.2.2.2.1∧(kvs.map (·.1)).Nodup)).both (Men x.1 x.2.2.1 k n x.2.2.2.2.2)
 | .ro t cs=>AnyT fun x:Nat × Nat × List Value=>(Fact (g.rho i=some (x.1,x.2.1)∧dens (den1 g) cs=some x.2.2)).both (Ro x.1 x.2.2)
 | .si n v pos=>AnyT fun x:Nat × Nat=>(Fact (g.rho i=some x∧v < 256 ^ n)).both (Si x.1 (byt n v) pos)
 | .st n rev most F=>AnyT fun x:Nat × Nat × List Tm=>(Fact (g.rho i=some (x.1,x.2.1)∧Codes F rev x.2.2.reverse∧x.2.2.length=n∧most≤65536)).both (St x.1 x.2.2 most)
def mem (g:G) (me:T Ob):List Thing:=me.ents.map fun q=>OT g q.1 q.2
theorem kvDen_mono {g g':G} (h:g.le g'):∀ {l:List (Int × SV)} {vs},kvDen g l=some vs→kvDen g' l=some vs
 | [],vs,e=>e
 | (k,x)::r,vs,e=>by
  simp only [kvDen] at e ⊢
  cases h1:den2 g x with
  | none=>simp [h1] at e
  | some v =>
   cases h2:kvDen g r with
   | none=>simp [h1,h2] at e
   | some us=>rw [den2_mono h x v h1,kvDen_mono h h2]; simpa [h1,h2] using e
theorem OT_mono {g g':G} (h:g.le g') (i:Pos) (o:Ob) (W:World) (F:Nat→Prop) (k:(OT g i o).is W F):(OT g' i o).is W F:=by
 cases o with
 | c t cs =>
  obtain ⟨x,A,C,⟨⟨h1,h2⟩,h3⟩,k2⟩:=k
  exact ⟨x,A,C,⟨⟨h.2.2 _ _ h1,dens_mono (den1_mono h) h2⟩,h3⟩,k2⟩
 | r t z cs =>
  obtain ⟨x,A,C,⟨⟨h1,h2⟩,h3⟩,k2⟩:=k
  exact ⟨x,A,C,⟨⟨h.2.2 _ _ h1,dens_mono (den1_mono h) h2⟩,h3⟩,k2⟩
 | m kk kvs =>
  obtain ⟨x,A,C,⟨⟨h1,h2,h4⟩,h3⟩,k2⟩:=k
  exact ⟨x,A,C,⟨⟨h.2.2 _ _ h1,kvDen_mono h h2,h4⟩,h3⟩,k2⟩
 | it m =>
  obtain ⟨x,h1,k2⟩:=k
  exact ⟨x,h.2.2 _ _ h1,k2⟩
 | mi j n kk kvs =>
  obtain ⟨x,A,C,⟨⟨h1,h1',h2,h4⟩,h3⟩,k2⟩:=k
  exact ⟨x,A,C,⟨⟨h.2.2 _ _ h1,h.2.2 _ _ h1',kvDen_mono h h2,h4⟩,h3⟩,k2⟩
 | me j kk n kvs =>
  obtain ⟨x,A,C,⟨⟨h1,h1',h2,h4⟩,h3⟩,k2⟩:=k
  exact ⟨x,A,C,⟨⟨h.2.2 _ _ h1,h.2.2 _ _ h1',kvDen_mono h h2,h4⟩,h3⟩,k2⟩
 | ro t cs =>
  obtain ⟨x,A,C,⟨⟨h1,h2⟩,h3⟩,k2⟩:=k
  exact ⟨x,A,C,⟨⟨h.2.2 _ _ h1,dens_mono (den1_mono h) h2⟩,h3⟩,k2⟩
 | si n v pos =>
  obtain ⟨x,A,C,⟨⟨h1,h2⟩,h3⟩,k2⟩:=k
  exact ⟨x,A,C,⟨⟨h.2.2 _ _ h1,h2⟩,h3⟩,k2⟩
 | st n rev most F' =>
  obtain ⟨x,A,C,⟨⟨h1,h2⟩,h3⟩,k2⟩:=k
  exact ⟨x,A,C,⟨⟨h.2.2 _ _ h1,h2⟩,h3⟩,k2⟩
theorem Lie.imp {B:Nat} {W:World} {α:Type} {f f':α→Thing} {R:List Thing} (h:∀ a F,(f a).is W F→(f' a).is W F):∀ {l:List α} {F:Nat→Prop},Lie B W (l.map f++R) F→Lie B W (l.map f'++R) F
 | [],F,k=>k
 | a::l,F,⟨A,k1,k2,k3⟩=>⟨A,h a A k1,k2,Lie.imp h k3⟩
section
variable {g g':G} {me:T Ob} {W0 W:World} {R:List Thing} {i:Pos} {o:Ob}
theorem mem_mono (h:g.le g') (k:Sts W0 W (mem g me++R)):Sts W0 W (mem g' me++R) :=
 ⟨k.1,Lie.imp (f:=fun q:Pos × Ob=>OT g q.1 q.2) (f':=fun q=>OT g' q.1 q.2) (fun q F hk=>OT_mono h q.1 q.2 W F hk) k.2⟩
theorem mem_get (h:T.get i me=some o):(mem g me).Perm (OT g i o::mem g (T.put i none me)):=by
 have:=(T.ents_get h).map (fun q:Pos × Ob=>OT g q.1 q.2)
 exact this
theorem mem_put:(mem g (T.put i (some o) me)).Perm (OT g i o::mem g (T.put i none me)):=by
 have:=(T.ents_put o i me).map (fun q:Pos × Ob=>OT g q.1 q.2)
 exact this
theorem mem_none (h:T.get i me=none):mem g (T.put i none me)=mem g me:=by unfold mem; rw [T.ents_none h]
theorem mout (k:Sts W0 W (mem g me++R)) (h:T.get i me=some o):Sts W0 W (OT g i o::(mem g (T.put i none me)++R)) :=
 k.perm ((mem_get h).append_right R)
theorem mback (k:Sts W0 W (OT g i o::(mem g (T.put i none me)++R))):Sts W0 W (mem g (T.put i (some o) me)++R) :=
 k.perm ((mem_put (g:=g) (me:=me)).symm.append_right R)
theorem minto (k:Sts W0 W (OT g i o::(mem g me++R))) (h:T.get i me=none):Sts W0 W (mem g (T.put i (some o) me)++R):=by
 rw [← mem_none h] at k
 exact mback k
end
end
noncomputable section
open Go.RowKit
section
variable {α:Type}
theorem nth_eq:∀ (l:List α) (i:Nat),nth l i=l[i]?
 | [],_=>rfl
 | x::r,0=>rfl
 | x::r,i + 1=>by show nth r i=_; rw [nth_eq r i]; simp
theorem front_spec:∀ (n:Nat) (l r:List α),front n l=some r→r=l.take n∧n≤l.length
 | 0,l,r,h=>by have h':some []=some r:=h; injection h' with h'; subst h'; simp
 | n + 1,[],r,h=>by cases h
 | n + 1,x::l,r,h=>by
  have h':Option.rec (motive:=fun _=>Option (List α)) none (fun r=>some (x::r)) (front n l)=some r:=h
  cases hf:front n l with
  | none=>rw [hf] at h'; cases h'
  | some q =>
   rw [hf] at h'
   have h2:x::q=r:=by injection h'
   obtain ⟨h3,h4⟩:=front_spec n l q hf
   subst h2; subst h3
   exact ⟨by simp,by simp; omega⟩
theorem back_spec:∀ (n:Nat) (l r:List α),back n l=some r→r=l.drop n∧n≤l.length
 | 0,l,r,h=>by have h':some l=some r:=h; injection h' with h'; subst h'; simp
 | n + 1,[],r,h=>by cases h
 | n + 1,x::l,r,h=>by
  have h':back n l=some r:=h
  obtain ⟨h3,h4⟩:=back_spec n l r h'
  exact ⟨by simp [h3],by simp; omega⟩
theorem lay_spec:∀ (vs l r:List α),lay vs l=some r→r=vs++l.drop vs.length∧vs.length≤l.length
 | [],l,r,h=>by have h':some l=some r:=h; injection h' with h'; subst h'; simp
 | v::vs,[],r,h=>by cases h
 | v::vs,x::l,r,h=>by
  have h':Option.rec (motive:=fun _=>Option (List α)) none (fun r=>some (v::r)) (lay vs l)=some r:=h
  cases hf:lay vs l with
  | none=>rw [hf] at h'; cases h'
  | some q =>
   rw [hf] at h'
   have h2:v::q=r:=by injection h'
   obtain ⟨h3,h4⟩:=lay_spec vs l q hf
   subst h2; subst h3
   exact ⟨by simp,by simp; omega⟩
theorem layAt_spec:∀ (n:Nat) (vs l r:List α),layAt n vs l=some r→r=l.take n++vs++l.drop (n + vs.length)∧n + vs.length≤l.length
 | 0,vs,l,r,h=>by
  obtain ⟨h1,h2⟩:=lay_spec vs l r h
  exact ⟨by simp [h1],by omega⟩
 | n + 1,vs,[],r,h=>by cases h
 | n + 1,vs,x::l,r,h=>by
  have h':Option.rec (motive:=fun _=>Option (List α)) none (fun r=>some (x::r)) (layAt n vs l)=some r:=h
  cases hf:layAt n vs l with
  | none=>rw [hf] at h'; cases h'
  | some q =>
   rw [hf] at h'
   have h2:x::q=r:=by injection h'
   obtain ⟨h3,h4⟩:=layAt_spec n vs l q hf
   subst h2; subst h3
   refine ⟨?_,by simp; omega⟩
   rw [show n + 1 + vs.length=(n + vs.length) + 1 by omega]; simp
theorem app_eq:∀ (l m:List α),app l m=l++m
 | [],m=>rfl
 | x::l,m=>by show x::app l m=_; rw [app_eq l m]; rfl
theorem len_eq:∀ (l:List α),len l=l.length
 | []=>rfl
 | x::l=>by show Nat.succ (len l)=_; rw [len_eq l]; rfl
theorem sub_spec {o n:Nat} {l r:List α} (h:Option.rec (motive:=fun _=>Option (List α)) none (fun r=>front n r) (back o l)=some r):r=(l.drop o).take n∧o + n≤l.length:=by
 cases hb:back o l with
 | none=>rw [hb] at h; cases h
 | some q =>
  rw [hb] at h
  obtain ⟨h1,h2⟩:=back_spec o l q hb
  obtain ⟨h3,h4⟩:=front_spec n q r h
  subst h1; subst h3
  exact ⟨rfl,by simp at h4; omega⟩
end
section
variable {d:SV→Option Value}
theorem dens_len:∀ {l:List SV} {xs:List Value},dens d l=some xs→xs.length=l.length
 | [],xs,h=>by simp [dens] at h; subst h; rfl
 | x::r,xs,h=>by
  simp only [dens] at h
  cases h1:d x with
  | none=>simp [h1] at h
  | some v =>
   cases h2:dens d r with
   | none=>simp [h1,h2] at h
   | some us=>simp [h1,h2] at h; subst h; simp [dens_len h2]
theorem dens_cons {x:SV} {r:List SV} {xs:List Value} (h:dens d (x::r)=some xs):∃ v us,d x=some v∧dens d r=some us∧xs=v::us:=by
 simp only [dens] at h
 cases h1:d x with
 | none=>simp [h1] at h
 | some v =>
  cases h2:dens d r with
  | none=>simp [h1,h2] at h
  | some us=>simp [h1,h2] at h; exact ⟨v,us,rfl,rfl,h.symm⟩
theorem dens_mk {x:SV} {r:List SV} {v:Value} {us:List Value} (h1:d x=some v) (h2:dens d r=some us):dens d (x::r)=some (v::us):=by simp [dens,h1,h2]
theorem dens_get:∀ {l:List SV} {xs:List Value} {i:Nat} {x:SV},dens d l=some xs→l[i]?=some x→∃ v,xs[i]?=some v∧d x=some v
 | [],xs,i,x,h,hi=>by simp at hi
 | y::r,xs,i,x,h,hi=>by
  obtain ⟨v,us,h1,h2,rfl⟩:=dens_cons h
  cases i with
  | zero=>simp at hi; subst hi; exact ⟨v,by simp,h1⟩
  | succ j=>simp at hi; obtain ⟨w,h3,h4⟩:=dens_get h2 hi; exact ⟨w,by simpa using h3,h4⟩
theorem dens_app:∀ {l m:List SV} {xs ys:List Value},dens d l=some xs→dens d m=some ys→dens d (l++m)=some (xs++ys)
 | [],m,xs,ys,h,h'=>by simp [dens] at h; subst h; simpa using h'
 | x::r,m,xs,ys,h,h'=>by
  obtain ⟨v,us,h1,h2,rfl⟩:=dens_cons h
  exact dens_mk h1 (dens_app h2 h')
theorem dens_take:∀ {l:List SV} {xs:List Value} (n:Nat),dens d l=some xs→dens d (l.take n)=some (xs.take n)
 | l,xs,0,h=>by simp [dens]
 | [],xs,n + 1,h=>by simp [dens] at h; subst h; simp [dens]
 | x::r,xs,n + 1,h=>by
  obtain ⟨v,us,h1,h2,rfl⟩:=dens_cons h
  simpa using dens_mk h1 (dens_take n h2)
theorem dens_drop:∀ {l:List SV} {xs:List Value} (n:Nat),dens d l=some xs→dens d (l.drop n)=some (xs.drop n)
 | l,xs,0,h=>by simpa using h
 | [],xs,n + 1,h=>by simp [dens] at h; subst h; simp [dens]
 | x::r,xs,n + 1,h=>by
  obtain ⟨v,us,h1,h2,rfl⟩:=dens_cons h
  simpa using dens_drop n h2
end
section
variable {g:G}
theorem den0_1 {x:SV} {v:Value} (h:den0 g x=some v):den1 g x=some v:=by
 cases x <;> first | exact h | (simp [den0] at h; done)
theorem den1_2 {x:SV} {v:Value} (h:den1 g x=some v):den2 g x=some v:=by
 cases x <;> first | exact h | (simp [den1,den0] at h; done)
theorem den2_3 {x:SV} {v:Value} (h:den2 g x=some v):den g x=some v:=by
 cases x <;> first | exact h | (simp [den2,den1,den0] at h; done)
theorem den1_3 {x:SV} {v:Value} (h:den1 g x=some v):den g x=some v:=den2_3 (den1_2 h)
theorem den0_3 {x:SV} {v:Value} (h:den0 g x=some v):den g x=some v:=den1_3 (den0_1 h)
theorem den1_on1 {x:SV} {v:Value} (h:den1 g x=some v):on1 v=true:=by
 cases x with
 | f fn us cs =>
  simp only [den1] at h
  cases h1:dens (den0 g) us with
  | none=>simp [h1] at h
  | some us'=>cases h2:dens (den0 g) cs with
   | none=>simp [h1,h2] at h
   | some cs'=>simp [h1,h2] at h; subst h; rfl
 | p i o=>simp only [den1,den0,Option.map_eq_some_iff] at h; obtain ⟨q,_,rfl⟩:=h; rfl
 | sl i o n c=>simp only [den1,den0,Option.map_eq_some_iff] at h; obtain ⟨q,_,rfl⟩:=h; rfl
 | sr i n=>simp only [den1,den0,Option.map_eq_some_iff] at h; obtain ⟨q,_,rfl⟩:=h; rfl
 | m i=>simp only [den1,den0,Option.map_eq_some_iff] at h; obtain ⟨q,_,rfl⟩:=h; rfl
 | q i=>simp only [den1,den0,Option.map_eq_some_iff] at h; obtain ⟨q,_,rfl⟩:=h; rfl
 | s n v=>simp only [den1,den0] at h; split at h <;> simp at h; subst h; rfl
 | w k a b=>simp only [den1,den0] at h; split at h <;> simp at h; subst h; rfl
 | _=>first | (simp only [den1,den0,Option.some.injEq] at h; subst h; rfl) | (simp [den1,den0] at h; done)
theorem den_i {k:IntKind} {n:Int} {x:Value} (h:den g (.i k n)=some x):x=.int k n:=by simpa [den,den2,den1,den0,eq_comm] using h
theorem den_b {b:Bool} {x:Value} (h:den g (.b b)=some x):x=.bool b:=by simpa [den,den2,den1,den0,eq_comm] using h
theorem den_p {i:Pos} {o:Nat} {x:Value} (h:den g (.p i o)=some x):∃ q,g.rho i=some q∧x=.pointer (some ⟨q.1,o,none⟩):=by
 simp only [den,den2,den1,den0,Option.map_eq_some_iff] at h
 obtain ⟨q,h1,rfl⟩:=h; exact ⟨q,h1,rfl⟩
theorem den_p' {i:Pos} {o:Nat} {q:Nat × Nat} (h:g.rho i=some q):den g (.p i o)=some (.pointer (some ⟨q.1,o,none⟩)):=by simp [den,den2,den1,den0,h]
theorem den_a {l:List SV} {x:Value} (h:den g (.a l)=some x):∃ xs,dens (den1 g) l=some xs∧x=.agg xs.toArray:=by
 simp only [den,den2,Option.map_eq_some_iff] at h
 obtain ⟨xs,h1,rfl⟩:=h; exact ⟨xs,h1,rfl⟩
theorem den_a' {l:List SV} {xs:List Value} (h:dens (den1 g) l=some xs):den g (.a l)=some (.agg xs.toArray):=by simp [den,den2,h]
theorem den_t {l:List SV} {x:Value} (h:den g (.t l)=some x):∃ xs,dens (den2 g) l=some xs∧x=.tuple xs.toArray:=by
 simp only [den,Option.map_eq_some_iff] at h
 obtain ⟨xs,h1,rfl⟩:=h; exact ⟨xs,h1,rfl⟩
theorem den_s {n v:Nat} {x:Value} (h:den g (.s n v)=some x):v < 256 ^ n∧x=.string (byt n v):=by
 simp only [den,den2,den1,den0] at h
 split at h
 ·rename_i hv; simp at h; exact ⟨hv,h.symm⟩
 ·simp at h
theorem den_s' {n v:Nat} (h:v < 256 ^ n):den g (.s n v)=some (.string (byt n v)):=by simp [den,den2,den1,den0,h]
theorem dens_ones:∀ {l:List SV} {xs:List Value},dens (den1 g) l=some xs→ones xs=true
 | [],xs,h=>by simp [dens] at h; subst h; rfl
 | x::r,xs,h=>by
  obtain ⟨v,us,h1,h2,rfl⟩:=dens_cons h
  simp [ones,den1_on1 h1,dens_ones h2]
theorem den_cells {x:SV} {v:Value} {cs:List SV} (h:den g x=some v) (hc:cells x=some cs):dens (den1 g) cs=some (vc v)∧ones (vc v)=true:=by
 cases x with
 | a l =>
  injection hc with hc; subst hc
  obtain ⟨xs,h1,rfl⟩:=den_a h
  exact ⟨by simpa [vc] using h1,dens_ones (by simpa [vc] using h1)⟩
 | t l=>cases hc
 | _ =>
  injection hc with hc; subst hc
  simp only [den,den2] at h
  have h1:=den1_on1 h
  have:vc v=[v]:=by cases v <;> first | rfl | (exact absurd h1 (by simp [on1]))
  rw [this]
  exact ⟨dens_mk h rfl,by simp [ones,h1]⟩
end
structure Std (rv:Operand→Value):Prop where
 const:∀ v,rv (.const v)=v
 glob:∀ b,rv (.global b)=.pointer (some ⟨b,0,none⟩)
 func:∀ f,rv (.func f)=.func (.func f) #[] #[]
def knf (rv:Operand→Value):List Operand→Kn
 | []=>[]
 | .tmp t::r=>(t,rv (.tmp t))::knf rv r
 | _::r=>knf rv r
theorem lk_knf {rv:Operand→Value}:∀ {ys:List Operand} {t:Nat} {v:Value},lk (knf rv ys) t=some v→rv (.tmp t)=v
 | [],t,v,h=>by simp [knf,lk] at h
 | .tmp u::r,t,v,h=>by
  simp only [knf,lk] at h
  cases hb:Nat.beq u t with
  | true=>rw [hb] at h; have:=Nat.eq_of_beq_eq_true hb; subst this; simpa using h
  | false=>rw [hb] at h; exact lk_knf (ys:=r) h
 | .const _::r,t,v,h=>lk_knf (ys:=r) h
 | .global _::r,t,v,h=>lk_knf (ys:=r) h
 | .func _::r,t,v,h=>lk_knf (ys:=r) h
theorem knf_ev {rv:Operand→Value} (hs:Std rv) (ys:List Operand):Ev (knf rv ys) rv:=by
 intro x v h
 cases x with
 | tmp t=>exact lk_knf h
 | const u=>simp [ev] at h; rw [hs.const]; exact h
 | global b=>simp [ev] at h; rw [hs.glob]; exact h
 | func f=>simp [ev] at h; rw [hs.func]; exact h
theorem knf_mem {rv:Operand→Value} (hs:Std rv):∀ {ys:List Operand} {y:Operand},y∈ys→ev (knf rv ys) y=some (rv y)
 | ys,.const u,_=>by simp [ev,hs.const]
 | ys,.global b,_=>by simp [ev,hs.glob]
 | ys,.func f,_=>by simp [ev,hs.func]
 | .tmp u::r,.tmp t,h=>by
  simp only [ev,knf,lk]
  cases hb:Nat.beq u t with
  | true=>have:=Nat.eq_of_beq_eq_true hb; subst this; rfl
  | false =>
   rcases List.mem_cons.1 h with e | h
   ·injection e with e; subst e; simp at hb
   ·exact knf_mem (ys:=r) hs h
 | .const _::r,.tmp t,h=>knf_mem (ys:=r) hs (by simpa using h)
 | .global _::r,.tmp t,h=>knf_mem (ys:=r) hs (by simpa using h)
 | .func _::r,.tmp t,h=>knf_mem (ys:=r) hs (by simpa using h)
theorem kn1 {rv:Operand→Value} (hs:Std rv) (y:Operand) {v:Value} (h:rv y=v):ev (knf rv [y]) y=some v:=h ▸ knf_mem hs (by simp)
theorem kn2a {rv:Operand→Value} (hs:Std rv) (y z:Operand) {v:Value} (h:rv y=v):ev (knf rv [y,z]) y=some v:=h ▸ knf_mem hs (by simp)
theorem kn2b {rv:Operand→Value} (hs:Std rv) (y z:Operand) {v:Value} (h:rv z=v):ev (knf rv [y,z]) z=some v:=h ▸ knf_mem hs (by simp)
end
noncomputable section
open Go.RowKit
theorem wr_eq (k:IntKind) (n:Int):wr k n=k.wrap n:=by
 cases n with
 | ofNat c =>
  simp only [wr]
  cases h:Nat.ble c (top k) with
  | false=>rfl
  | true =>
   have h':=Nat.le_of_ble_eq_true h
   simp only [cond_true]
   symm
   cases k <;> simp only [top] at h'
   ·exact IntWalk.i8_in _ ⟨Int.le_trans (by decide) (Int.natCast_nonneg _),by simp; omega⟩
   ·exact IntWalk.i16_in _ ⟨Int.le_trans (by decide) (Int.natCast_nonneg _),by simp; omega⟩
   ·exact IntWalk.i32_in _ ⟨Int.le_trans (by decide) (Int.natCast_nonneg _),by simp; omega⟩
   ·exact IntWalk.i64_in _ ⟨Int.le_trans (by decide) (Int.natCast_nonneg _),by simp; omega⟩
   ·exact IntWalk.u8_in _ ⟨Int.natCast_nonneg _,by simp; omega⟩
   ·exact IntWalk.u16_in _ ⟨Int.natCast_nonneg _,by simp; omega⟩
   ·exact IntWalk.u32_in _ ⟨Int.natCast_nonneg _,by simp; omega⟩
   ·exact IntWalk.u64_in _ ⟨Int.natCast_nonneg _,by simp; omega⟩
 | negSucc c =>
  simp only [wr]
  cases h:(and (sgn k) (Nat.ble c (top k))) with
  | false=>rfl
  | true =>
   simp only [Bool.and_eq_true] at h
   have h':=Nat.le_of_ble_eq_true h.2
   have hs:=h.1
   simp only [cond_true]
   symm
   cases k <;> simp only [top,sgn] at h' hs
   ·exact IntWalk.i8_in _ ⟨by omega,by omega⟩
   ·exact IntWalk.i16_in _ ⟨by omega,by omega⟩
   ·exact IntWalk.i32_in _ ⟨by omega,by omega⟩
   ·exact IntWalk.i64_in _ ⟨by omega,by omega⟩
   all_goals cases hs
theorem ieq_eq (a b:Int):ieq a b=decide (a=b):=by
 cases a <;> cases b <;> simp only [ieq]
 ·rename_i a b
  by_cases h:a=b
  ·subst h; simp
  ·rw [decide_eq_false (by intro e; injection e; contradiction)]
   cases hb:Nat.beq a b with
   | false=>rfl
   | true=>exact (h (Nat.eq_of_beq_eq_true hb)).elim
 ·exact (decide_eq_false (by intro e; cases e)).symm
 ·exact (decide_eq_false (by intro e; cases e)).symm
 ·rename_i a b
  by_cases h:a=b
  ·subst h; simp
  ·rw [decide_eq_false (by intro e; injection e; contradiction)]
   cases hb:Nat.beq a b with
   | false=>rfl
   | true=>exact (h (Nat.eq_of_beq_eq_true hb)).elim
theorem blt_eq (a b : Nat) : Nat.blt a b = decide (a < b) := by
  cases h : Nat.blt a b with
  | true => simp [Nat.blt] at h; exact (decide_eq_true (by omega)).symm
  | false => exact (decide_eq_false (fun hl => by have : Nat.blt a b = true := by simp [Nat.blt]; omega
                                                  rw [h] at this; cases this)).symm
theorem ilt_eq (a b:Int):ilt a b=decide (a < b):=by
 cases a <;> cases b <;> simp only [ilt,blt_eq]
 ·rename_i a b; by_cases h:a < b <;> simp [h]
 ·rename_i a b; exact (decide_eq_false (by have:=Int.negSucc_lt_zero b; have:=Int.natCast_nonneg a; intro h; simp only [Int.ofNat_eq_natCast] at *; omega)).symm
 ·rename_i a b; exact (decide_eq_true (by have:=Int.negSucc_lt_zero a; have:=Int.natCast_nonneg b; simp only [Int.ofNat_eq_natCast] at *; omega)).symm
 ·rename_i a b
  by_cases h:b < a
  ·rw [decide_eq_true h,decide_eq_true (by omega)]
  ·rw [decide_eq_false h,decide_eq_false (by omega)]
theorem keq_eq {j k:IntKind} (h:keq j k=true):j=k:=by
 cases j <;> cases k <;> first | rfl | (exact absurd h (by decide))
def a2:A2→BinOp
 | .add=>.add | .sub=>.sub | .mul=>.mul | .quo=>.quo | .rem=>.rem | .and=>.and | .or=>.or | .shl=>.shl | .shr=>.shr
 | .lss=>.lss | .leq=>.leq | .gtr=>.gtr | .geq=>.geq | .eql=>.eql | .neq=>.neq
def Yl (P:Program) (w:World) (rv:Operand→Value) (op:Op) (x:Value):Prop:=∀ d ty ps af gd,(execOp rv ⟨d,op,ty,ps,af,gd⟩).run P w=.ok (.value x) w
section
variable {P:Program} {w:World} {rv:Operand→Value} {g:G} {y z:Operand} (hs:Std rv)
include hs
theorem y_arI {k:IntKind} {a b:Int} {op:A2} {v:SV} {T T':TypeId} (hy:rv y=.int k a) (hz:rv z=.int k b) (h:arI op k a b=some v):∃ x,den g v=some x∧Yl P w rv (.binOp (a2 op) T y z T') x:=by
 have e1:=kn2a hs y z hy
 have e2:=kn2b hs y z hz
 have ke:=knf_ev hs [y,z]
 have s0:=Sts.nil w
 cases op with
 | add=>simp only [arI,Option.some.injEq] at h; subst h; exact ⟨_,rfl,fun d ty ps af gd=>EX.add e1 e2 (wr_eq k _).symm rv w ke s0⟩
 | sub=>simp only [arI,Option.some.injEq] at h; subst h; exact ⟨_,rfl,fun d ty ps af gd=>EX.sub e1 e2 (wr_eq k _).symm rv w ke s0⟩
 | mul=>simp only [arI,Option.some.injEq] at h; subst h; exact ⟨_,rfl,fun d ty ps af gd=>EX.mul e1 e2 (wr_eq k _).symm rv w ke s0⟩
 | lss=>simp only [arI,Option.some.injEq] at h; subst h; exact ⟨_,rfl,fun d ty ps af gd=>by rw [ilt_eq]; exact EX.lss e1 e2 rv w ke s0⟩
 | gtr=>simp only [arI,Option.some.injEq] at h; subst h; exact ⟨_,rfl,fun d ty ps af gd=>by rw [ilt_eq]; exact EX.gtr e1 e2 rv w ke s0⟩
 | leq=>simp only [arI,Option.some.injEq] at h; subst h; exact ⟨_,rfl,fun d ty ps af gd=>by
   rw [ilt_eq,show (!decide (b < a))=decide (a≤b) by rw [← decide_not]; exact decide_eq_decide.2 (by omega)]; exact EX.leq e1 e2 rv w ke s0⟩
 | geq=>simp only [arI,Option.some.injEq] at h; subst h; exact ⟨_,rfl,fun d ty ps af gd=>by
   rw [ilt_eq,show (!decide (a < b))=decide (b≤a) by rw [← decide_not]; exact decide_eq_decide.2 (by omega)]; exact EX.geq e1 e2 rv w ke s0⟩
 | eql=>simp only [arI,Option.some.injEq] at h; subst h; exact ⟨_,rfl,fun d ty ps af gd=>by rw [ieq_eq]; exact EX.eql e1 e2 rv w ke s0⟩
 | neq=>simp only [arI,Option.some.injEq] at h; subst h; exact ⟨_,rfl,fun d ty ps af gd=>by rw [ieq_eq,← decide_not]; exact EX.neq e1 e2 rv w ke s0⟩
 | quo =>
  simp only [arI] at h
  split at h
  ·rename_i a b
   cases hb:Nat.beq b 0 with
   | true=>simp [hb] at h
   | false =>
    simp only [hb,cond_false,Option.some.injEq] at h; subst h
    have hb0:b≠0:=fun e=>by subst e; simp at hb
    exact ⟨_,rfl,fun d ty ps af gd=>EX.quo e1 e2 (by intro e; injection e with e; exact hb0 e) (by rw [wr_eq]; rfl) rv w ke s0⟩
  ·cases h
 | rem =>
  simp only [arI] at h
  split at h
  ·rename_i a b
   cases hb:Nat.beq b 0 with
   | true=>simp [hb] at h
   | false =>
    simp only [hb,cond_false,Option.some.injEq] at h; subst h
    have hb0:b≠0:=fun e=>by subst e; simp at hb
    exact ⟨_,rfl,fun d ty ps af gd=>EX.rem e1 e2 (by intro e; injection e with e; exact hb0 e) rfl rv w ke s0⟩
  ·cases h
 | or=>simp only [arI,Option.some.injEq] at h; subst h; exact ⟨_,rfl,fun d ty ps af gd=>EX.or e1 e2 rfl rv w ke s0⟩
 | and=>simp only [arI,Option.some.injEq] at h; subst h; exact ⟨_,rfl,fun d ty ps af gd=>EX.and e1 e2 rfl rv w ke s0⟩
 | shl=>simp [arI] at h
 | shr=>simp [arI] at h
theorem y_shI {k j:IntKind} {a b:Int} {op:A2} {v:SV} {T T':TypeId} (hy:rv y=.int k a) (hz:rv z=.int j b) (h:shI op k a b=some v):∃ x,den g v=some x∧Yl P w rv (.binOp (a2 op) T y z T') x:=by
 have e1:=kn2a hs y z hy
 have e2:=kn2b hs y z hz
 have ke:=knf_ev hs [y,z]
 have s0:=Sts.nil w
 unfold shI at h
 split at h
 ·rename_i n
  cases op <;> simp only [Option.some.injEq,reduceCtorEq] at h
  ·subst h; exact ⟨_,rfl,fun d ty ps af gd=>EX.shl e1 e2 (Int.natCast_nonneg _) rfl rv w ke s0⟩
  ·subst h; exact ⟨_,rfl,fun d ty ps af gd=>EX.shr e1 e2 (Int.natCast_nonneg _) rfl rv w ke s0⟩
 ·cases h
end
theorem byts_len:∀ (n v:Nat),(byts n v).length=n
 | 0,_=>rfl
 | n + 1,v=>by simp [byts,byts_len n]
theorem byts_inj:∀ (n:Nat) {v w:Nat},v < 256 ^ n→w < 256 ^ n→byts n v=byts n w→v=w
 | 0,v,w,hv,hw,_=>by simp at hv hw; omega
 | n + 1,v,w,hv,hw,h=>by
  simp only [byts] at h
  have h1:byts n (v / 256)=byts n (w / 256):=List.append_inj_left h (by simp [byts_len])
  have h2:[UInt8.ofNat (v % 256)]=[UInt8.ofNat (w % 256)]:=List.append_inj_right h (by simp [byts_len])
  rw [Nat.pow_succ] at hv hw
  have h3:=byts_inj n (by omega) (by omega) h1
  have h4:UInt8.ofNat (v % 256)=UInt8.ofNat (w % 256):=by simpa using h2
  have h5:=congrArg UInt8.toNat h4
  simp at h5
  omega
theorem byt_inj {n v m w:Nat} (hv:v < 256 ^ n) (hw:w < 256 ^ m) (h:byt n v=byt m w):n=m∧v=w:=by
 have h1:byts n v=byts m w:=by unfold byt at h; injection h with h; simpa using h
 have h2:n=m:=by have:=congrArg List.length h1; simpa [byts_len] using this
 subst h2
 exact ⟨rfl,byts_inj n hv hw h1⟩
theorem byt_size (n v:Nat):(byt n v).size=n:=by unfold byt; simp [ByteArray.size,byts_len]
theorem seq_eq {n v m w:Nat} (hv:v < 256 ^ n) (hw:w < 256 ^ m):seq n v m w=decide (byt n v=byt m w):=by
 unfold seq
 cases hb:Nat.beq n m with
 | false =>
  simp only [cond_false]
  exact (decide_eq_false fun e=>by have:=(byt_inj hv hw e).1; subst this; simp at hb).symm
 | true =>
  have:=Nat.eq_of_beq_eq_true hb; subst this
  simp only [cond_true]
  cases hc:Nat.beq v w with
  | true=>have:=Nat.eq_of_beq_eq_true hc; subst this; simp
  | false=>exact (decide_eq_false fun e=>by have:=(byt_inj hv hw e).2; subst this; simp at hc).symm
theorem byts_app:∀ (m:Nat) {n v w:Nat},w < 256 ^ m→byts (n + m) (v * 256 ^ m + w)=byts n v++byts m w
 | 0,n,v,w,hw=>by simp at hw; subst hw; simp [byts]
 | m + 1,n,v,w,hw=>by
  rw [show n + (m + 1)=(n + m) + 1 by omega]
  simp only [byts]
  rw [Nat.pow_succ] at *
  have h1:(v * (256 ^ m * 256) + w) / 256=v * 256 ^ m + w / 256:=by
   rw [← Nat.mul_assoc,Nat.add_comm,Nat.add_mul_div_right _ _ (by omega)]; omega
  have h2:(v * (256 ^ m * 256) + w) % 256=w % 256:=by rw [← Nat.mul_assoc,Nat.mul_comm _ 256,Nat.mul_add_mod]
  rw [h1,h2,byts_app m (by omega)]
  simp
theorem byt_app {n v m w:Nat} (hw:w < 256 ^ m):byt (n + m) (v * 256 ^ m + w)=byt n v++byt m w:=by
 unfold byt
 rw [byts_app m hw]
 apply ByteArray.ext
 simp
theorem byt_lt {n v m w:Nat} (hv:v < 256 ^ n) (hw:w < 256 ^ m):v * 256 ^ m + w < 256 ^ (n + m):=by
 rw [Nat.pow_add]
 have:(v + 1) * 256 ^ m≤256 ^ n * 256 ^ m:=Nat.mul_le_mul_right _ hv
 rw [Nat.add_mul] at this
 omega
theorem byts_get:∀ (n:Nat) {v j:Nat},j < n→(byts n v)[j]?=some (UInt8.ofNat (v / 256 ^ (n - 1 - j) % 256))
 | 0,v,j,h=>by omega
 | n + 1,v,j,h=>by
  simp only [byts]
  rcases Nat.lt_or_ge j n with hj | hj
  ·rw [List.getElem?_append_left (by rw [byts_len]; exact hj),byts_get n hj]
   congr 3
   rw [Nat.div_div_eq_div_mul,← Nat.pow_succ',show n + 1 - 1 - j=(n - 1 - j) + 1 by omega]
  ·have:j=n:=by omega
   subst this
   rw [List.getElem?_append_right (by rw [byts_len]; omega)]
   simp [byts_len]
section
variable {P:Program} {w:World} {rv:Operand→Value} {g:G} {y z:Operand} (hs:Std rv)
include hs
theorem y_arS {n v m u:Nat} {op:A2} {r:SV} {T T':TypeId} (hv:v < 256 ^ n) (hu:u < 256 ^ m) (hy:rv y=.string (byt n v)) (hz:rv z=.string (byt m u)) (h:arS op n v m u=some r):∃ x,den g r=some x∧Yl P w rv (.binOp (a2 op) T y z T') x:=by
 have e1:=kn2a hs y z hy
 have e2:=kn2b hs y z hz
 have ke:=knf_ev hs [y,z]
 have s0:=Sts.nil w
 cases op with
 | add =>
  simp only [arS] at h
  cases hb:Nat.ble (Nat.add n m) 1000000 with
  | false=>rw [hb] at h; cases h
  | true =>
   rw [hb] at h; simp only [cond_true,Option.some.injEq] at h; subst h
   have hl:=Nat.le_of_ble_eq_true hb
   have hl':n + m≤1000000:=hl
   refine ⟨_,den_s' (byt_lt hv hu),fun d ty ps af gd=>?_⟩
   have:=EX.addS (P:=P) (W0:=w) (L:=[]) (d:=d) (g:=gd) (T:=T) (ty':=T') (ty:=ty) (ps:=ps) (af:=af) e1 e2 (by rw [byt_size,byt_size]; omega) rv w ke s0
   rw [← byt_app hu] at this
   exact this
 | eql=>simp only [arS,Option.some.injEq] at h; subst h; exact ⟨_,rfl,fun d ty ps af gd=>by rw [seq_eq hv hu]; exact EX.eqlS e1 e2 rv w ke s0⟩
 | neq=>simp only [arS,Option.some.injEq] at h; subst h; exact ⟨_,rfl,fun d ty ps af gd=>by rw [seq_eq hv hu,← decide_not]; exact EX.neqS e1 e2 rv w ke s0⟩
 | _=>simp [arS] at h
end
end
noncomputable section
open Go.RowKit
theorem cells_at {g:G} {me:T Ob} {W0 w:World} {R:List Thing} {i:Pos} {cs:List SV} (hm:Sts W0 w (mem g me++R)) (h:cellsOf me i=some cs) :
  ∃ q xs,g.rho i=some q∧dens (den1 g) cs=some xs∧∀ k v,xs[k]?=some v→w.cell? ⟨q.1,k,none⟩=some v:=by
 unfold cellsOf at h
 cases hg:T.get i me with
 | none=>simp [hg] at h
 | some o =>
  rw [hg] at h
  cases o with
  | c t ds =>
   simp only [Option.some.injEq] at h; subst h
   obtain ⟨x,h1⟩:=(mout hm hg).of_some
   obtain ⟨⟨h2,h3⟩,h4⟩:=h1.of_both.of_fact
   exact ⟨_,_,h2,h3,fun k v hv=>by rw [(h4.bk .here).rd]; simpa using hv⟩
  | r t z ds =>
   simp only [Option.some.injEq] at h; subst h
   obtain ⟨x,h1⟩:=(mout hm hg).of_some
   obtain ⟨⟨h2,h3⟩,h4⟩:=h1.of_both.of_fact
   exact ⟨_,_,h2,h3,fun k v hv=>rw_cell (h4.rw .here) hv⟩
  | ro t ds =>
   simp only [Option.some.injEq] at h; subst h
   obtain ⟨x,h1⟩:=(mout hm hg).of_some
   obtain ⟨⟨h2,h3⟩,h4⟩:=h1.of_both.of_fact
   obtain ⟨F,hF⟩:=h4.fact
   obtain ⟨⟨C,e,f,hb,hC⟩,_⟩:=hF
   exact ⟨_,_,h2,h3,fun k v hv=>by simp [World.cell?,hb,hC k v hv]⟩
  | _=>simp at h
section
variable {P:Program} {w W0:World} {rv:Operand→Value} {g:G} {me:T Ob} {R:List Thing} {y z u:Operand} {a b c v:SV} (hs:Std rv)
include hs
theorem y_mv (hy:den g v=some (rv y)):∃ x,den g v=some x∧Yl P w rv (.move y) x:=⟨_,hy,fun d ty ps af gd=>EX.move (kn1 hs y rfl) rv w (knf_ev hs [y]) (Sts.nil w)⟩
theorem y_as (hy:den g v=some (rv y)):∃ x,den g v=some x∧Yl P w rv (.assign y) x:=⟨_,hy,fun d ty ps af gd=>EX.assign (kn1 hs y rfl) rv w (knf_ev hs [y]) (Sts.nil w)⟩
theorem y_pick (hy:den g a=some (rv y)) (hz:den g b=some (rv z)) (hu:den g c=some (rv u)) (h:pickV a b c=some v):∃ x,den g v=some x∧Yl P w rv (.pick y z u) x:=by
 unfold pickV at h
 split at h
 ·rename_i t
  have e:=den_b hy
  cases t with
  | true =>
   simp only [cond_true,Option.some.injEq] at h; subst h
   exact ⟨_,hz,fun d ty ps af gd=>by simp [execOp,e,asBool]⟩
  | false =>
   simp only [cond_false,Option.some.injEq] at h; subst h
   exact ⟨_,hu,fun d ty ps af gd=>by simp [execOp,e,asBool]⟩
 ·cases h
theorem y_ext {i:Nat} (hy:den g a=some (rv y)) (h:extV a i=some v):∃ x,den g v=some x∧Yl P w rv (.extract y i) x:=by
 unfold extV at h
 split at h
 ·rename_i l
  obtain ⟨xs,h1,h2⟩:=den_t hy
  rw [nth_eq] at h
  obtain ⟨x,h3,h4⟩:=dens_get h1 h
  exact ⟨x,den2_3 h4,fun d ty ps af gd=>by simp [execOp,h2,Instr.extract,h3]⟩
 ·cases h
theorem y_nc (hy:den g a=some (rv y)) (h:ncV a=some v):∃ x,den g v=some x∧Yl P w rv (.nilCheck y) x:=by
 unfold ncV at h
 split at h
 ·injection h with h; subst h
  obtain ⟨q,h1,h2⟩:=den_p hy
  exact ⟨_,hy,fun d ty ps af gd=>by simp [execOp,h2]⟩
 ·injection h with h; subst h
  have h2:rv y=_:=(Option.some.inj hy).symm
  exact ⟨_,hy,fun d ty ps af gd=>by simp [execOp,h2]⟩
 ·cases h
omit hs in
theorem addOff_den {off:Nat} {x:Value} (hy:den g a=some x) (h:addOff off a=some v):∃ bb oo,x=.pointer (some ⟨bb,oo,none⟩)∧den g v=some (.pointer (some ⟨bb,oo + off,none⟩)):=by
 unfold addOff at h
 split at h
 ·injection h with h; subst h
  obtain ⟨q,h1,h2⟩:=den_p hy
  exact ⟨_,_,h2,den_p' h1⟩
 ·injection h with h; subst h
  exact ⟨_,_,(Option.some.inj hy).symm,rfl⟩
 ·cases h
theorem y_fa {off s i:Nat} (hf:FA P s i off) (hy:den g a=some (rv y)) (h:addOff off a=some v):∃ x,den g v=some x∧Yl P w rv (.fieldAddr s y i) x:=by
 obtain ⟨bb,oo,h1,h2⟩:=addOff_den hy h
 exact ⟨_,h2,fun d ty ps af gd=>EX.fieldAddr (kn1 hs y h1) hf rv w (knf_ev hs [y]) (Sts.nil w)⟩
theorem y_not {T:TypeId} (hy:den g a=some (rv y)) (h:notV a=some v):∃ x,den g v=some x∧Yl P w rv (.unOp .not T y) x:=by
 unfold notV at h
 split at h
 ·injection h with h; subst h
  exact ⟨_,rfl,fun d ty ps af gd=>EX.not (kn1 hs y (den_b hy)) rv w (knf_ev hs [y]) (Sts.nil w)⟩
 ·cases h
theorem y_ld {t:TypeId} (h1:One P t) (hm:Sts W0 w (mem g me++R)) (hy:den g a=some (rv y)) (h:ldV me a=some v):∃ x,den g v=some x∧Yl P w rv (.load t y) x:=by
 unfold ldV at h
 split at h
 ·rename_i i o
  obtain ⟨q,e1,e2⟩:=den_p hy
  cases hc:cellsOf me i with
  | none=>simp [hc] at h
  | some cs =>
   rw [hc] at h
   simp only [nth_eq] at h
   obtain ⟨q',xs,k1,k2,k3⟩:=cells_at hm hc
   obtain rfl:q=q':=by rw [e1] at k1; exact Option.some.inj k1
   obtain ⟨x,h3,h4⟩:=dens_get k2 h
   have hrd:=k3 o x h3
   exact ⟨x,den1_3 h4,fun d ty ps af gd=>by
    simp only [execOp,e2,Sem.run_bind,Instr.loadAt,Instr.sureAddr,loadVar,h1 w,Result.andThen_ok,Sem.run_pure,Bool.false_eq_true,if_false,run_load,hrd]⟩
 ·cases h
theorem y_ldn {t:TypeId} {n:Nat} (h1:Many P t n) (hm:Sts W0 w (mem g me++R)) (hy:den g a=some (rv y)) (h:ldN me n a=some v):∃ x,den g v=some x∧Yl P w rv (.load t y) x:=by
 unfold ldN at h
 split at h
 ·rename_i i o
  obtain ⟨q,e1,e2⟩:=den_p hy
  cases hc:cellsOf me i with
  | none=>simp [hc] at h
  | some cs =>
   rw [hc] at h
   cases hsb:sub o n cs with
   | none=>simp [hsb] at h
   | some l =>
    simp only [hsb,Option.some.injEq] at h; subst h
    obtain ⟨q',xs,k1,k2,k3⟩:=cells_at hm hc
    obtain rfl:q=q':=by rw [e1] at k1; exact Option.some.inj k1
    obtain ⟨s1,s2⟩:=sub_spec hsb
    have hd:=dens_take n (dens_drop o k2)
    rw [← s1] at hd
    have hl:((xs.drop o).take n).length=n:=by simp [dens_len k2]; omega
    refine ⟨_,den_a' hd,fun d ty ps af gd=>?_⟩
    have hr:(loadCells ⟨q.1,o,none⟩ n).run P w=.ok ((xs.drop o).take n).toArray w:=by
     have:=load_cells (P:=P) (w:=w) (a:=⟨q.1,o,none⟩) (cs:=(xs.drop o).take n) (fun j hj=>by
      rw [add_off]
      have hj':j < n:=by rw [hl] at hj; exact hj
      have:xs[o + j]?=((xs.drop o).take n)[j]?:=by rw [List.getElem?_take_of_lt hj',List.getElem?_drop]
      rw [← this]
      have hlt:o + j < xs.length:=by rw [dens_len k2]; omega
      rw [List.getElem?_eq_getElem hlt]
      exact k3 _ _ (List.getElem?_eq_getElem hlt))
     rw [hl] at this; exact this
    simp only [execOp,e2,Sem.run_bind,Instr.loadAt,Instr.sureAddr,loadVar,(h1 w).1,(h1 w).2,Result.andThen_ok,Sem.run_pure,if_true,hr]
 ·cases h
omit hs in
theorem kvDen_len:∀ {l:List (Int × SV)} {vs:List (Int × Value)},kvDen g l=some vs→vs.length=l.length
 | [],vs,hv=>by simp [kvDen] at hv; subst hv; rfl
 | (k1,k2)::r,vs,hv=>by
  simp only [kvDen] at hv
  cases a1:den2 g k2 with
  | none=>simp [a1] at hv
  | some v1=>cases a2:kvDen g r with
   | none=>simp [a1,a2] at hv
   | some v2=>simp [a1,a2] at hv; subst hv; simp [kvDen_len a2]
def tkOk (k:TK) (td:TypeDesc):Bool:=match k with
 | .s=>(td matches .string)
 | .l=>(td matches .slice _)
 | .m=>(td matches .map _ _)
 | .p=>(td matches .pointer _)
 | _=>true
theorem y_ln {T:TypeId} {td:TypeDesc} {k:TK} (hT:P.underlying T=some td) (hm:Sts W0 w (mem g me++R)) (hy:den g a=some (rv y)) (h:lenV me k a=some v) (hc:tkOk k td=true) :
  ∃ x,den g v=some x∧Yl P w rv (.call { callee:=.builtin .len,args:=#[y],argTypes:=#[T] }) x:=by
 unfold lenV at h
 split at h
 ·rename_i n m
  injection h with h; subst h
  obtain ⟨_,e⟩:=den_s hy
  cases td <;> simp only [tkOk,Bool.false_eq_true] at hc
  refine ⟨_,rfl,fun d ty ps af gd=>?_⟩
  have:=EX.lenS (P:=P) (W0:=w) (L:=[]) (d:=d) (g:=gd) (ty:=ty) (ps:=ps) (af:=af) (kn1 hs y e) hT rv w (knf_ev hs [y]) (Sts.nil w)
  rw [byt_size] at this; exact this
 ·injection h with h; subst h
  cases td <;> simp only [tkOk,Bool.false_eq_true] at hc
  simp only [den,den2,den1,den0,Option.map_eq_some_iff] at hy
  obtain ⟨q,_,e⟩:=hy
  exact ⟨_,rfl,fun d ty ps af gd=>EX.lenL (kn1 hs y e.symm) hT rv w (knf_ev hs [y]) (Sts.nil w)⟩
 ·injection h with h; subst h
  cases td <;> simp only [tkOk,Bool.false_eq_true] at hc
  simp only [den,den2,den1,den0,Option.map_eq_some_iff] at hy
  obtain ⟨q,_,e⟩:=hy
  exact ⟨_,rfl,fun d ty ps af gd=>EX.lenL (kn1 hs y e.symm) hT rv w (knf_ev hs [y]) (Sts.nil w)⟩
 ·injection h with h; subst h
  cases td <;> simp only [tkOk,Bool.false_eq_true] at hc
  have e:=(Option.some.inj hy).symm
  exact ⟨_,rfl,fun d ty ps af gd=>EX.lenL (kn1 hs y e) hT rv w (knf_ev hs [y]) (Sts.nil w)⟩
 ·rename_i i
  cases td <;> simp only [tkOk,Bool.false_eq_true] at hc
  cases hg:EV.T.get i me with
  | none=>rw [hg] at h; cases h
  | some ob =>
   rw [hg] at h
   cases ob with
   | m k kvs =>
    injection h with h; subst h
    simp only [den,den2,den1,den0,Option.map_eq_some_iff] at hy
    obtain ⟨q,hq,e⟩:=hy
    obtain ⟨x,h1⟩:=(mout hm hg).of_some
    obtain ⟨⟨h2,h3,h4,h5⟩,h6⟩:=h1.of_both.of_fact
    obtain rfl:q=(x.1,x.2.1):=by rw [hq] at h2; exact Option.some.inj h2
    have hlen:x.2.2.2.length=kvs.length:=by rw [h4.length_eq]; exact kvDen_len h3
    refine ⟨_,rfl,fun d ty ps af gd=>?_⟩
    have:=EX.lenM (P:=P) (d:=d) (g:=gd) (ty:=ty) (ps:=ps) (af:=af) (kn1 hs y e.symm) (Pick.here) hT rv w (knf_ev hs [y]) h6
    rw [hlen] at this
    rw [len_eq]; exact this
   | _=>cases h
 ·cases h
theorem y_ia {T e s:Nat} (hT:SL P T e s) (hy:den g a=some (rv y)) (hz:den g b=some (rv z)) (h:iaV s a b=some v):∃ x,den g v=some x∧Yl P w rv (.indexAddr T y z) x:=by
 unfold iaV at h
 split at h
 ·rename_i k j
  have ez:=den_i hz
  split at h
  ·rename_i i o n c
   cases hb:Nat.blt j n with
   | false=>simp [hb] at h
   | true =>
    simp only [hb,cond_true,Option.some.injEq] at h; subst h
    simp only [den,den2,den1,den0,Option.map_eq_some_iff] at hy
    obtain ⟨q,hq,e⟩:=hy
    have hj:j < n:=by rw [blt_eq] at hb; simpa using hb
    exact ⟨_,den_p' hq,fun d ty ps af gd=>EX.indexAddr (kn2a hs y z e.symm) (kn2b hs y z ez) hT ⟨Int.natCast_nonneg _,Int.ofNat_lt.2 hj⟩ rfl rv w (knf_ev hs [y,z]) (Sts.nil w)⟩
  ·rename_i i n
   cases hb:Nat.blt j n with
   | false=>simp [hb] at h
   | true =>
    simp only [hb,cond_true,Option.some.injEq] at h; subst h
    simp only [den,den2,den1,den0,Option.map_eq_some_iff] at hy
    obtain ⟨q,hq,e⟩:=hy
    have hj:j < n:=by rw [blt_eq] at hb; simpa using hb
    exact ⟨_,den_p' hq,fun d ty ps af gd=>EX.indexAddr (kn2a hs y z e.symm) (kn2b hs y z ez) hT ⟨Int.natCast_nonneg _,Int.ofNat_lt.2 hj⟩ (by rw [Nat.zero_add]; rfl) rv w (knf_ev hs [y,z]) (Sts.nil w)⟩
  ·cases h
 ·cases h
theorem y_iar {T n s:Nat} (hT:AR P T n s) (hy:den g a=some (rv y)) (hz:den g b=some (rv z)) (h:iarV n s a b=some v):∃ x,den g v=some x∧Yl P w rv (.indexAddr T y z) x:=by
 unfold iarV at h
 split at h
 ·rename_i k j
  have ez:=den_i hz
  cases hb:Nat.blt j n with
  | false=>simp [hb] at h
  | true =>
   simp only [hb,cond_true] at h
   obtain ⟨bb,oo,h1,h2⟩:=addOff_den hy h
   have hj:j < n:=by rw [blt_eq] at hb; simpa using hb
   exact ⟨_,h2,fun d ty ps af gd=>EX.indexArr (kn2a hs y z h1) (kn2b hs y z ez) hT ⟨Int.natCast_nonneg _,Int.ofNat_lt.2 hj⟩ rfl rv w (knf_ev hs [y,z]) (Sts.nil w)⟩
 ·cases h
theorem y_ixs {T:TypeId} (hT:P.underlying T=some .string) (hy:den g a=some (rv y)) (hz:den g b=some (rv z)) (h:ixsV a b=some v):∃ x,den g v=some x∧Yl P w rv (.index T y z) x:=by
 unfold ixsV at h
 split at h
 ·rename_i n m k j
  have ez:=den_i hz
  obtain ⟨hv,ey⟩:=den_s hy
  cases hb:Nat.blt j n with
  | false=>simp [hb] at h
  | true =>
   simp only [hb,cond_true,Option.some.injEq] at h; subst h
   have hj:j < n:=by rw [blt_eq] at hb; simpa using hb
   have hsz:(j:Int).toNat < (byt n m).size:=by rw [byt_size]; simpa using hj
   refine ⟨_,rfl,fun d ty ps af gd=>?_⟩
   have:=EX.indexS (P:=P) (W0:=w) (L:=[]) (d:=d) (g:=gd) (ty:=ty) (ps:=ps) (af:=af) (kn2a hs y z ey) (kn2b hs y z ez) hT ⟨Int.natCast_nonneg _,hsz⟩ rv w (knf_ev hs [y,z]) (Sts.nil w)
   have hb1:(byt n m)[(Int.ofNat j).toNat]'hsz=UInt8.ofNat (m / 256 ^ (n - 1 - j) % 256):=by
    have h1:=byts_get n (v:=m) hj
    have h2:(byt n m)[(Int.ofNat j).toNat]'hsz=(byts n m)[j]'(by rw [byts_len]; exact hj):=by
     show (byt n m).data[j]'_=_
     simp [byt]
    rw [h2]
    have h3:=List.getElem?_eq_getElem (l:=byts n m) (i:=j) (by rw [byts_len]; exact hj)
    rw [h3] at h1
    exact Option.some.inj h1
   rw [hb1] at this
   have h4:(UInt8.ofNat (m / 256 ^ (n - 1 - j) % 256)).toNat=m / 256 ^ (n - 1 - j) % 256:=by simp
   rw [h4] at this
   exact this
 ·cases h
theorem y_mx {tys:Array TypeId} (hy:den g a=some (rv y)) (hz:den g b=some (rv z)) (h:mxV a b=some v):∃ x,den g v=some x∧Yl P w rv (.call { callee:=.builtin .max,args:=#[y,z],argTypes:=tys }) x:=by
 unfold mxV at h
 split at h
 ·rename_i k m j n
  cases hk:keq k j with
  | false=>simp [hk] at h
  | true =>
   have:=keq_eq hk; subst this
   simp only [hk,cond_true,Option.some.injEq] at h
   have ey:=den_i hy
   have ez:=den_i hz
   subst h
   refine ⟨.int k (if n > m then n else m),?_,fun d ty ps af gd=>EX.max2 (kn2a hs y z ey) (kn2b hs y z ez) rfl rv w (knf_ev hs [y,z]) (Sts.nil w)⟩
   rw [ilt_eq]
   by_cases hlt:m < n <;> simp [hlt,den,den2,den1,den0]
 ·cases h
theorem y_mn {tys:Array TypeId} (hy:den g a=some (rv y)) (hz:den g b=some (rv z)) (h:mnV a b=some v):∃ x,den g v=some x∧Yl P w rv (.call { callee:=.builtin .min,args:=#[y,z],argTypes:=tys }) x:=by
 unfold mnV at h
 split at h
 ·rename_i k m j n
  cases hk:keq k j with
  | false=>simp [hk] at h
  | true =>
   have:=keq_eq hk; subst this
   simp only [hk,cond_true,Option.some.injEq] at h
   have ey:=den_i hy
   have ez:=den_i hz
   subst h
   refine ⟨.int k (if n < m then n else m),?_,fun d ty ps af gd=>by simp [execOp,resolve,invoke,builtin,Builtin.min_,Builtin.min2,ey,ez]⟩
   rw [ilt_eq]
   by_cases hlt:n < m <;> simp [hlt,den,den2,den1,den0]
 ·cases h
end
end
noncomputable section
open Go.RowKit
theorem bytesN_spec:∀ (l:List SV) (n v:Nat) (r:SV),bytesN l n v=some r→v < 256 ^ n →
  ∃ (cs:List Nat) (V:Nat),(∀ c∈cs,c < 256)∧l=cs.map (fun c=>.i .u8 (.ofNat c))∧r=.s (n + cs.length) V∧V < 256 ^ (n + cs.length)∧byts (n + cs.length) V=byts n v++cs.map UInt8.ofNat
 | [],n,v,r,h,hv=>by
  have h':some (SV.s n v)=some r:=h
  injection h' with h'; subst h'
  exact ⟨[],v,by simp,rfl,rfl,hv,by simp⟩
 | x::l,n,v,r,h,hv=>by
  have h':(match (generalizing:=false) x with
   | .i .u8 (.ofNat c)=>bif Nat.blt c 256 then bytesN l (Nat.succ n) (Nat.add (Nat.mul v 256) c) else none
   | _=>none)=some r:=h
  split at h'
  ·rename_i c
   cases hb:Nat.blt c 256 with
   | false=>simp [hb] at h'
   | true =>
    simp only [hb,cond_true] at h'
    have hc:c < 256:=by rw [blt_eq] at hb; simpa using hb
    have hv':v * 256 + c < 256 ^ (n + 1):=by rw [Nat.pow_succ]; omega
    obtain ⟨cs,V,h1,h2,h3,h4,h5⟩:=bytesN_spec l (n + 1) (v * 256 + c) r h' hv'
    have e:n + 1 + cs.length=n + (c::cs).length:=by simp; omega
    refine ⟨c::cs,V,?_,by rw [h2]; rfl,by rw [h3,e],by rw [← e]; exact h4,?_⟩
    ·intro d hd; rcases List.mem_cons.1 hd with rfl | hd
     ·exact hc
     ·exact h1 d hd
    ·rw [← e,h5]
     have h6:byts (n + 1) (v * 256 + c)=byts n v++[UInt8.ofNat c]:=by
      simp only [byts]
      rw [show (v * 256 + c) / 256=v by omega,show (v * 256 + c) % 256=c by omega]
     rw [h6]; simp
  ·cases h'
def oqs (oq:O→Operand→Bool):List O→List Operand→Bool
 | [],[]=>true
 | x::xs,y::ys=>oq x y && oqs oq xs ys
 | _,_=>false
section
variable {g:G} {lk:LK} {rv:Operand→Value} {oq:O→Operand→Bool}
theorem ons_den (hq:∀ x y v,oq x y=true→lk x=some v→den g v=some (rv y)):∀ {xs:List O} {ys:List Operand} {vs:List SV},oqs oq xs ys=true→ons lk xs=some vs→dens (den g) vs=some (ys.map rv)
 | [],[],vs,_,h=>by have h':some []=some vs:=h; injection h' with h'; subst h'; rfl
 | x::xs,y::ys,vs,hc,h=>by
  simp only [oqs,Bool.and_eq_true] at hc
  have h':Option.rec (motive:=fun _=>Option (List SV)) none (fun v=>Option.rec (motive:=fun _=>Option (List SV)) none (fun vs=>some (v::vs)) (ons lk xs)) (lk x)=some vs:=h
  cases h1:lk x with
  | none=>rw [h1] at h'; cases h'
  | some v =>
   rw [h1] at h'
   cases h2:ons lk xs with
   | none=>rw [h2] at h'; cases h'
   | some us =>
    rw [h2] at h'
    injection h' with h'; subst h'
    exact dens_mk (hq x y v hc.1 h1) (ons_den hq hc.2 h2)
 | [],_::_,_,hc,_=>by cases hc
 | _::_,[],_,hc,_=>by cases hc
theorem atom_den0 {v:SV} {x:Value} (ha:atom v=true) (h:den g v=some x):den0 g v=some x:=by
 cases v <;> first | exact h | (cases ha; done)
theorem atoms_den0:∀ {vs:List SV} {xs:List Value},atoms vs=true→dens (den g) vs=some xs→dens (den0 g) vs=some xs
 | [],xs,_,h=>h
 | v::r,xs,ha,h=>by
  have ha':and (atom v) (atoms r)=true:=ha
  simp only [Bool.and_eq_true] at ha'
  obtain ⟨x,us,h1,h2,rfl⟩:=dens_cons h
  exact dens_mk (atom_den0 ha'.1 h1) (atoms_den0 ha'.2 h2)
end
section
variable {P:Program} {w W0:World} {rv:Operand→Value} {g:G} {me:T Ob} {R:List Thing} {y z u:Operand} {a b c v:SV} (hs:Std rv)
include hs
theorem y_cvi {src dst:TypeId} {k:IntKind} {td:TypeDesc} (h1:P.underlying src=some td) (h2:P.underlying dst=some (.int k)) (hy:den g a=some (rv y)) (h:cviV k a=some v):∃ x,den g v=some x∧Yl P w rv (.convert src dst y) x:=by
 unfold cviV at h
 split at h
 ·injection h with h; subst h
  exact ⟨_,rfl,fun d ty ps af gd=>EX.conv (kn1 hs y (den_i hy)) h1 h2 (wr_eq _ _).symm rv w (knf_ev hs [y]) (Sts.nil w)⟩
 ·rename_i aa bb
  split at h
  ·injection h with h; subst h
   simp only [den,den2,den1,den0] at hy
   split at hy
   ·rename_i hc
    injection hy with hy
    refine ⟨.int .i64 g.w,by simp [den,den2,den1,den0,hc],fun d ty ps af gd=>EX.conv (kn1 hs y hy.symm) h1 h2 (IntWalk.i64_in _ ⟨by omega,by have:=g.hw; omega⟩) rv w (knf_ev hs [y]) (Sts.nil w)⟩
   ·cases hy
  ·cases h
 ·split at h
  ·injection h with h; subst h
   have e:rv y=.int .u8 g.n:=(Option.some.inj hy).symm
   exact ⟨.int .i64 g.n,rfl,fun d ty ps af gd=>EX.conv (kn1 hs y e) h1 h2 (IntWalk.i64_in _ ⟨by omega,by have:=g.hn; omega⟩) rv w (knf_ev hs [y]) (Sts.nil w)⟩
  ·cases h
 ·cases h
omit hs in
theorem sliceCells_at {zz n:Nat} {l:List SV} {x:Value} (hm:Sts W0 w (mem g me++R)) (hy:den g a=some x) (h:sliceCells me zz a=some (n,l)) :
  ∃ bb oo cc xs,x=.slice (some ⟨bb,oo,none⟩) n cc∧dens (den1 g) l=some xs∧l.length=n * zz∧∀ k v,xs[k]?=some v→w.cell? ⟨bb,oo + k,none⟩=some v:=by
 unfold sliceCells at h
 split at h
 ·rename_i i o m c
  simp only [den,den2,den1,den0,Option.map_eq_some_iff] at hy
  obtain ⟨q,hq,e⟩:=hy
  cases hc:cellsOf me i with
  | none=>rw [hc] at h; cases h
  | some cs =>
   rw [hc] at h; dsimp only at h
   cases hsb:sub o (Nat.mul m zz) cs with
   | none=>rw [hsb] at h; cases h
   | some l' =>
    rw [hsb] at h; simp only [Option.some.injEq,Prod.mk.injEq] at h
    obtain ⟨rfl,rfl⟩:=h
    obtain ⟨q',xs,k1,k2,k3⟩:=cells_at hm hc
    obtain rfl:q=q':=by rw [hq] at k1; exact Option.some.inj k1
    obtain ⟨s1,s2⟩:=sub_spec hsb
    have s2':o + m * zz≤cs.length:=s2
    refine ⟨q.1,o,c,_,e.symm,by rw [s1]; exact dens_take _ (dens_drop _ k2),by rw [s1]; simp only [List.length_take,List.length_drop]; show min (m * zz) _=_; omega,fun k v hv=>k3 (o + k) v ?_⟩
    have hv':((xs.drop o).take (m * zz))[k]?=some v:=hv
    rcases Nat.lt_or_ge k (m * zz) with hk | hk
    ·rwa [List.getElem?_take_of_lt hk,List.getElem?_drop] at hv'
    ·rw [List.getElem?_take_eq_none hk] at hv'; cases hv'
 ·rename_i i m
  simp only [den,den2,den1,den0,Option.map_eq_some_iff] at hy
  obtain ⟨q,hq,e⟩:=hy
  cases hc:cellsOf me i with
  | none=>rw [hc] at h; cases h
  | some cs =>
   rw [hc] at h; dsimp only at h
   cases hsb:front (Nat.mul m zz) cs with
   | none=>rw [hsb] at h; cases h
   | some l' =>
    rw [hsb] at h; simp only [Option.some.injEq,Prod.mk.injEq] at h
    obtain ⟨rfl,rfl⟩:=h
    obtain ⟨q',xs,k1,k2,k3⟩:=cells_at hm hc
    obtain rfl:q=q':=by rw [hq] at k1; exact Option.some.inj k1
    obtain ⟨s1,s2⟩:=front_spec _ _ _ hsb
    have s2':m * zz≤cs.length:=s2
    refine ⟨q.1,0,q.2,_,e.symm,by rw [s1]; exact dens_take _ k2,by rw [s1]; simp only [List.length_take]; show min (m * zz) _=_; omega,fun k v hv=>k3 (0 + k) v ?_⟩
    have hv':(xs.take (m * zz))[k]?=some v:=hv
    rcases Nat.lt_or_ge k (m * zz) with hk | hk
    ·rwa [List.getElem?_take_of_lt hk,← Nat.zero_add k] at hv'
    ·rw [List.getElem?_take_eq_none hk] at hv'; cases hv'
 ·cases h
theorem y_cvs {src dst e:TypeId} (h1:P.underlying src=some (.slice e)) (h2:P.underlying e=some (.int .u8)) (h3:P.underlying dst=some .string) (hm:Sts W0 w (mem g me++R)) (hy:den g a=some (rv y)) (h:cvsV me a=some v) :
  ∃ x,den g v=some x∧Yl P w rv (.convert src dst y) x:=by
 unfold cvsV at h
 split at h
 ·injection h with h; subst h
  have ey:rv y=.slice none 0 0:=(Option.some.inj hy).symm
  refine ⟨.string (byt 0 0),by simp [den,den2,den1,den0],fun d ty ps af gd=>?_⟩
  have hr:(convert src dst (.slice none 0 0)).run P w=.ok (.string (byt 0 0)) w:=by
   rw [run_convert_bytes_string w src dst e none 0 0 h1 h2 h3]
   simp [Conv.bytesToString,byt,byts]
   rfl
  simp only [execOp,ey,Sem.run_bind,hr,Result.andThen_ok]; rfl
 ·rename_i hne
  cases hc:sliceCells me 1 a with
  | none=>rw [hc] at h; cases h
  | some p =>
   obtain ⟨n,l⟩:=p
   rw [hc] at h
   simp only at h
   obtain ⟨bb,oo,cc,xs,e1,e2,e3,e4⟩:=sliceCells_at hm hy hc
   obtain ⟨cs,V,k1,k2,k3,k4,k5⟩:=bytesN_spec l 0 0 v h (by simp)
   subst k3
   simp only [Nat.zero_add] at k4 k5 ⊢
   have hlen:cs.length=n:=by have:=congrArg List.length k2; simp at this; omega
   have hxs:∀ (cs:List Nat) (xs:List Value),dens (den1 g) (cs.map fun c=>SV.i .u8 (.ofNat c))=some xs→xs=cs.map fun c:Nat=>Value.int .u8 (c:Int):=by
    intro cs
    induction cs with
    | nil=>intro xs hx; simp [dens] at hx; subst hx; rfl
    | cons c r ih =>
     intro xs hx
     obtain ⟨x,us,q1,q2,rfl⟩:=dens_cons hx
     rw [ih us q2]
     have:x=.int .u8 (c:Int):=by simpa [den1,den0,eq_comm] using q1
     rw [this]; rfl
   rw [k2] at e2
   have exs:=hxs cs xs e2
   refine ⟨_,den_s' k4,fun d ty ps af gd=>?_⟩
   have hr:=run_convert_bytes_arg (P:=P) w src e h1 h2 bb oo n cc (cs.map fun c:Nat=>(c:Int)) (by simpa using hlen) (fun i hi=>by
    have hi':i < cs.length:=by omega
    have:=e4 i (.int .u8 ((cs[i]:Nat):Int)) (by rw [exs]; simp [hi'])
    rw [this]
    simp [List.getD,hi']) dst h3
   have hst:strOfNums (cs.map fun c:Nat=>(c:Int))=byt cs.length V:=by
    unfold strOfNums byt
    rw [k5]
    simp [byts,Function.comp_def]
   rw [hst] at hr
   simp only [execOp,e1,Sem.run_bind,hr,Result.andThen_ok]; rfl
theorem y_mkf {f:Nat} {us cs:List Operand} {vs ws:List SV} {p:Pos} (hp:p.nat=f + 1) (h1:dens (den g) vs=some (us.map rv)) (h2:dens (den g) ws=some (cs.map rv)) (ha:and (atoms vs) (atoms ws)=true):∃ x,den g (.f p vs ws)=some x∧Yl P w rv (.makeFunc (.func f) us.toArray cs.toArray) x:=by
 simp only [Bool.and_eq_true] at ha
 refine ⟨.func (.func f) (us.map rv).toArray (cs.map rv).toArray,?_,fun d ty ps af gd=>?_⟩
 ·simp [den,den2,den1,atoms_den0 ha.1 h1,atoms_den0 ha.2 h2,hp]
 ·simp only [execOp,List.map_toArray,Sem.run_bind,Instr.makeFunc,Sem.run_pure,Result.andThen_ok]
omit hs in
theorem cut_part {e off n:Nat} {ag:Bool} {xs:List Value} {l:List SV} (hd:dens (den1 g) l=some xs) (h:cut off n ag (.a l)=some v) (ht:if ag then Many P e n else One P e):∃ x,den g v=some x∧(part e xs.toArray off).run P w=.ok x w:=by
 cases ag with
 | true =>
  simp only [cut,cond_true] at h
  simp only [if_true] at ht
  cases hsb:sub off n l with
  | none=>simp [hsb] at h
  | some r =>
   simp only [hsb,Option.some.injEq] at h; subst h
   obtain ⟨s1,s2⟩:=sub_spec hsb
   refine ⟨_,den_a' (by rw [s1]; exact dens_take n (dens_drop off hd)),?_⟩
   simp only [part,Sem.run_bind,(ht w).1,(ht w).2,Result.andThen_ok,if_true,Sem.run_pure]
   congr 3
   apply Array.ext'
   simp [List.extract_eq_take_drop]
 | false =>
  simp only [cut,cond_false,nth_eq] at h
  simp only [Bool.false_eq_true,if_false] at ht
  obtain ⟨x,h3,h4⟩:=dens_get hd h
  refine ⟨x,den1_3 h4,?_⟩
  simp only [part,Sem.run_bind,ht w,Result.andThen_ok,Bool.false_eq_true,if_false,List.getElem?_toArray,h3,Sem.run_pure]
theorem y_fld {s i e off n:Nat} {ag:Bool} {fs:Array Field} (hu:P.underlying s=some (.struct fs)) (hf:(fs[i]?).map (fun f=>(f.type,f.offset))=some (e,off)) (ht:if ag then Many P e n else One P e) (hy:den g a=some (rv y)) (h:cut off n ag a=some v):∃ x,den g v=some x∧Yl P w rv (.field s y i) x:=by
 cases a with
 | a l =>
  obtain ⟨xs,h1,h2⟩:=den_a hy
  obtain ⟨x,h3,h4⟩:=cut_part (P:=P) (w:=w) h1 h ht
  refine ⟨x,h3,fun d ty ps af gd=>?_⟩
  obtain ⟨f,hf1,hf2,hf3⟩:∃ f,fs[i]?=some f∧f.type=e∧f.offset=off:=by
   cases hh:fs[i]? with
   | none=>simp [hh] at hf
   | some f=>rw [hh] at hf; simp at hf; exact ⟨f,rfl,hf⟩
  subst hf2; subst hf3
  simp only [execOp,h2,Sem.run_bind,Instr.field,underlying,run_program,hu,Result.andThen_ok,Sem.run_pure,hf1,asAgg,h4]
 | _=>cases h
theorem y_ixa {T n s e:Nat} {ag:Bool} (hT:P.underlying T=some (.array n e)) (hsz:(P.info? e).map (·.size)=some s) (ht:if ag then Many P e s else One P e) (hy:den g a=some (rv y)) (hz:den g b=some (rv z)) (h:ixaV n s ag a b=some v):∃ x,den g v=some x∧Yl P w rv (.index T y z) x:=by
 unfold ixaV at h
 split at h
 ·rename_i k j
  cases hb:Nat.blt j n with
  | false=>simp [hb] at h
  | true =>
   simp only [hb,cond_true] at h
   have hj:j < n:=by rw [blt_eq] at hb; simpa using hb
   cases a with
   | a l =>
    obtain ⟨xs,h1,h2⟩:=den_a hy
    obtain ⟨x,h3,h4⟩:=cut_part (P:=P) (w:=w) h1 h ht
    refine ⟨x,h3,fun d ty ps af gd=>?_⟩
    exact EX.indexA (kn2a hs y z h2) (kn2b hs y z (den_i hz)) ⟨e,hT,hsz⟩ true ⟨Int.natCast_nonneg _,Int.ofNat_lt.2 hj⟩ (fun e' w' he=>by
     rw [hT] at he; injection he with he; injection he with _ he; subst he
     obtain ⟨x',h3',h4'⟩:=cut_part (P:=P) (w:=w') h1 h ht
     rw [h3] at h3'; injection h3' with h3'; subst h3'
     exact h4') rv w (knf_ev hs [y,z]) (Sts.nil w)
   | _=>cases h
 ·cases h
end
end
noncomputable section
open Go.RowKit
theorem intK {P:Program} {K:TypeId} {k:IntKind} (hK:P.underlying K=some (.int k)) (hk:keq k .u16=false):KeyL P K (ienc k):=by
 have he:ienc k=fun n=>.int k n:=funext (ienc_i hk)
 rw [he]
 refine ⟨?_,?_,⟨_,hK,.inl fun a b=>?_⟩,?_⟩
 ·intro a b w
  have:∀ d:Nat,(Op.equalIn (d + 1) K (.int k a) (.int k b)).run P w=.ok (decide (a=b)) w:=fun d=>by
   simp [Op.equalIn,run_underlying hK]
   rfl
  simp [Op.equal,Op.maxDepth,this 9999]
 ·intro a e w
  rw [Instr.checkKey]; simp [run_underlying hK]
 ·simp [Instr.sameNow]; rfl
 ·intro a; simp [Instr.sameBits]
theorem pairK {P:Program} {K E:TypeId} {i:TypeInfo} (hK:P.underlying K=some (.array 2 E)) (hE:P.underlying E=some (.int .i64)) (hi:P.info? E=some i) (hc:P.cellsOf E=1) (h1:One P E):KeyL P K (ienc .u16):=by
 have he:ienc .u16=fun n=>.agg #[.int .i64 (n.fdiv 4294967296),.int .i64 (n.fmod 4294967296)]:=rfl
 rw [he]
 have hp:∀ (a b:Value) w,(part E #[a,b] 0).run P w=.ok a w∧(part E #[a,b] 1).run P w=.ok b w:=fun a b w=>by
  constructor <;> simp [part,h1 w]
 have hp0:=fun a b w=>(hp a b w).1
 have hp1:=fun a b w=>(hp a b w).2
 refine ⟨?_,?_,⟨_,hK,.inr fun a b=>?_⟩,?_⟩
 ·intro a b w
  have heq:∀ (d:Nat) (m n:Int),(Op.equalIn (d + 1) E (.int .i64 m) (.int .i64 n)).run P w=.ok (m == n) w:=fun d m n=>run_equalIn_int w d E _ _ m n hE
  have:(Op.equalIn 10000 K (.agg #[.int .i64 (a.fdiv 4294967296),.int .i64 (a.fmod 4294967296)]) (.agg #[.int .i64 (b.fdiv 4294967296),.int .i64 (b.fmod 4294967296)])).run P w=.ok (decide (a=b)) w:=by
   rw [run_equalIn_array w 9999 _ _ hK hi]
   simp only [show List.range 2=[0,1] from rfl,Op.eqItems,hc,Nat.zero_mul,Nat.one_mul,Sem.run_bind,hp0,hp1,Result.andThen_ok,heq 9998]
   have h3:a=b↔(a.fdiv 4294967296=b.fdiv 4294967296∧a.fmod 4294967296=b.fmod 4294967296):=by
    constructor
    ·rintro rfl; exact ⟨rfl,rfl⟩
    ·rintro ⟨e1,e2⟩
     rw [← Int.mul_fdiv_add_fmod a 4294967296,← Int.mul_fdiv_add_fmod b 4294967296,e1,e2]
   by_cases q1:a.fdiv 4294967296=b.fdiv 4294967296 <;> by_cases q2:a.fmod 4294967296=b.fmod 4294967296 <;> simp [q1,q2,h3,hp1,heq 9998]
  simp [Op.equal,Op.maxDepth,this]
 ·intro a e w
  rw [Instr.checkKey]
  simp only [Sem.run_bind,run_underlying hK,Result.andThen_ok]
  have hck:∀ n (m:Int),(Instr.checkKey e (n + 1) E (.int .i64 m)).run P w=.ok () w:=fun n m=>by rw [Instr.checkKey]; simp [run_underlying hE]
  simp [Std.Legacy.Range.forIn_eq_forIn_range',Std.Legacy.Range.size,List.range',List.forIn_cons,Sem.run_bind,run_sizeOf w hi,hc,hp0,hp1,hck 9998]
 ·simp [Instr.sameNow]
 ·intro a; simp [Instr.sameBits]
theorem pairC (a b m:Nat):(Int.ofNat (Nat.add (Nat.mul a m) b))=(a:Int) * (m:Int) + (b:Int):=by
 show ((a * m + b:Nat):Int)=_
 simp
theorem pairD (a b m:Nat) (h:b < m):((a:Int) * (m:Int) + (b:Int)).fdiv m=a∧((a:Int) * (m:Int) + (b:Int)).fmod m=b:=by
 have hm:(0:Int) < (m:Int):=by omega
 have hn:(0:Int)≤(m:Int):=by omega
 constructor
 ·rw [Int.fdiv_eq_ediv_of_nonneg _ hn,Int.add_comm,Int.add_mul_ediv_right _ _ (by omega),Int.ediv_eq_zero_of_lt (by omega) (by omega)]; simp
 ·rw [Int.fmod_eq_emod_of_nonneg _ hn,Int.add_comm,Int.add_mul_emod_self_right,Int.emod_eq_of_lt (by omega) (by omega)]
theorem key_enc {g:G} {kk:IntKind} {k:SV} {n:Int} {v:Value} (h:keyN kk k=some n) (hv:den g k=some v):v=ienc kk n:=by
 unfold keyN at h
 cases hk:keq kk .u16 with
 | false =>
  rw [hk] at h; simp only [cond_false] at h
  unfold keyI at h
  split at h
  ·rename_i j m
   cases hj:keq j kk with
   | false=>rw [hj] at h; cases h
   | true =>
    rw [hj] at h; simp only [cond_true,Option.some.injEq] at h; subst h
    have:=keq_eq hj; subst this
    rw [ienc_i hk]; exact den_i hv
  ·cases h
 | true =>
  rw [hk] at h; simp only [cond_true] at h
  unfold keyP at h
  split at h
  ·rename_i a b
   cases hb:Nat.blt b 4294967296 with
   | false=>rw [hb] at h; cases h
   | true =>
    rw [hb] at h; simp only [cond_true,Option.some.injEq] at h; subst h
    have hb':b < 4294967296:=Nat.le_of_ble_eq_true hb
    have e1:v=.agg #[.int .i64 (a:Int),.int .i64 (b:Int)]:=(Option.some.inj hv).symm
    unfold ienc; rw [hk,e1,cond_true]
    have e2:(Int.ofNat (Nat.add (Nat.mul a 4294967296) b))=(a:Int) * 4294967296 + b:=pairC a b 4294967296
    obtain ⟨e3,e4⟩:=pairD a b 4294967296 hb'
    rw [e2]
    show _=Value.agg #[.int .i64 (((a:Int) * ((4294967296:Nat):Int) + (b:Int)).fdiv ((4294967296:Nat):Int)),.int .i64 (((a:Int) * ((4294967296:Nat):Int) + (b:Int)).fmod ((4294967296:Nat):Int))]
    rw [e3,e4]
  ·cases h
abbrev look' (kvs:List (Int × Value)) (a:Int):Option Value:=Go.Proofs.YtadggjnohohedaaGreatDoor.look kvs a
theorem look_mem:∀ {l:List (Int × Value)} {a:Int} {v:Value},(l.map (·.1)).Nodup→(look' l a=some v↔(a,v)∈l)
 | [],a,v,_=>by simp [look',Go.Proofs.YtadggjnohohedaaGreatDoor.look]
 | (b,u)::r,a,v,h=>by
  simp only [List.map_cons,List.nodup_cons] at h
  have ih:=look_mem (l:=r) (a:=a) (v:=v) h.2
  by_cases e:a=b
  ·subst e
   simp only [look',Go.Proofs.YtadggjnohohedaaGreatDoor.look,List.find?_cons,decide_true,Option.map_some,Option.some.injEq,List.mem_cons,Prod.mk.injEq,true_and]
   constructor
   ·intro h'; exact .inl h'.symm
   ·rintro (h' | h')
    ·exact h'.symm
    ·exact (h.1 (List.mem_map.2 ⟨_,h',rfl⟩)).elim
  ·have:look' ((b,u)::r) a=look' r a:=by simp [look',Go.Proofs.YtadggjnohohedaaGreatDoor.look,List.find?_cons,e]
   rw [this,ih]
   simp [e]
theorem look_perm {l m:List (Int × Value)} (p:l.Perm m) (h:(m.map (·.1)).Nodup) (a:Int):look' l a=look' m a:=by
 have h':(l.map (·.1)).Nodup:=(p.map (·.1)).nodup_iff.2 h
 apply Option.ext
 intro v
 rw [look_mem h',look_mem h]
 exact p.mem_iff
theorem den_t' {g:G} {l:List SV} {xs:List Value} (h:dens (den2 g) l=some xs):den g (.t l)=some (.tuple xs.toArray):=by simp [den,h]
section
variable {g:G}
theorem kvDen_keys:∀ {l:List (Int × SV)} {vs:List (Int × Value)},kvDen g l=some vs→vs.map (·.1)=l.map (·.1)
 | [],vs,hv=>by simp [kvDen] at hv; subst hv; rfl
 | (k1,k2)::r,vs,hv=>by
  simp only [kvDen] at hv
  cases a1:den2 g k2 with
  | none=>simp [a1] at hv
  | some v1=>cases a2:kvDen g r with
   | none=>simp [a1,a2] at hv
   | some v2=>simp [a1,a2] at hv; subst hv; simp [kvDen_keys a2]
theorem look_den:∀ {l:List (Int × SV)} {vs:List (Int × Value)} (a:Int),kvDen g l=some vs→(∀ x,look l a=some x→∃ v,den2 g x=some v∧look' vs a=some v)∧(look l a=none→look' vs a=none)
 | [],vs,a,hv=>by simp [kvDen] at hv; subst hv; exact ⟨fun x h=>(by cases h),fun _=>rfl⟩
 | (k1,k2)::r,vs,a,hv=>by
  simp only [kvDen] at hv
  cases a1:den2 g k2 with
  | none=>simp [a1] at hv
  | some v1=>cases a2:kvDen g r with
   | none=>simp [a1,a2] at hv
   | some v2 =>
    simp [a1,a2] at hv; subst hv
    have ih:=look_den a a2
    have hl:look ((k1,k2)::r) a=bif ieq a k1 then some k2 else look r a:=rfl
    rw [hl,ieq_eq]
    by_cases e:a=k1
    ·subst e
     refine ⟨fun x h=>?_,fun h=>by simp at h⟩
     simp at h; subst h
     exact ⟨v1,a1,by simp [look',Go.Proofs.YtadggjnohohedaaGreatDoor.look]⟩
    ·have:look' ((k1,v1)::v2) a=look' v2 a:=by simp [look',Go.Proofs.YtadggjnohohedaaGreatDoor.look,List.find?_cons,e]
     rw [this]
     simp only [e,decide_false,cond_false]
     exact ih
end
def parts (pl:Nat→Option (Nat × Nat)) (oq:O→Operand→Bool):List (Nat × Nat × O)→List (Nat × Operand)→Bool
 | [],[]=>true
 | (off,size,x)::qs,(i,y)::ps=>(match pl i with | some (o,s)=>Nat.beq o off && Nat.beq s size | none=>false) && oq x y && parts pl oq qs ps
 | _,_=>false
theorem putL_of:∀ (n:Nat) (vs C:List Value),n + vs.length≤C.length→putL C n vs=some (C.take n++vs++C.drop (n + vs.length))
 | 0,[],C,h=>by simp [putL]
 | 0,v::vs,[],h=>by simp at h
 | 0,v::vs,c::C,h=>by
  simp only [putL]
  rw [putL_of 0 vs C (by simp at h ⊢; omega)]
  simp
 | n + 1,vs,[],h=>by simp at h
 | n + 1,vs,c::C,h=>by
  simp only [putL]
  rw [putL_of n vs C (by simp at h ⊢; omega)]
  rw [show n + 1 + vs.length=(n + vs.length) + 1 by omega]; simp
theorem fill_den {g:G} {lk:LK} {rv:Operand→Value} {oq:O→Operand→Bool} {pl:Nat→Option (Nat × Nat)} (hq:∀ x y v,oq x y=true→lk x=some v→den g v=some (rv y)) :
  ∀ {qs:List (Nat × Nat × O)} {ps:List (Nat × Operand)} {z l:List SV} {zs:List Value},parts pl oq qs ps=true→fill lk qs z=some l→dens (den1 g) z=some zs →
   ∃ cs,dens (den1 g) l=some cs∧fillL pl zs (ps.map fun p=>(p.1,rv p.2))=some cs
 | [],[],z,l,zs,_,h,hz=>by
  have h':some z=some l:=h
  injection h' with h'; subst h'
  exact ⟨zs,hz,rfl⟩
 | (off,size,x)::qs,(i,y)::ps,z,l,zs,hc,h,hz=>by
  simp only [parts,Bool.and_eq_true] at hc
  obtain ⟨⟨h1,h2⟩,h3⟩:=hc
  cases hp:pl i with
  | none=>simp [hp] at h1
  | some q =>
   obtain ⟨o,s⟩:=q
   rw [hp] at h1; simp only [Bool.and_eq_true] at h1
   have e1:=Nat.eq_of_beq_eq_true h1.1
   have e2:=Nat.eq_of_beq_eq_true h1.2
   subst e1; subst e2
   have h':Option.rec (motive:=fun _=>Option (List SV)) none (fun v=>Option.rec (motive:=fun _=>Option (List SV)) none (fun cs=>bif Nat.beq (len cs) s then Option.rec (motive:=fun _=>Option (List SV)) none (fun z=>fill lk qs z) (layAt o cs z) else none) (cells v)) (lk x)=some l:=h
   cases a1:lk x with
   | none=>rw [a1] at h'; cases h'
   | some v =>
    rw [a1] at h'; dsimp only at h'
    cases a2:cells v with
    | none=>rw [a2] at h'; cases h'
    | some cs =>
     rw [a2] at h'; dsimp only at h'
     cases a3:Nat.beq (len cs) s with
     | false=>rw [a3] at h'; cases h'
     | true =>
      rw [a3] at h'; simp only [cond_true] at h'
      cases a4:layAt o cs z with
      | none=>rw [a4] at h'; cases h'
      | some z' =>
       rw [a4] at h'; dsimp only at h'
       obtain ⟨b1,b2⟩:=den_cells (hq x y v h2 a1) a2
       obtain ⟨b3,b4⟩:=layAt_spec _ _ _ _ a4
       have hl:(vc (rv y)).length=s:=by rw [dens_len b1,← len_eq]; exact Nat.eq_of_beq_eq_true a3
       have hl2:cs.length=s:=by rw [← len_eq]; exact Nat.eq_of_beq_eq_true a3
       have hzl:=dens_len hz
       have hd:dens (den1 g) z'=some (zs.take o++vc (rv y)++zs.drop (o + (vc (rv y)).length)):=by
        rw [b3,hl,← hl2]
        exact dens_app (dens_app (dens_take o hz) b1) (dens_drop _ hz)
       obtain ⟨ds,c1,c2⟩:=fill_den hq h3 h' hd
       refine ⟨ds,c1,?_⟩
       simp only [List.map_cons,fillL,hp,hl,Nat.beq_refl,cond_true]
       rw [putL_of o (vc (rv y)) zs (by rw [hl,hzl,← hl2]; exact b4)]
       exact c2
 | [],_::_,_,_,_,hc,_,_=>by cases hc
 | _::_,[],_,_,_,hc,_,_=>by cases hc
def EqT (P:Program) (T:TypeId) (zz:List SV):Prop:=∀ (g:G) (l m:List SV) (xs ys:List Value) (b:Bool) (w:World) (rv:Operand→Value) (y z:Operand) (T':TypeId) (op:A2) (v:SV),shps l zz=true→dens (den1 g) l=some xs→dens (den1 g) m=some ys→rv y=.agg xs.toArray→rv z=.agg ys.toArray→eqO op (eqs l m)=some v →
 ∃ x,den g v=some x∧Yl P w rv (.binOp (a2 op) T y z T') x
section
variable {P:Program} {w W0:World} {rv:Operand→Value} {g:G} {me:T Ob} {R:List Thing} {y z u:Operand} {a b c v:SV} (hs:Std rv)
include hs
theorem y_bld {T:TypeId} {lk:LK} {oq:O→Operand→Bool} {pl:Nat→Option (Nat × Nat)} {qs:List (Nat × Nat × O)} {ps:List (Nat × Operand)} {zz l:List SV} {zs:List Value} (hq:∀ x y v,oq x y=true→lk x=some v→den g v=some (rv y))
  (hb:BD P T zs pl) (hz:dens (den1 g) zz=some zs) (hp:parts pl oq qs ps=true) (h:fill lk qs zz=some l):∃ x,den g (.a l)=some x∧Yl P w rv (.build T ps.toArray) x:=by
 obtain ⟨cs,h1,h2⟩:=fill_den hq hp h hz
 refine ⟨_,den_a' h1,fun d ty pos af gd=>?_⟩
 have h3:P.built T (ps.map fun p=>(p.1,rv p.2))=some cs.toArray:=by rw [hb]; exact fillL_spec h2
 have h4:=run_build (P:=P) w T (ps.map fun p=>(p.1,rv p.2)).toArray cs.toArray (by simpa using h3)
 have h5:(ps.toArray.map fun (p:Nat × Operand)=>(p.1,rv p.2))=(ps.map fun p=>(p.1,rv p.2)).toArray:=by simp
 simp only [execOp]
 rw [show (ps.toArray.map fun (x:Nat × Operand)=>match x with | (i,x)=>(i,rv x))=(ps.map fun p=>(p.1,rv p.2)).toArray from by simp]
 simp only [Sem.run_bind,h4,Result.andThen_ok]; rfl
theorem y_lk {T K E:TypeId} {kk:IntKind} {zv:Value} {zz:SV} {ok:Bool} (hT:P.underlying T=some (.map K E)) (hK:KeyL P K (ienc kk)) (hz:ZV P E zv) (hzz:den2 g zz=some zv) (hm:Sts W0 w (mem g me++R)) (hy:den g a=some (rv y)) (hk:den g b=some (rv z)) (h:lkV me kk zz a b ok=some v) :
  ∃ x,den g v=some x∧Yl P w rv (.lookup T y z ok) x:=by
 unfold lkV at h
 split at h
 ·rename_i i
  cases hg:EV.T.get i me with
  | none=>rw [hg] at h; cases h
  | some o =>
   rw [hg] at h
   cases o with
   | m k kvs =>
    dsimp only at h
    cases hc:keq kk k with
    | false=>rw [hc] at h; cases h
    | true =>
     rw [hc] at h; simp only [cond_true] at h
     have e2:=keq_eq hc
     subst e2
     cases hn:keyN kk b with
     | none=>rw [hn] at h; cases h
     | some n =>
     rw [hn] at h; dsimp only at h
     simp only [den,den2,den1,den0,Option.map_eq_some_iff] at hy
     obtain ⟨q,hq,e⟩:=hy
     have ez:=key_enc hn hk
     obtain ⟨x,h1⟩:=(mout hm hg).of_some
     obtain ⟨⟨h2,h3,h4,h5⟩,h6⟩:=h1.of_both.of_fact
     obtain rfl:q=(x.1,x.2.1):=by rw [hq] at h2; exact Option.some.inj h2
     have hlp:=look_perm h4 (by rw [kvDen_keys h3]; exact h5) n
     obtain ⟨l1,l2⟩:=look_den n h3
     have hrun:∀ d ty ps af gd,(execOp rv ⟨d,.lookup T y z ok,ty,ps,af,gd⟩).run P w=.ok (.value (if ok then .tuple #[lookV zv (look' x.2.2.1 n),.bool (look' x.2.2.1 n).isSome] else lookV zv (look' x.2.2.1 n))) w:=by
      intro d ty ps af gd
      rw [← hlp]
      cases ok with
      | true=>exact EX.lookupOk (kn2a hs y z e.symm) (kn2b hs y z ez) .here hK hT hz rv w (knf_ev hs [y,z]) h6
      | false=>exact EX.lookup (kn2a hs y z e.symm) (kn2b hs y z ez) .here hK hT hz rv w (knf_ev hs [y,z]) h6
     cases hl:look kvs n with
     | none =>
      rw [hl] at h; simp only [Option.some.injEq] at h; subst h
      refine ⟨_,?_,hrun⟩
      rw [l2 hl]
      cases ok with
      | true=>exact den_t' (dens_mk hzz (dens_mk (x:=.b false) (v:=.bool false) rfl rfl))
      | false=>simpa [lookV] using den2_3 hzz
     | some x' =>
      rw [hl] at h; simp only [Option.some.injEq] at h; subst h
      obtain ⟨vv,m1,m2⟩:=l1 x' hl
      refine ⟨_,?_,hrun⟩
      rw [m2]
      cases ok with
      | true =>
       exact den_t' (dens_mk m1 (dens_mk (x:=.b true) (v:=.bool true) rfl rfl))
      | false=>simpa [lookV] using den2_3 m1
   | _=>cases h
 ·cases h
theorem y_nil {T:TypeId} {td:TypeDesc} {op:A2} {T':TypeId} (hT:P.underlying T=some td) (hp:tkOk .p td=true) (hy:den g a=some (rv y)) (hz:rv z=.pointer none) (h:eqO op (isNil a)=some v):∃ x,den g v=some x∧Yl P w rv (.binOp (a2 op) T y z T') x:=by
 cases td <;> simp only [tkOk,Bool.false_eq_true] at hp
 cases a with
 | p i o =>
  obtain ⟨q,e1,e2⟩:=den_p hy
  cases op <;> simp only [eqO,isNil,Option.map_some,Option.some.injEq,reduceCtorEq] at h
  ·subst h; exact ⟨_,rfl,fun d ty ps af gd=>EX.eqlN (kn2a hs y z e2) (kn2b hs y z hz) hT rv w (knf_ev hs [y,z]) (Sts.nil w)⟩
  ·subst h; exact ⟨_,rfl,fun d ty ps af gd=>EX.neqN (kn2a hs y z e2) (kn2b hs y z hz) hT rv w (knf_ev hs [y,z]) (Sts.nil w)⟩
 | pn =>
  have e2:rv y=.pointer none:=(Option.some.inj hy).symm
  cases op <;> simp only [eqO,isNil,Option.map_some,Option.some.injEq,reduceCtorEq] at h
  ·subst h; exact ⟨_,rfl,fun d ty ps af gd=>EX.eqlN (kn2a hs y z e2) (kn2b hs y z hz) hT rv w (knf_ev hs [y,z]) (Sts.nil w)⟩
  ·subst h; exact ⟨_,rfl,fun d ty ps af gd=>EX.neqN (kn2a hs y z e2) (kn2b hs y z hz) hT rv w (knf_ev hs [y,z]) (Sts.nil w)⟩
 | _=>cases op <;> simp [eqO,isNil] at h
end
end
noncomputable section
open Go.RowKit
section
variable {P:Program} {w W0:World} {rv:Operand→Value} {g:G} {me:T Ob} {R:List Thing} {y z u:Operand} {a b c v:SV} (hs:Std rv)
include hs
theorem y_nils {T:TypeId} {td:TypeDesc} {op:A2} {T':TypeId} (hT:P.underlying T=some td) (hp:tkOk .l td=true) (hy:den g a=some (rv y)) (hz:rv z=.slice none 0 0) (h:eqO op (isNilS a)=some v):∃ x,den g v=some x∧Yl P w rv (.binOp (a2 op) T y z T') x:=by
 cases td <;> simp only [tkOk,Bool.false_eq_true] at hp
 have key:∀ (ad:Option Addr) (n c:Nat),rv y=.slice ad n c→isNilS a=some ad.isNone→(ad=none→n=0∧c=0)→∃ x,den g v=some x∧Yl P w rv (.binOp (a2 op) T y z T') x:=by
  intro ad n c ey hn hnc
  rw [hn] at h
  have hg:∀ o,(eqGuard o T y z (.slice ad n c) (.slice none 0 0)).run P w=.ok () w:=fun o=>by cases o <;> simp [eqGuard]
  cases op <;> simp only [eqO,Option.map_some,Option.some.injEq,reduceCtorEq] at h
  ·subst h
   refine ⟨.bool ad.isNone,rfl,fun d ty ps af gd=>?_⟩
   simp only [a2,execOp,ey,hz,Sem.run_bind,hg,Result.andThen_ok,Go.run_eql_slice_nil w _ _ _ _ _ hT]; rfl
  ·subst h
   refine ⟨.bool (!ad.isNone),rfl,fun d ty ps af gd=>?_⟩
   simp only [a2,execOp,ey,hz,Sem.run_bind,hg,Result.andThen_ok,Go.run_neq_slice_nil w _ _ _ _ _ hT]; rfl
 cases a with
 | sl i o n c =>
  simp only [den,den2,den1,den0,Option.map_eq_some_iff] at hy
  obtain ⟨q,_,e⟩:=hy
  exact key _ _ _ e.symm rfl (fun e=>by cases e)
 | sr i n =>
  simp only [den,den2,den1,den0,Option.map_eq_some_iff] at hy
  obtain ⟨q,_,e⟩:=hy
  exact key _ _ _ e.symm rfl (fun e=>by cases e)
 | sn=>exact key _ _ _ (Option.some.inj hy).symm rfl (fun _=>⟨rfl,rfl⟩)
 | _=>cases op <;> simp [isNilS,eqO] at h
theorem y_ar {T:TypeId} {td:TypeDesc} {op:A2} {tk:TK} {T':TypeId} (hT:P.underlying T=some td) (htk:tkOk tk td=true) (he:∀ zz,tk=.a zz→EqT P T zz) (hy:den g a=some (rv y)) (hz:den g b=some (rv z)) (h:arV op tk a b=some v) :
  ∃ x,den g v=some x∧Yl P w rv (.binOp (a2 op) T y z T') x:=by
 have other:∀ (ho:(match (generalizing:=false) b,tk with | .pn,.p=>eqO op (isNil a) | .sn,.l=>eqO op (isNilS a) | _,_=>none)=some v),∃ x,den g v=some x∧Yl P w rv (.binOp (a2 op) T y z T') x:=by
  intro ho
  split at ho
  ·exact y_nil hs hT htk hy (Option.some.inj hz).symm ho
  ·exact y_nils hs hT htk hy (Option.some.inj hz).symm ho
  ·cases ho
 cases a with
 | i k m =>
  cases b with
  | i j n =>
   simp only [arV] at h
   cases hsh:isSh op with
   | true=>rw [hsh] at h; exact y_shI hs (den_i hy) (den_i hz) h
   | false =>
    cases hk:keq k j with
    | false=>rw [hsh,hk] at h; cases h
    | true =>
     rw [hsh,hk] at h; simp only [cond_true,cond_false] at h
     have:=keq_eq hk; subst this
     exact y_arI hs (den_i hy) (den_i hz) h
  | z m' e =>
   simp only [arV] at h
   split at h
   ·rename_i d
    try dsimp only at h
    cases hc:(and (Nat.ble d 256) (Nat.ble e 256)) with
    | false=>rw [hc] at h; cases h
    | true =>
     rw [hc] at h; simp only [cond_true,Option.some.injEq] at h; subst h
     simp only [Bool.and_eq_true] at hc
     have h1:=Nat.le_of_ble_eq_true hc.1
     have h2:=Nat.le_of_ble_eq_true hc.2
     have ez:rv z=.int .i64 ((e + g.modz m':Nat):Int):=(Option.some.inj hz).symm
     have hm:=g.modz_lt m'
     refine ⟨.int .i64 ((d + e + g.modz m':Nat):Int),rfl,fun dd ty ps af gd=>EX.add (kn2a hs y z (den_i hy)) (kn2b hs y z ez) ?_ rv w (knf_ev hs [y,z]) (Sts.nil w)⟩
     rw [IntWalk.i64_in _ ⟨by simp only [Int.ofNat_eq_natCast]; omega,by simp only [Int.ofNat_eq_natCast]; omega⟩]
     simp only [Int.ofNat_eq_natCast]; omega
   ·cases h
  | _=>cases h
 | s n m =>
  cases b with
  | s n' m' =>
   obtain ⟨h1,h2⟩:=den_s hy
   obtain ⟨h3,h4⟩:=den_s hz
   exact y_arS hs h1 h3 h2 h4 h
  | _=>cases h
 | a l =>
  simp only [arV] at h
  split at h
  ·rename_i m zz
   obtain ⟨xs,h1,h2⟩:=den_a hy
   obtain ⟨ys,h3,h4⟩:=den_a hz
   cases hsh:shps l zz with
   | false=>rw [hsh] at h; cases h
   | true =>
    rw [hsh] at h
    exact he zz rfl g l m xs ys true w rv y z T' op v hsh h1 h3 h2 h4 h
  ·cases h
 | w k p q =>
  simp only [arV] at h
  split at h
  ·rename_i m
   try dsimp only at h
   simp only [den,den2,den1,den0] at hy
   split at hy
   ·rename_i hc
    injection hy with hy
    cases h7:Nat.beq m 7 with
    | true =>
     rw [h7] at h; simp only [cond_true] at h
     have:=Nat.eq_of_beq_eq_true h7; subst this
     cases ha:Nat.beq p 7 with
     | true =>
      rw [ha] at h; simp only [cond_true,Option.some.injEq] at h; subst h
      refine ⟨.int .i64 ((0 + g.modz 0:Nat):Int),rfl,fun d ty ps af gd=>EX.rem (kn2a hs y z hy.symm) (kn2b hs y z (den_i hz)) (by decide) ?_ rv w (knf_ev hs [y,z]) (Sts.nil w)⟩
      rw [Nat.zero_add]; rfl
     | false =>
      rw [ha] at h; simp only [cond_false,Option.some.injEq] at h; subst h
      have hp:g.w % 7=p:=hc.1.resolve_left (fun e=>by subst e; cases ha)
      exact ⟨_,rfl,fun d ty ps af gd=>EX.rem (kn2a hs y z hy.symm) (kn2b hs y z (den_i hz)) (by decide) (by rw [← hp]; rfl) rv w (knf_ev hs [y,z]) (Sts.nil w)⟩
    | false =>
     rw [h7] at h; simp only [cond_false] at h
     cases h4:Nat.beq m 4 with
     | true =>
      rw [h4] at h; simp only [cond_true] at h
      have:=Nat.eq_of_beq_eq_true h4; subst this
      cases hb:Nat.beq q 4 with
      | true=>rw [hb] at h; cases h
      | false =>
       rw [hb] at h; simp only [cond_false,Option.some.injEq] at h; subst h
       have hp:g.w % 4=q:=hc.2.resolve_left (fun e=>by subst e; cases hb)
       exact ⟨_,rfl,fun d ty ps af gd=>EX.rem (kn2a hs y z hy.symm) (kn2b hs y z (den_i hz)) (by decide) (by rw [← hp]; rfl) rv w (knf_ev hs [y,z]) (Sts.nil w)⟩
     | false=>rw [h4] at h; cases h
   ·cases hy
  ·cases h
 | y k =>
  simp only [arV] at h
  split at h
  ·rename_i m
   try dsimp only at h
   cases h0:Nat.beq m 0 with
   | true=>rw [h0] at h; cases h
   | false =>
    rw [h0] at h; simp only [cond_false,Option.some.injEq] at h; subst h
    have hm0:m≠0:=fun e=>by subst e; simp at h0
    have ey:rv y=.int .i64 g.n:=(Option.some.inj hy).symm
    exact ⟨.int .i64 ((0 + g.modz m:Nat):Int),rfl,fun d ty ps af gd=>EX.rem (kn2a hs y z ey) (kn2b hs y z (den_i hz)) (by intro e; injection e with e; exact hm0 e) (by rw [Nat.zero_add,G.modz,if_neg hm0]; rfl) rv w (knf_ev hs [y,z]) (Sts.nil w)⟩
  ·cases h
 | _=>exact other h
end
end
noncomputable section
open Go.RowKit
theorem byts_cut {n l h v:Nat} (hl:l≤h) (hh:h≤n):((byts n v).drop l).take (h - l)=byts (h - l) (v / 256 ^ (n - h) % 256 ^ (h - l)):=by
 have h1:byts n v=byts h (v / 256 ^ (n - h))++byts (n - h) (v % 256 ^ (n - h)):=by
  have:=byts_app (n - h) (n:=h) (v:=v / 256 ^ (n - h)) (w:=v % 256 ^ (n - h)) (Nat.mod_lt _ (Nat.pow_pos (by omega)))
  rw [show h + (n - h)=n by omega,Nat.mul_comm,Nat.div_add_mod] at this
  exact this
 have h2:byts h (v / 256 ^ (n - h))=byts l (v / 256 ^ (n - h) / 256 ^ (h - l))++byts (h - l) (v / 256 ^ (n - h) % 256 ^ (h - l)):=by
  have:=byts_app (h - l) (n:=l) (v:=v / 256 ^ (n - h) / 256 ^ (h - l)) (w:=v / 256 ^ (n - h) % 256 ^ (h - l)) (Nat.mod_lt _ (Nat.pow_pos (by omega)))
  rw [show l + (h - l)=h by omega,Nat.mul_comm,Nat.div_add_mod] at this
  exact this
 rw [h1,h2,List.append_assoc,List.drop_append_of_le_length (by rw [byts_len]; exact Nat.le_refl _),List.drop_of_length_le (by rw [byts_len]; exact Nat.le_refl _),List.nil_append,List.take_append_of_le_length (by rw [byts_len]; exact Nat.le_refl _),List.take_of_length_le (by rw [byts_len]; exact Nat.le_refl _)]
theorem byt_cut {n l h v:Nat} (hl:l≤h) (hh:h≤n):(byt n v).extract l h=byt (h - l) (v / 256 ^ (n - h) % 256 ^ (h - l)):=by
 unfold byt
 rw [ByteArray.extract_mk,byts_cut hl hh]
def oqo (oq:O→Operand→Bool):Option O→Option Operand→Bool
 | none,none=>true
 | some x,some y=>oq x y
 | _,_=>false
section
variable {P:Program} {w W0:World} {rv:Operand→Value} {g:G} {me:T Ob} {R:List Thing} {y z u:Operand} {a b c v:SV} {lk:LK} {oq:O→Operand→Bool}
theorem bnd_den (hq:∀ x y v,oq x y=true→lk x=some v→den g v=some (rv y)) {x:Option O} {o:Option Operand} {d n:Nat} (hc:oqo oq x o=true) (h:bnd lk x d=some n):(o=none∧x=none∧n=d)∨∃ k yo,o=some yo∧x.isNone=false∧rv yo=.int k (n:Int):=by
 cases x with
 | none =>
  cases o with
  | none=>exact .inl ⟨rfl,rfl,(Option.some.inj h).symm⟩
  | some yo=>cases hc
 | some x =>
  cases o with
  | none=>cases hc
  | some yo =>
   right
   have h':(match (generalizing:=false) lk x with
    | some (.i _ (.ofNat j))=>some j
    | _=>none)=some n:=h
   split at h'
   ·rename_i k j hl
    injection h' with h'; subst h'
    exact ⟨k,yo,rfl,rfl,den_i (hq _ _ _ hc hl)⟩
   ·cases h'
theorem bounds_run {n l h:Nat} {lo hi:Option Value} (hlo:(lo=none∧l=0)∨∃ k,lo=some (.int k (l:Int))) (hhi:(hi=none∧h=n)∨∃ k,hi=some (.int k (h:Int))) (hl:l≤h) (hh:h≤n):(Instr.sliceBounds false n n lo hi none).run P w=.ok (l,h,n) w:=by
 have e1:∀ k c,(Instr.sliceBound (.int k (h:Int)) n c).run P w=.ok h w:=fun k c=>by
  have:=run_sliceBound (P:=P) w k (h:Int) n c (Int.natCast_nonneg _) (by omega)
  simpa using this
 have e2:∀ k c,(Instr.sliceBound (.int k (l:Int)) h c).run P w=.ok l w:=fun k c=>by
  have:=run_sliceBound (P:=P) w k (l:Int) h c (Int.natCast_nonneg _) (by omega)
  simpa using this
 rcases hlo with ⟨rfl,rfl⟩ | ⟨k1,rfl⟩ <;> rcases hhi with ⟨rfl,rfl⟩ | ⟨k2,rfl⟩ <;> simp [Instr.sliceBounds,e1,e2]
theorem y_sls {t:TypeId} {x:O} {lo hi:Option O} {lo' hi':Option Operand} (hq:∀ x y v,oq x y=true→lk x=some v→den g v=some (rv y)) (ht:P.underlying t=some .string) (hx:oq x y=true) (hlo:oqo oq lo lo'=true) (hhi:oqo oq hi hi'=true)
  (h:ob (lk x) (fun x=>slsV x (bnd lk lo 0) (bnd lk hi 0) hi.isNone)=some v):∃ q,den g v=some q∧Yl P w rv (.slice t y lo' hi' none) q:=by
 cases hl:lk x with
 | none=>rw [hl] at h; cases h
 | some a =>
  rw [hl] at h
  have h':slsV a (bnd lk lo 0) (bnd lk hi 0) hi.isNone=some v:=h
  have ha:=hq _ _ _ hx hl
  unfold slsV at h'
  split at h'
  ·rename_i n m
   obtain ⟨hm,ey⟩:=den_s ha
   split at h'
   ·rename_i l hbl
    split at h'
    ·rename_i hh hbh
     cases hb:(and (Nat.ble l hh) (Nat.ble hh n)) with
     | false=>rw [hb] at h'; cases h'
     | true =>
      rw [hb] at h'
      simp only [cond_true,Option.some.injEq] at h'; subst h'
      simp only [Bool.and_eq_true] at hb
      have b1:=Nat.le_of_ble_eq_true hb.1
      have b2:=Nat.le_of_ble_eq_true hb.2
      have q1:(lo'.map rv=none∧l=0)∨∃ k,lo'.map rv=some (.int k (l:Int)):=by
       rcases bnd_den (rv:=rv) hq hlo hbl with ⟨e1,e2,e3⟩ | ⟨k,yo,e1,e2,e3⟩
       ·exact .inl ⟨by rw [e1]; rfl,e3⟩
       ·exact .inr ⟨k,by rw [e1]; simp [e3]⟩
      have q2:(hi'.map rv=none∧hh=n)∨∃ k,hi'.map rv=some (.int k (hh:Int)):=by
       cases hi with
       | none =>
        cases hi' with
        | none=>exact .inl ⟨rfl,by simpa using hbh.symm⟩
        | some _=>cases hhi
       | some xo =>
        have hbh':bnd lk (some xo) 0=some hh:=hbh
        rcases bnd_den (rv:=rv) hq hhi hbh' with ⟨e1,e2,e3⟩ | ⟨k,yo,e1,e2,e3⟩
        ·cases e2
        ·exact .inr ⟨k,by rw [e1]; simp [e3]⟩
      refine ⟨.string ((byt n m).extract l hh),?_,fun d ty ps af gd=>?_⟩
      ·rw [byt_cut b1 b2]
       exact den_s' (Nat.mod_lt _ (Nat.pow_pos (by omega)))
      ·have hr:=bounds_run (P:=P) (w:=w) (n:=n) q1 q2 b1 b2
       have e3:(byt n m).size=n:=byt_size n m
       simp only [execOp,Option.map_none,ey,Sem.run_bind,run_sliceAt_string w t _ _ _ _ ht,Instr.slice,underlying,run_program,Result.andThen_ok,ht,Sem.run_pure,Option.isSome_none,Bool.false_eq_true,if_false,e3,hr]
    ·cases h'
   ·cases h'
  ·cases h'
theorem y_sln {t e s:Nat} {a b v:SV} {y z:Operand} (ht:SL P t e s) (hy:den g a=some (rv y)) (hz:den g b=some (rv z)) (h:slnV a b=some v):∃ q,den g v=some q∧Yl P w rv (.slice t y (some z) none none) q:=by
 unfold slnV at h
 split at h
 ·rename_i n
  cases hb:Nat.beq n 0 with
  | false=>rw [hb] at h; cases h
  | true =>
   rw [hb] at h
   injection h with h; subst h
   have:=Nat.eq_of_beq_eq_true hb; subst this
   have ez:=den_i hz
   have ey:rv y=.slice none 0 0:=(Option.some.inj hy).symm
   obtain ⟨h1,h2⟩:=ht
   cases hi:P.info? e with
   | none=>rw [hi] at h2; cases h2
   | some i =>
    refine ⟨.slice none 0 0,rfl,fun d ty ps af gd=>?_⟩
    simp only [execOp,ey,Option.map_none,Option.map_some,ez,Sem.run_bind,Instr.sliceAt,Instr.slice,underlying,run_program,Result.andThen_ok,h1,Sem.run_pure,Instr.sliceBounds,Instr.sliceBound,asIntOf,sizeOf,typeInfo,hi]
    simp
 ·cases h
theorem y_sla {t n s:Nat} {x:O} {lo hi:Option O} {lo' hi':Option Operand} (hq:∀ x y v,oq x y=true→lk x=some v→den g v=some (rv y)) (ht:AR P t n s) (hx:oq x y=true) (hlo:oqo oq lo lo'=true) (hhi:oqo oq hi hi'=true)
  (h:ob (lk x) (fun x=>slaV n s x (bnd lk lo 0) (bnd lk hi n))=some v):∃ q,den g v=some q∧Yl P w rv (.slice t y lo' hi' none) q:=by
 obtain ⟨e,ht1,ht2⟩:=ht
 have hsz:(sizeOf e).run P w=.ok s w:=by
  cases hi:P.info? e with
  | none=>simp [hi] at ht2
  | some i=>rw [hi] at ht2; simp at ht2; simp [sizeOf,typeInfo,hi,ht2]
 cases hl:lk x with
 | none=>rw [hl] at h; cases h
 | some a =>
  rw [hl] at h
  have h':slaV n s a (bnd lk lo 0) (bnd lk hi n)=some v:=h
  have ha:=hq _ _ _ hx hl
  unfold slaV at h'
  split at h'
  ·rename_i i o
   obtain ⟨q,hq1,ey⟩:=den_p ha
   split at h'
   ·rename_i l hh hbl hbh
    cases hb:(and (Nat.ble l hh) (Nat.ble hh n)) with
    | false=>rw [hb] at h'; cases h'
    | true =>
     rw [hb] at h'
     simp only [cond_true,Option.some.injEq] at h'; subst h'
     simp only [Bool.and_eq_true] at hb
     have b1:=Nat.le_of_ble_eq_true hb.1
     have b2:=Nat.le_of_ble_eq_true hb.2
     have q1:(lo'.map rv=none∧l=0)∨∃ k,lo'.map rv=some (.int k (l:Int)):=by
      rcases bnd_den (rv:=rv) hq hlo hbl with ⟨e1,e2,e3⟩ | ⟨k,yo,e1,e2,e3⟩
      ·exact .inl ⟨by rw [e1]; rfl,e3⟩
      ·exact .inr ⟨k,by rw [e1]; simp [e3]⟩
     have q2:(hi'.map rv=none∧hh=n)∨∃ k,hi'.map rv=some (.int k (hh:Int)):=by
      rcases bnd_den (rv:=rv) hq hhi hbh with ⟨e1,e2,e3⟩ | ⟨k,yo,e1,e2,e3⟩
      ·exact .inl ⟨by rw [e1]; rfl,e3⟩
      ·exact .inr ⟨k,by rw [e1]; simp [e3]⟩
     have hr:=bounds_run (P:=P) (w:=w) (n:=n) q1 q2 b1 b2
     refine ⟨.slice (some (if n=l then ⟨q.1,o,none⟩ else (⟨q.1,o,none⟩:Addr).add (l * s))) (hh - l) (n - l),?_,fun d ty ps af gd=>?_⟩
     ·by_cases e:n=l
      ·subst e
       simp [den,den2,den1,den0,hq1]
      ·have hbn:Nat.beq n l=false:=by
        cases hh':Nat.beq n l with
        | false=>rfl
        | true=>exact (e (Nat.eq_of_beq_eq_true hh')).elim
       simp [den,den2,den1,den0,hq1,hbn,e,add_off]
     ·simp only [execOp,Option.map_none,ey,Sem.run_bind,Instr.sliceAt,underlying,run_program,Result.andThen_ok,ht1,Sem.run_pure,Instr.sureAddr,hr,hsz]
   ·cases h'
  ·cases h'
theorem y_mx3 (hs:Std rv) {tys:Array TypeId} (hy:den g a=some (rv y)) (hz:den g b=some (rv z)) (hu:den g c=some (rv u)) (h:ob (mxV a b) (fun e=>mxV e c)=some v):∃ x,den g v=some x∧Yl P w rv (.call { callee:=.builtin .max,args:=#[y,z,u],argTypes:=tys }) x:=by
 cases h1:mxV a b with
 | none=>rw [h1] at h; cases h
 | some e =>
  rw [h1] at h
  have h2:mxV e c=some v:=h
  unfold mxV at h1
  split at h1
  ·rename_i k m j n
   cases hk:keq k j with
   | false=>simp [hk] at h1
   | true =>
    have:=keq_eq hk; subst this
    simp only [hk,cond_true,Option.some.injEq] at h1
    have ey:=den_i hy
    have ez:=den_i hz
    have he:e=.i k (if n > m then n else m):=by
     rw [← h1,ilt_eq]
     by_cases hlt:m < n <;> simp [hlt]
    subst he
    unfold mxV at h2
    split at h2
    ·rename_i k' m' j' n' heq
     injection heq with q1 q2; subst q1; subst q2
     cases hk2:keq k j' with
     | false=>simp [hk2] at h2
     | true =>
      have:=keq_eq hk2; subst this
      simp only [hk2,cond_true,Option.some.injEq] at h2
      have eu:=den_i hu
      refine ⟨.int k (if n' > (if n > m then n else m) then n' else (if n > m then n else m)),?_,fun d ty ps af gd=>EX.max3 (W0:=w) (L:=[]) (kn:=knf rv [y,z,u]) ((knf_mem hs (by simp)).trans (by rw [ey])) ((knf_mem hs (by simp)).trans (by rw [ez])) ((knf_mem hs (by simp)).trans (by rw [eu])) rfl rv w (knf_ev hs _) (Sts.nil w)⟩
      rw [← h2,ilt_eq]
      by_cases hlt:(if n > m then n else m) < n' <;> simp [hlt,den,den2,den1,den0]
    ·cases h2
  ·cases h1
theorem y_ldg {t:TypeId} {bb:Nat} {l:List SV} (h1:One P t) (hg:∀ o v,l[o]?=some v→∃ x,(∀ g,den1 g v=some x)∧W0.cell? ⟨bb,o,none⟩=some x) (hm:Sts W0 w (mem g me++R)) (hy:den g a=some (rv y)) (h:ldgV bb l a=some v):∃ x,den g v=some x∧Yl P w rv (.load t y) x:=by
 unfold ldgV at h
 split at h
 ·rename_i b' o
  cases hb:Nat.beq bb b' with
  | false=>rw [hb] at h; cases h
  | true =>
   rw [hb] at h
   have:=Nat.eq_of_beq_eq_true hb; subst this
   simp only [cond_true,nth_eq] at h
   obtain ⟨x,k1,k2⟩:=hg o v h
   have hrd:=keep hm.1 k2
   have ey:rv y=.pointer (some ⟨bb,o,none⟩):=(Option.some.inj hy).symm
   exact ⟨x,den1_3 (k1 g),fun d ty ps af gd=>by
    simp only [execOp,ey,Sem.run_bind,Instr.loadAt,Instr.sureAddr,loadVar,h1 w,Result.andThen_ok,Sem.run_pure,Bool.false_eq_true,if_false,run_load,hrd]⟩
 ·cases h
end
end
noncomputable section
open Go.RowKit
structure FT where
 fa:Nat→Nat→Nat→Bool
 one:Nat→Bool
 many:Nat→Nat→Bool
 tk:TK→Nat→Bool
 toI:Nat→Nat→IntKind→Bool
 toS:Nat→Nat→Bool
 bd:Nat→List SV→List (Nat × Nat × Nat)→Bool
 sl:Nat→Nat→Bool
 ar:Nat→Nat→Nat→Bool
 str:Nat→Bool
 ara:Nat→Nat→Nat→Bool→Bool
 fld:Nat→Nat→Nat→Nat→Bool→Bool
 lk:Nat→IntKind→SV→Bool
 al:Nat→List SV→Bool
 bs:Nat→Nat→Nat→Nat→List SV→Bool
 bs0:Nat→Nat→Nat→Bool
 sz:Nat→Nat→Bool
 ap:Nat→Nat→Nat→Nat→Bool
 mp:Nat→IntKind→Bool
 toB:Nat→Nat→Nat→Bool
 gl:Nat→List SV→Bool
def trips:List (Nat × Nat × O)→List (Nat × Operand)→List (Nat × Nat × Nat)
 | (off,size,x)::qs,(i,y)::ps=>(i,off,size)::trips qs ps
 | _,_=>[]
def oqp (oq:O→Operand→Bool):List (Nat × Nat × O)→List (Nat × Operand)→Bool
 | [],[]=>true
 | (off,size,x)::qs,(i,y)::ps=>oq x y && oqp oq qs ps
 | _,_=>false
theorem parts_of {pl:Nat→Option (Nat × Nat)} {oq:O→Operand→Bool}:∀ {qs:List (Nat × Nat × O)} {ps:List (Nat × Operand)},oqp oq qs ps=true→(∀ t∈trips qs ps,pl t.1=some (t.2.1,t.2.2))→parts pl oq qs ps=true
 | [],[],_,_=>rfl
 | (off,size,x)::qs,(i,y)::ps,h,ht=>by
  simp only [oqp,Bool.and_eq_true] at h
  have h1:=ht (i,off,size) (by simp [trips])
  simp only [parts,h1,Nat.beq_refl,h.1,parts_of h.2 (fun t hm=>ht t (by simp [trips,hm])),Bool.and_self]
 | [],_::_,h,_=>by cases h
 | _::_,[],h,_=>by cases h
structure FT.Ok (F:FT) (P:Program) (W0:World):Prop where
 fa:∀ s i o,F.fa s i o=true→FA P s i o
 one:∀ t,F.one t=true→One P t
 many:∀ t n,F.many t n=true→Many P t n
 tk:∀ k t,F.tk k t=true→∃ td,P.underlying t=some td∧tkOk k td=true∧(∀ zz,k=.a zz→EqT P t zz)
 toI:∀ s t k,F.toI s t k=true→(∃ td,P.underlying s=some td)∧P.underlying t=some (.int k)
 toS:∀ s t,F.toS s t=true→∃ e,P.underlying s=some (.slice e)∧P.underlying e=some (.int .u8)∧P.underlying t=some .string
 bd:∀ t z l,F.bd t z l=true→∃ zs pl,(∀ g,dens (den1 g) z=some zs)∧BD P t zs pl∧(∀ q∈l,pl q.1=some (q.2.1,q.2.2))
 sl:∀ t s,F.sl t s=true→∃ e,SL P t e s
 ar:∀ t n s,F.ar t n s=true→AR P t n s
 str:∀ t,F.str t=true→P.underlying t=some .string
 ara:∀ t n s ag,F.ara t n s ag=true→∃ e,P.underlying t=some (.array n e)∧(P.info? e).map (·.size)=some s∧(if ag then Many P e s else One P e)
 fld:∀ s i o n ag,F.fld s i o n ag=true→∃ fs e,P.underlying s=some (.struct fs)∧(fs[i]?).map (fun f=>(f.type,f.offset))=some (e,o)∧(if ag then Many P e n else One P e)
 lk:∀ t k z,F.lk t k z=true→∃ K E zv,P.underlying t=some (.map K E)∧KeyL P K (ienc k)∧ZV P E zv∧∀ g,den2 g z=some zv
 al:∀ t z,F.al t z=true→∃ zs,AL P t zs∧∀ g,dens (den1 g) z=some zs
 bs:∀ t e z n zs,F.bs t e z n zs=true→∃ zero,BS P t e z zero∧n * z≤1000∧0 < n∧(∀ g,dens (den1 g) zs=some (zeros zero n))∧n≤maxLen
 bs0:∀ t e z,F.bs0 t e z=true→P.underlying t=some (.slice e)∧(P.info? e).map (·.size)=some z
 sz:∀ t n,F.sz t n=true→SZ P t n
 ap:∀ t e z b,F.ap t e z b=true→∃ zv,APt P t e z b zv
 mp:∀ t k,F.mp t k=true→∃ K E,P.underlying t=some (.map K E)∧KeyL P K (ienc k)
 toB:∀ s t e,F.toB s t e=true→P.underlying s=some .string∧P.underlying t=some (.slice e)∧P.underlying e=some (.int .u8)
 gl:∀ b l,F.gl b l=true→∀ (o:Nat) (v:SV),l[o]?=some v→∃ x,(∀ g,den1 g v=some x)∧W0.cell? ⟨b,o,none⟩=some x
def opB:A2→BinOp→Bool
 | .add,.add=>true | .sub,.sub=>true | .mul,.mul=>true | .quo,.quo=>true | .rem,.rem=>true | .and,.and=>true | .or,.or=>true | .shl,.shl=>true | .shr,.shr=>true
 | .lss,.lss=>true | .leq,.leq=>true | .gtr,.gtr=>true | .geq,.geq=>true | .eql,.eql=>true | .neq,.neq=>true
 | _,_=>false
theorem opB_eq {a:A2} {b:BinOp} (h:opB a b=true):b=a2 a:=by cases a <;> cases b <;> first | rfl | (cases h; done)
def chkV (F:FT) (oq:O→Operand→Bool):Op→V→Bool
 | .move y,.mv x=>oq x y
 | .assign y,.mv x=>oq x y
 | .pick c y z,.pick c' x x'=>oq c' c && oq x y && oq x' z
 | .extract y i,.ext x j=>oq x y && Nat.beq i j
 | .nilCheck y,.nc x=>oq x y
 | .fieldAddr s y i,.fa off x=>oq x y && F.fa s i off
 | .field s y i,.fld off n ag x=>oq x y && F.fld s i off n ag
 | .load t y,.ld x=>oq x y && F.one t
 | .load t y,.ldn n x=>oq x y && F.many t n
 | .load t y,.ldg b l x=>oq x y && F.one t && F.gl b l
 | .binOp op T y z _,.ar op' k x x'=>opB op' op && F.tk k T && oq x y && oq x' z
 | .unOp .not _ y,.not x=>oq x y
 | .convert s t y,.cvi k x=>oq x y && F.toI s t k
 | .convert s t y,.cvs x=>oq x y && F.toS s t
 | .build t ps,.bld z qs=>F.bd t z (trips qs ps.toList) && oqp oq qs ps.toList
 | .makeFunc (.func f) us cs,.mkf p us' cs'=>Nat.beq p.nat (f + 1) && oqs oq us' us.toList && oqs oq cs' cs.toList
 | .call { callee:=.builtin .len,args:=⟨[y]⟩,argTypes:=⟨[T]⟩ },.ln k x=>oq x y && F.tk k T
 | .call { callee:=.builtin .max,args:=⟨[y,z]⟩,argTypes:=_ },.mx x x'=>oq x y && oq x' z
 | .call { callee:=.builtin .min,args:=⟨[y,z]⟩,argTypes:=_ },.mn2 x x'=>oq x y && oq x' z
 | .call { callee:=.builtin .max,args:=⟨[y,z,u]⟩,argTypes:=_ },.mx3 x x' x''=>oq x y && oq x' z && oq x'' u
 | .slice t y lo hi none,.sls x lo' hi'=>oq x y && oqo oq lo' lo && oqo oq hi' hi && F.str t
 | .slice t y lo hi none,.sla n s x lo' hi'=>oq x y && oqo oq lo' lo && oqo oq hi' hi && F.ar t n s
 | .slice t y (some z) none none,.sln s x x'=>oq x y && oq x' z && F.sl t s
 | _,.bad=>true
 | .indexAddr t y z,.ia s x x'=>oq x y && oq x' z && F.sl t s
 | .indexAddr t y z,.iar n s x x'=>oq x y && oq x' z && F.ar t n s
 | .index t y z,.ixs x x'=>oq x y && oq x' z && F.str t
 | .index t y z,.ixa n s ag x x'=>oq x y && oq x' z && F.ara t n s ag
 | .lookup t y z ok,.lk k zz x x' ok'=>oq x y && oq x' z && F.lk t k zz && (ok == ok')
 | _,_=>false
section
variable {P:Program} {w W0:World} {rv:Operand→Value} {g:G} {me:T Ob} {R:List Thing} {F:FT} {lk:LK} {oq:O→Operand→Bool}
theorem ob_some {x:Option SV} {β:Type} {k:SV→Option β} {b:β} (h:ob x k=some b):∃ v,x=some v∧k v=some b:=by
 cases x with
 | none=>cases h
 | some v=>exact ⟨v,rfl,h⟩
theorem val_sound (hs:Std rv) (hF:F.Ok P W0) (hq:∀ x y v,oq x y=true→lk x=some v→den g v=some (rv y)) (hm:Sts W0 w (mem g me++R)) {op:Op} {o:V} {v:SV} (hc:chkV F oq op o=true) (h:val lk me o=some v) :
  ∃ x,den g v=some x∧Yl P w rv op x:=by
 unfold chkV at hc
 split at hc
 ·exact y_mv hs (hq _ _ _ hc h)
 ·exact y_as hs (hq _ _ _ hc h)
 ·simp only [Bool.and_eq_true] at hc
  obtain ⟨c,h1,h⟩:=ob_some h
  obtain ⟨x,h2,h⟩:=ob_some h
  obtain ⟨x',h3,h⟩:=ob_some h
  exact y_pick hs (hq _ _ _ hc.1.1 h1) (hq _ _ _ hc.1.2 h2) (hq _ _ _ hc.2 h3) h
 ·simp only [Bool.and_eq_true] at hc
  obtain ⟨x,h1,h⟩:=ob_some h
  have:=Nat.eq_of_beq_eq_true hc.2; subst this
  exact y_ext hs (hq _ _ _ hc.1 h1) h
 ·obtain ⟨x,h1,h⟩:=ob_some h
  exact y_nc hs (hq _ _ _ hc h1) h
 ·simp only [Bool.and_eq_true] at hc
  obtain ⟨x,h1,h⟩:=ob_some h
  exact y_fa hs (hF.fa _ _ _ hc.2) (hq _ _ _ hc.1 h1) h
 ·simp only [Bool.and_eq_true] at hc
  obtain ⟨x,h1,h⟩:=ob_some h
  obtain ⟨fs,e,k1,k2,k3⟩:=hF.fld _ _ _ _ _ hc.2
  exact y_fld hs k1 k2 k3 (hq _ _ _ hc.1 h1) h
 ·simp only [Bool.and_eq_true] at hc
  obtain ⟨x,h1,h⟩:=ob_some h
  exact y_ld hs (hF.one _ hc.2) hm (hq _ _ _ hc.1 h1) h
 ·simp only [Bool.and_eq_true] at hc
  obtain ⟨x,h1,h⟩:=ob_some h
  exact y_ldn hs (hF.many _ _ hc.2) hm (hq _ _ _ hc.1 h1) h
 ·simp only [Bool.and_eq_true] at hc
  obtain ⟨x,h1,h⟩:=ob_some h
  exact y_ldg (hF.one _ hc.1.2) (hF.gl _ _ hc.2) hm (hq _ _ _ hc.1.1 h1) h
 ·simp only [Bool.and_eq_true] at hc
  obtain ⟨x,h1,h⟩:=ob_some h
  obtain ⟨x',h2,h⟩:=ob_some h
  obtain ⟨td,k1,k2,k3⟩:=hF.tk _ _ hc.1.1.2
  have e:=opB_eq hc.1.1.1
  rw [e]
  exact y_ar hs k1 k2 k3 (hq _ _ _ hc.1.2 h1) (hq _ _ _ hc.2 h2) h
 ·obtain ⟨x,h1,h⟩:=ob_some h
  exact y_not hs (hq _ _ _ hc h1) h
 ·simp only [Bool.and_eq_true] at hc
  obtain ⟨x,h1,h⟩:=ob_some h
  obtain ⟨⟨td,k1⟩,k2⟩:=hF.toI _ _ _ hc.2
  exact y_cvi hs k1 k2 (hq _ _ _ hc.1 h1) h
 ·simp only [Bool.and_eq_true] at hc
  obtain ⟨x,h1,h⟩:=ob_some h
  obtain ⟨e,k1,k2,k3⟩:=hF.toS _ _ hc.2
  exact y_cvs hs k1 k2 k3 hm (hq _ _ _ hc.1 h1) h
 ·rename_i t ps z qs
  simp only [Bool.and_eq_true] at hc
  obtain ⟨zs,pl,k1,k2,k3⟩:=hF.bd _ _ _ hc.1
  have h':(fill lk qs z).map SV.a=some v:=h
  simp only [Option.map_eq_some_iff] at h'
  obtain ⟨l,h1,rfl⟩:=h'
  have:=y_bld (P:=P) (w:=w) hs hq k2 (k1 g) (parts_of hc.2 k3) h1
  simpa using this
 ·rename_i f us cs p us' cs'
  simp only [Bool.and_eq_true] at hc
  have h':Option.rec (motive:=fun _=>Option SV) none (fun us=>Option.rec (motive:=fun _=>Option SV) none (fun cs=>bif and (atoms us) (atoms cs) then some (SV.f p us cs) else none) (ons lk cs')) (ons lk us')=some v:=h
  cases a1:ons lk us' with
  | none=>rw [a1] at h'; cases h'
  | some vs =>
   rw [a1] at h'; dsimp only at h'
   cases a2:ons lk cs' with
   | none=>rw [a2] at h'; cases h'
   | some ws =>
    rw [a2] at h'; dsimp only at h'
    cases a3:(and (atoms vs) (atoms ws)) with
    | false=>rw [a3] at h'; cases h'
    | true =>
     rw [a3] at h'; simp only [cond_true,Option.some.injEq] at h'; subst h'
     have:=y_mkf (P:=P) (w:=w) hs (Nat.eq_of_beq_eq_true hc.1.1) (ons_den hq hc.1.2 a1) (ons_den hq hc.2 a2) a3
     simpa using this
 ·simp only [Bool.and_eq_true] at hc
  obtain ⟨x,h1,h⟩:=ob_some h
  obtain ⟨td,k1,k2,k3⟩:=hF.tk _ _ hc.2
  exact y_ln hs k1 hm (hq _ _ _ hc.1 h1) h k2
 ·simp only [Bool.and_eq_true] at hc
  obtain ⟨x,h1,h⟩:=ob_some h
  obtain ⟨x',h2,h⟩:=ob_some h
  exact y_mx hs (hq _ _ _ hc.1 h1) (hq _ _ _ hc.2 h2) h
 ·simp only [Bool.and_eq_true] at hc
  obtain ⟨x,h1,h⟩:=ob_some h
  obtain ⟨x',h2,h⟩:=ob_some h
  exact y_mn hs (hq _ _ _ hc.1 h1) (hq _ _ _ hc.2 h2) h
 ·simp only [Bool.and_eq_true] at hc
  obtain ⟨x,h1,h⟩:=ob_some h
  obtain ⟨x',h2,h⟩:=ob_some h
  obtain ⟨x'',h3,h⟩:=ob_some h
  exact y_mx3 hs (hq _ _ _ hc.1.1 h1) (hq _ _ _ hc.1.2 h2) (hq _ _ _ hc.2 h3) h
 ·simp only [Bool.and_eq_true] at hc
  exact y_sls hq (hF.str _ hc.2) hc.1.1.1 hc.1.1.2 hc.1.2 h
 ·simp only [Bool.and_eq_true] at hc
  exact y_sla hq (hF.ar _ _ _ hc.2) hc.1.1.1 hc.1.1.2 hc.1.2 h
 ·simp only [Bool.and_eq_true] at hc
  obtain ⟨x,h1,h⟩:=ob_some h
  obtain ⟨x',h2,h⟩:=ob_some h
  obtain ⟨e,he⟩:=hF.sl _ _ hc.2
  exact y_sln he (hq _ _ _ hc.1.1 h1) (hq _ _ _ hc.1.2 h2) h
 ·cases h
 ·simp only [Bool.and_eq_true] at hc
  obtain ⟨x,h1,h⟩:=ob_some h
  obtain ⟨x',h2,h⟩:=ob_some h
  obtain ⟨e,k1⟩:=hF.sl _ _ hc.2
  exact y_ia hs k1 (hq _ _ _ hc.1.1 h1) (hq _ _ _ hc.1.2 h2) h
 ·simp only [Bool.and_eq_true] at hc
  obtain ⟨x,h1,h⟩:=ob_some h
  obtain ⟨x',h2,h⟩:=ob_some h
  exact y_iar hs (hF.ar _ _ _ hc.2) (hq _ _ _ hc.1.1 h1) (hq _ _ _ hc.1.2 h2) h
 ·simp only [Bool.and_eq_true] at hc
  obtain ⟨x,h1,h⟩:=ob_some h
  obtain ⟨x',h2,h⟩:=ob_some h
  exact y_ixs hs (hF.str _ hc.2) (hq _ _ _ hc.1.1 h1) (hq _ _ _ hc.1.2 h2) h
 ·simp only [Bool.and_eq_true] at hc
  obtain ⟨x,h1,h⟩:=ob_some h
  obtain ⟨x',h2,h⟩:=ob_some h
  obtain ⟨e,k1,k2,k3⟩:=hF.ara _ _ _ _ hc.2
  exact y_ixa hs k1 k2 k3 (hq _ _ _ hc.1.1 h1) (hq _ _ _ hc.1.2 h2) h
 ·rename_i t y z ok kk zz x x' ok'
  simp only [Bool.and_eq_true,beq_iff_eq] at hc
  obtain ⟨⟨⟨c1,c2⟩,c3⟩,rfl⟩:=hc
  obtain ⟨x,h1,h⟩:=ob_some h
  obtain ⟨x',h2,h⟩:=ob_some h
  obtain ⟨K,E,zv,k1,k2,k3,k4⟩:=hF.lk _ _ _ c3
  exact y_lk hs k1 k2 k3 (k4 g) hm (hq _ _ _ c1 h1) (hq _ _ _ c2 h2) h
 ·cases hc
end
end
noncomputable section
open Go.RowKit
def Ye (P:Program) (w:World) (rv:Operand→Value) (o:Oper) (x:Value) (w':World):Prop :=
 (execOp rv o).run P w=.ok (.value x) w'∨((execOp rv o).run P w=.ok .skip w'∧x=undef)
structure After (P:Program) (W0:World) (g:G) (nx:Pos) (R:List Thing) (w:World) (rv:Operand→Value) (op:Oper) (v:SV) (me':T Ob) (nx':Pos) (g':G) (x:Value) (w':World):Prop where
 ext:g.ext g' nx
 fresh:g'.fresh nx'
 le:nx.nat≤nx'.nat
 den:den g' v=some x
 sts:Sts W0 w' (mem g' me'++R)
 run:Ye P w rv op x w'
section
variable {P:Program} {w W0:World} {rv:Operand→Value} {g:G} {me me':T Ob} {R:List Thing} {nx nx':Pos} {y z u:Operand} {a b c v:SV} {d:Option Tmp} {ty:TypeId} {pos:String} {af:Array Edge} {gd:Option (Nat × Bool)} (hs:Std rv)
theorem rho_of {i:Pos} {o:Ob} (hm:Sts W0 w (mem g me++R)) (h:T.get i me=some o):∃ q,g.rho i=some q:=by
 cases o with
 | c t cs=>obtain ⟨x,h1⟩:=(mout hm h).of_some; exact ⟨_,h1.of_both.of_fact.1.1⟩
 | r t z cs=>obtain ⟨x,h1⟩:=(mout hm h).of_some; exact ⟨_,h1.of_both.of_fact.1.1⟩
 | m k kvs=>obtain ⟨x,h1⟩:=(mout hm h).of_some; exact ⟨_,h1.of_both.of_fact.1.1⟩
 | it m=>obtain ⟨x,h1⟩:=(mout hm h).of_some; exact ⟨_,h1.of_fact.1⟩
 | mi j n k kvs=>obtain ⟨x,h1⟩:=(mout hm h).of_some; exact ⟨_,h1.of_both.of_fact.1.1⟩
 | me j k n kvs=>obtain ⟨x,h1⟩:=(mout hm h).of_some; exact ⟨_,h1.of_both.of_fact.1.1⟩
 | ro t cs=>obtain ⟨x,h1⟩:=(mout hm h).of_some; exact ⟨_,h1.of_both.of_fact.1.1⟩
 | si n v pos=>obtain ⟨x,h1⟩:=(mout hm h).of_some; exact ⟨_,h1.of_both.of_fact.1.1⟩
 | st n rev most F=>obtain ⟨x,h1⟩:=(mout hm h).of_some; exact ⟨_,h1.of_both.of_fact.1.1⟩
theorem get_nx (hm:Sts W0 w (mem g me++R)) (hf:g.fresh nx):T.get nx me=none:=by
 cases h:T.get nx me with
 | none=>rfl
 | some o =>
  obtain ⟨q,hq⟩:=rho_of hm h
  rw [hf nx (Nat.le_refl _)] at hq; cases hq
theorem le_succ (p:Pos):p.nat≤p.succ.nat:=by rw [Pos.nat_succ]; omega
theorem new_c {t bb:Nat} {cs:List SV} {xs:List Value} (hf:g.fresh nx) (hm:Sts W0 w (mem g me++R)) (hd:dens (den1 g) cs=some xs) {w':World} (h:Sts W0 w' (Bk bb t xs::(mem g me++R))) :
  Sts W0 w' (mem (g.set nx (bb,0)) (T.put nx (some (.c t cs)) me)++R):=by
 have hle:=(G.set_ext g nx (bb,0)).le hf
 have h2:Sts W0 w' (OT (g.set nx (bb,0)) nx (.c t cs)::(mem g me++R)):=Sts.to_some (bb,0,xs) (Sts.to_both (Sts.to_fact ⟨G.set_at g nx _,dens_mono (den1_mono hle) hd⟩ h))
 have h3:Sts W0 w' (mem g me++(OT (g.set nx (bb,0)) nx (.c t cs)::R)):=h2.perm List.perm_middle.symm
 have h4:=mem_mono hle h3
 exact minto (h4.perm List.perm_middle) (get_nx hm hf)
theorem new_r {t zz n cc bb:Nat} {cs:List SV} {xs:List Value} (hf:g.fresh nx) (hn:T.get nx me=none) (hd:dens (den1 g) cs=some xs) {w':World} (h:Sts W0 w' (Rw t zz (.slice (some ⟨bb,0,none⟩) n cc) n xs::(mem g me++R))) :
  Sts W0 w' (mem (g.set nx (bb,cc)) (T.put nx (some (.r t zz cs)) me)++R):=by
 have hle:=(G.set_ext g nx (bb,cc)).le hf
 have h2:Sts W0 w' (OT (g.set nx (bb,cc)) nx (.r t zz cs)::(mem g me++R)):=Sts.to_some (bb,cc,xs,n) (Sts.to_both (Sts.to_fact ⟨G.set_at g nx _,dens_mono (den1_mono hle) hd⟩ h))
 have h3:Sts W0 w' (mem g me++(OT (g.set nx (bb,cc)) nx (.r t zz cs)::R)):=h2.perm List.perm_middle.symm
 have h4:=mem_mono hle h3
 exact minto (h4.perm List.perm_middle) hn
theorem den_sr {i:Pos} {n:Nat} {q:Nat × Nat} (h:g.rho i=some q):den g (.sr i n)=some (.slice (some ⟨q.1,0,none⟩) n q.2):=by simp [den,den2,den1,den0,h]
include hs
theorem e_al {t:Nat} {zz:List SV} {zs:List Value} (ha:AL P t zs) (hz:dens (den1 g) zz=some zs) (hf:g.fresh nx) (hm:Sts W0 w (mem g me++R)):∃ g' x w',After P W0 g nx R w rv ⟨d,.alloc t,ty,pos,af,gd⟩ (.p nx 0) (T.put nx (some (.c t zz)) me) nx.succ g' x w':=by
 obtain ⟨bb,w',_,hr,hst⟩:=(EF.alloc (kn:=[]) (d:=d) (g:=gd) (ty:=ty) (pos:=pos) (af:=af) ha) rv w (fun x v h=>knf_ev hs [] x v h) hm
 refine ⟨g.set nx (bb,0),.pointer (some ⟨bb,0,none⟩),w',G.set_ext _ _ _,G.set_fresh hf _,le_succ nx,den_p' (G.set_at g nx _),new_c hf hm hz hst,Or.inl hr⟩
theorem e_box {t:Nat} {cs:List SV} (hy:den g a=some (rv y)) (hc:cells a=some cs) (hf:g.fresh nx) (hm:Sts W0 w (mem g me++R)):∃ g' x w',After P W0 g nx R w rv ⟨d,.box t y,ty,pos,af,gd⟩ (.p nx 0) (T.put nx (some (.c t cs)) me) nx.succ g' x w':=by
 obtain ⟨b1,b2⟩:=den_cells hy hc
 obtain ⟨bb,w',_,hr,hst⟩:=(EF.box (T:=t) (d:=d) (g:=gd) (ty:=ty) (pos:=pos) (af:=af) (kn1 hs y rfl)) rv w (knf_ev hs [y]) hm
 refine ⟨g.set nx (bb,0),.pointer (some ⟨bb,0,none⟩),w',G.set_ext _ _ _,G.set_fresh hf _,le_succ nx,den_p' (G.set_at g nx _),new_c hf hm b1 hst,Or.inl hr⟩
theorem e_st {t n:Nat} {v:SV} (hsz:SZ P t n) (hy:den g a=some (rv y)) (hz:den g b=some (rv z)) (hf:g.fresh nx) (hm:Sts W0 w (mem g me++R)) (h:stE n me nx a b=.ok v me' nx'):∃ g' x w',After P W0 g nx R w rv ⟨d,.store t y z,ty,pos,af,gd⟩ v me' nx' g' x w':=by
 unfold stE at h
 split at h
 ·rename_i i o
  split at h
  ·rename_i t' cs hg
   cases a1:cells b with
   | none=>rw [a1] at h; cases h
   | some ys =>
    rw [a1] at h; dsimp only at h
    cases a2:Nat.beq (len ys) n with
    | false=>rw [a2] at h; cases h
    | true =>
     rw [a2] at h; simp only [cond_true] at h
     cases a3:layAt o ys cs with
     | none=>rw [a3] at h; cases h
     | some cs' =>
      rw [a3] at h; dsimp only at h
      injection h with h1 h2 h3; subst h1; subst h2; subst h3
      obtain ⟨b1,b2⟩:=den_cells hz a1
      obtain ⟨b3,b4⟩:=layAt_spec _ _ _ _ a3
      obtain ⟨q,e1,e2⟩:=den_p hy
      obtain ⟨x,k1⟩:=(mout hm hg).of_some
      obtain ⟨⟨k2,k3⟩,k4⟩:=k1.of_both.of_fact
      obtain rfl:q=(x.1,x.2.1):=by rw [e1] at k2; exact Option.some.inj k2
      have hl:(vc (rv z)).length=ys.length:=dens_len b1
      have hl2:ys.length=n:=by rw [← len_eq]; exact Nat.eq_of_beq_eq_true a2
      have hxl:=dens_len k3
      have hp:=putL_of o (vc (rv z)) x.2.2 (by rw [hl,hxl]; exact b4)
      have hd:dens (den1 g) cs'=some (x.2.2.take o++vc (rv z)++x.2.2.drop (o + (vc (rv z)).length)):=by
       rw [b3,hl]
       exact dens_app (dens_app (dens_take o k3) b1) (dens_drop _ k3)
      obtain ⟨w',hr,hst⟩:=(EU.store (T:=t) (d:=d) (g:=gd) (ty:=ty) (pos:=pos) (af:=af) (kn2a hs y z e2) (kn2b hs y z rfl) hsz (by rw [hl,hl2]; exact Nat.beq_refl n) b2 hp .here) rv w (knf_ev hs [y,z]) k4
      refine ⟨g,undef,w',G.ext.refl _ _,hf,Nat.le_refl _,rfl,?_,Or.inr ⟨hr,rfl⟩⟩
      exact mback (Sts.to_some (x.1,x.2.1,(x.2.2.take o++vc (rv z)++x.2.2.drop (o + (vc (rv z)).length))) (Sts.to_both (Sts.to_fact ⟨e1,hd⟩ hst)))
  ·cases h
 ·cases h
theorem bsl_row {T t zz n:Nat} {lk:LK} {oq:O→Operand→Bool} {qs:List (Nat × Nat × O)} {ps:List (Nat × Operand)} {zs l:List SV} {zero:List Value} (hq:∀ x y v,oq x y=true→lk x=some v→den g v=some (rv y))
  (hb:BS P T t zz zero) (hn:n * zz≤1000) (hn0:0 < n) (hz:dens (den1 g) zs=some (zeros zero n)) (hml:n≤maxLen) (hp:parts (fun i=>some (i * zz,zz)) oq qs ps=true) (hl:fill lk qs zs=some l) (hm:Sts W0 w (mem g me++R)) :
  ∃ bb w' cs,dens (den1 g) l=some cs∧(execOp rv ⟨d,.buildSlice T n ps.toArray,ty,pos,af,gd⟩).run P w=.ok (.value (.slice (some ⟨bb,0,none⟩) n n)) w'∧Sts W0 w' (Rw t zz (.slice (some ⟨bb,0,none⟩) n n) n cs::(mem g me++R)):=by
 obtain ⟨cs,h1,h2⟩:=fill_den hq hp hl hz
 have he:evp (knf rv (ps.map (·.2))) ps=some (ps.map fun p=>(p.1,rv p.2)):=by
  have:∀ (qs:List (Nat × Operand)),(∀ q∈qs,q.2∈ps.map (·.2))→evp (knf rv (ps.map (·.2))) qs=some (qs.map fun p=>(p.1,rv p.2)):=by
   intro qs
   induction qs with
   | nil=>intro _; rfl
   | cons q r ih =>
    intro hall
    simp only [evp,knf_mem hs (hall q (by simp)),ih (fun q hq=>hall q (by simp [hq])),List.map_cons]
  exact this ps (fun q hq=>List.mem_map.2 ⟨q,hq,rfl⟩)
 obtain ⟨bb,w',_,hr,hst⟩:=(EF.buildSlice (d:=d) (g:=gd) (ty:=ty) (pos:=pos) (af:=af) he hb (Nat.ble_eq_true_of_le hn) (by simp [Nat.blt]; omega) h2) rv w (knf_ev hs _) hm
 have hlen:cs.length=n * zz:=by
  have:=dens_len h1
  have h3:∀ (qs:List (Nat × Nat × O)) (z l:List SV),fill lk qs z=some l→l.length=z.length:=by
   intro qs
   induction qs with
   | nil=>intro z l h; have h':some z=some l:=h; injection h' with h'; subst h'; rfl
   | cons q r ih =>
    obtain ⟨off,size,x⟩:=q
    intro z l h
    have h':Option.rec (motive:=fun _=>Option (List SV)) none (fun v=>Option.rec (motive:=fun _=>Option (List SV)) none (fun cs=>bif Nat.beq (len cs) size then Option.rec (motive:=fun _=>Option (List SV)) none (fun z=>fill lk r z) (layAt off cs z) else none) (cells v)) (lk x)=some l:=h
    cases a1:lk x with
    | none=>rw [a1] at h'; cases h'
    | some v =>
     rw [a1] at h'; dsimp only at h'
     cases a2:cells v with
     | none=>rw [a2] at h'; cases h'
     | some cs =>
      rw [a2] at h'; dsimp only at h'
      cases a3:Nat.beq (len cs) size with
      | false=>rw [a3] at h'; cases h'
      | true =>
       rw [a3] at h'; simp only [cond_true] at h'
       cases a4:layAt off cs z with
       | none=>rw [a4] at h'; cases h'
       | some z' =>
        rw [a4] at h'; dsimp only at h'
        obtain ⟨b3,b4⟩:=layAt_spec _ _ _ _ a4
        rw [ih z' l h',b3]
        simp; omega
  have h4:=h3 qs zs l hl
  have h5:=dens_len hz
  rw [zeros_len,hb.2.2.1] at h5
  omega
 have hrow:=hst.toRw hlen hml
 exact ⟨bb,w',cs,h1,hr,hrow⟩
theorem e_bsl {T t zz n:Nat} {lk:LK} {oq:O→Operand→Bool} {qs:List (Nat × Nat × O)} {ps:List (Nat × Operand)} {zs l:List SV} {zero:List Value} (hq:∀ x y v,oq x y=true→lk x=some v→den g v=some (rv y))
  (hb:BS P T t zz zero) (hn:n * zz≤1000) (hn0:0 < n) (hz:dens (den1 g) zs=some (zeros zero n)) (hml:n≤maxLen) (hp:parts (fun i=>some (i * zz,zz)) oq qs ps=true) (hl:fill lk qs zs=some l) (hf:g.fresh nx) (hm:Sts W0 w (mem g me++R)) :
  ∃ g' x w',After P W0 g nx R w rv ⟨d,.buildSlice T n ps.toArray,ty,pos,af,gd⟩ (.sr nx n) (EV.T.put nx (some (.r t zz l)) me) nx.succ g' x w':=by
 obtain ⟨bb,w',cs,h1,hr,hrow⟩:=bsl_row (d:=d) (ty:=ty) (pos:=pos) (af:=af) (gd:=gd) hs hq hb hn hn0 hz hml hp hl hm
 exact ⟨g.set nx (bb,n),.slice (some ⟨bb,0,none⟩) n n,w',G.set_ext _ _ _,G.set_fresh hf _,le_succ nx,den_sr (G.set_at g nx _),new_r hf (get_nx hm hf) h1 hrow,Or.inl hr⟩
end
end
noncomputable section
open Go.RowKit
section
variable {P:Program} {w W0:World} {rv:Operand→Value} {g:G} {me me':T Ob} {R:List Thing} {nx nx':Pos} {y z u:Operand} {a b c v:SV} {d:Option Tmp} {ty:TypeId} {pos:String} {af:Array Edge} {gd:Option (Nat × Bool)} (hs:Std rv)
include hs
theorem e_bsl0 {T t zz:Nat} (hu:P.underlying T=some (.slice t)) (hi:(P.info? t).map (·.size)=some zz) (hf:g.fresh nx) (hm:Sts W0 w (mem g me++R)) :
  ∃ g' x w',After P W0 g nx R w rv ⟨d,.buildSlice T 0 #[],ty,pos,af,gd⟩ (.sr nx 0) (EV.T.put nx (some (.r t zz [])) me) nx.succ g' x w':=by
 have hst:Sts W0 (w.alloc (.cells #[] t)) (Bk w.heap.size t []::(mem g me++R)):=hm.newBk t []
 have hrow:=hst.toRw (e:=t) (s:=zz) (n:=0) (by simp) (Nat.zero_le _)
 obtain ⟨inf,hinf,hs1⟩:∃ inf,P.info? t=some inf∧inf.size=zz:=by
  cases h:P.info? t with
  | none=>simp [h] at hi
  | some i=>rw [h] at hi; simp at hi; exact ⟨i,rfl,hi⟩
 refine ⟨g.set nx (w.heap.size,0),.slice (some ⟨w.heap.size,0,none⟩) 0 0,_,G.set_ext _ _ _,G.set_fresh hf _,le_succ nx,den_sr (G.set_at g nx _),new_r hf (get_nx hm hf) rfl hrow,Or.inl ?_⟩
 simp only [execOp,Sem.run_bind,Instr.buildSlice,underlying,run_program,hu,Result.andThen_ok,Sem.run_pure,sizeOf,typeInfo,hinf,newRow,run_newObj,Nat.zero_mul]
 simp [Instr.fill,newRow,run_newObj,Sem.run_bind]
 congr 2
 apply Array.ext'
 simp
theorem e_ap {T e zz bts:Nat} {zv:Value} (hT:APt P T e zz bts zv) (hy:den g a=some (rv y)) (hz:den g b=some (rv z)) (hf:g.fresh nx) (hm:Sts W0 w (mem g me++R)) (h:apE e zz bts me nx a b=.ok v me' nx') :
  ∃ g' x w',After P W0 g nx R w rv ⟨d,.call { callee:=.builtin .append,args:=#[y,z],argTypes:=#[T,T] },ty,pos,af,gd⟩ v me' nx' g' x w':=by
 unfold apE at h
 cases hc:sliceCells me zz b with
 | none=>rw [hc] at h; cases h
 | some p =>
  obtain ⟨n,l⟩:=p
  rw [hc] at h; dsimp only at h
  cases hn0:Nat.beq n 0 with
  | true=>rw [hn0] at h; cases h
  | false =>
   rw [hn0] at h; simp only [cond_false] at h
   have hn:0 < n:=Nat.pos_of_ne_zero fun e=>by subst e; simp at hn0
   obtain ⟨bb,oo,cc,xs,e1,e2,e3,e4⟩:=sliceCells_at hm hz hc
   have hxl:=dens_len e2
   have hnews:∀ j u,xs[j]?=some u→w.cell? ((⟨bb,oo,none⟩:Addr).add j)=some u:=fun j u hj=>by rw [add_off]; exact e4 j u hj
   have hone:∀ u∈xs,u.oneCell'=true:=ones_spec (dens_ones e2)
   cases a with
   | sn =>
    dsimp only at h
    cases hb:Nat.ble (Nat.mul n (Nat.succ bts)) 1000000 with
    | false=>rw [hb] at h; cases h
    | true =>
     rw [hb] at h; simp only [cond_true] at h
     injection h with h1 h2 h3; subst h1; subst h2; subst h3
     have hle:n * (bts + 1)≤1000000:=Nat.le_of_ble_eq_true hb
     rw [Nat.mul_add] at hle
     have ey:rv y=.slice none 0 0:=(Option.some.inj hy).symm
     have h0:=Sts.nilRw e zz hm
     have hown:=h0.rw .here
     obtain ⟨v',w',r1,r2,r3,r4⟩:=append_run (P:=P) (a:=⟨bb,oo,none⟩) (c:=cc) (m:=n) hT hown (by rw [hxl,e3]) hnews hone (by unfold maxLen; omega) (by rw [Nat.zero_add]; omega) ty
     have h1:=h0.appendRw r2 r3 r4
     obtain ⟨aa,cap,rfl,hfm⟩:=row_form r2
     obtain ⟨gb,rfl,_⟩:=hfm (by omega)
     rw [Nat.zero_add] at h1 r1
     refine ⟨g.set nx (gb,cap),.slice (some ⟨gb,0,none⟩) n cap,w',G.set_ext _ _ _,G.set_fresh hf _,le_succ nx,den_sr (G.set_at g nx _),new_r hf (get_nx hm hf) e2 (by simpa using h1),Or.inl ?_⟩
     simp only [execOp,resolve,invoke,builtin,Sem.run_bind,Sem.run_pure,Result.andThen_ok,List.map_toArray,List.map_cons,List.map_nil,ey,e1,r1]
   | sr i m =>
    dsimp only at h
    cases hg:EV.T.get i me with
    | none=>rw [hg] at h; cases h
    | some ob =>
     rw [hg] at h
     cases ob with
     | r t' z' cs =>
      dsimp only at h
      cases hb:(and (Nat.beq (len cs) (Nat.mul m zz)) (and (Nat.beq e t') (and (Nat.beq zz z') (Nat.ble (Nat.mul (Nat.add m n) (Nat.succ bts)) 1000000)))) with
      | false=>rw [hb] at h; cases h
      | true =>
       rw [hb] at h; simp only [cond_true] at h
       injection h with h1 h2 h3; subst h1; subst h2; subst h3
       simp only [Bool.and_eq_true] at hb
       have q1:=Nat.eq_of_beq_eq_true hb.1
       have q2:=Nat.eq_of_beq_eq_true hb.2.1
       have q3:=Nat.eq_of_beq_eq_true hb.2.2.1
       subst q2; subst q3
       have hle:(m + n) * (bts + 1)≤1000000:=Nat.le_of_ble_eq_true hb.2.2.2
       rw [Nat.mul_add] at hle
       obtain ⟨x,k1⟩:=(mout hm hg).of_some
       obtain ⟨⟨k2,k3⟩,k4⟩:=k1.of_both.of_fact
       simp only [den,den2,den1,den0,Option.map_eq_some_iff] at hy
       obtain ⟨q,hq,ey⟩:=hy
       obtain rfl:q=(x.1,x.2.1):=by rw [hq] at k2; exact Option.some.inj k2
       have hown:=k4.rw .here
       have hz0:0 < zz:=hT.2.2.2
       have hmm:x.2.2.2=m:=by
        have a1:=hown.1
        have a2:=dens_len k3
        rw [len_eq] at q1
        have a3:x.2.2.2 * zz=m * zz:=by rw [← a1,a2]; exact q1
        exact Nat.eq_of_mul_eq_mul_right hz0 a3
       rw [hmm] at hown k4
       obtain ⟨v',w',r1,r2,r3,r4⟩:=append_run (P:=P) (a:=⟨bb,oo,none⟩) (c:=cc) (m:=n) hT hown (by rw [hxl,e3]) hnews hone (by unfold maxLen; omega) (by omega) ty
       have h1:=k4.appendRw r2 r3 r4
       obtain ⟨aa,cap,rfl,hfm⟩:=row_form r2
       obtain ⟨gb,rfl,_⟩:=hfm (by omega)
       have hne:i≠nx:=fun e=>by
        subst e
        rw [hf i (Nat.le_refl _)] at hq; cases hq
       have hnn:EV.T.get nx (EV.T.put i none me)=none:=by rw [EV.T.get_other none i nx me (Ne.symm hne)]; exact get_nx hm hf
       refine ⟨g.set nx (gb,cap),.slice (some ⟨gb,0,none⟩) (m + n) cap,w',G.set_ext _ _ _,G.set_fresh hf _,le_succ nx,den_sr (G.set_at g nx _),new_r hf hnn (by rw [app_eq]; exact dens_app k3 e2) h1,Or.inl ?_⟩
       simp only [execOp,resolve,invoke,builtin,Sem.run_bind,Sem.run_pure,Result.andThen_ok,List.map_toArray,List.map_cons,List.map_nil,← ey,e1,r1]
     | _=>cases h
   | _=>cases h
end
theorem den_2 {g:G} {x:SV} {v:Value} {cs:List SV} (h:den g x=some v) (hc:cells x=some cs):den2 g x=some v:=by
 cases x with
 | t l=>cases hc
 | _=>exact h
theorem setK_perm {a:Int} {v:Value}:∀ {l:List (Int × Value)},(l.map (·.1)).Nodup→(setK a v l).Perm ((a,v)::l.filter (fun p=>!decide (p.1=a)))
 | [],_=>List.Perm.refl _
 | (k,u)::r,h=>by
  simp only [List.map_cons,List.nodup_cons] at h
  by_cases e:a=k
  ·subst e
   have:r.filter (fun p=>!decide (p.1=a))=r:=List.filter_eq_self.2 fun p hp=>by
    have:p.1≠a:=fun e=>h.1 (List.mem_map.2 ⟨p,hp,e⟩)
    simp [this]
   simp [setK,this]
  ·have ih:=setK_perm (a:=a) (v:=v) h.2
   simp only [setK,e,if_false]
   rw [List.filter_cons_of_pos (by simp [Ne.symm e])]
   exact (List.Perm.cons _ ih).trans (List.Perm.swap _ _ _)
theorem setK_perm2 {a:Int} {v:Value} {l m:List (Int × Value)} (p:l.Perm m) (h:(m.map (·.1)).Nodup):(setK a v l).Perm (setK a v m) :=
 (setK_perm ((p.map (·.1)).nodup_iff.2 h)).trans ((List.Perm.cons _ (p.filter _)).trans (setK_perm h).symm)
theorem setM_den {g:G} {n:Int} {x:SV} {v:Value} (hx:den2 g x=some v):∀ {l:List (Int × SV)} {vs:List (Int × Value)},kvDen g l=some vs→kvDen g (setM l n x)=some (setK n v vs)
 | [],vs,h=>by
  simp [kvDen] at h; subst h
  show kvDen g [(n,x)]=_
  simp [kvDen,hx,setK]
 | (k1,k2)::r,vs,hv=>by
  simp only [kvDen] at hv
  cases a1:den2 g k2 with
  | none=>simp [a1] at hv
  | some v1=>cases a2:kvDen g r with
   | none=>simp [a1,a2] at hv
   | some v2 =>
    simp [a1,a2] at hv; subst hv
    have hl:setM ((k1,k2)::r) n x=bif ieq n k1 then (n,x)::r else (k1,k2)::setM r n x:=rfl
    rw [hl,ieq_eq]
    by_cases e:n=k1
    ·subst e; simp [kvDen,hx,a2,setK]
    ·have ih:=setM_den (n:=n) hx a2
     simp [e,kvDen,a1,ih,setK]
theorem setM_keys {n : Int} {x : SV} : ∀ {l : List (Int × SV)}, (l.map (·.1)).Nodup → ((setM l n x).map (·.1)).Nodup ∧ ∀ k, k ∈ (setM l n x).map (·.1) → k = n ∨ k ∈ l.map (·.1)
  | [], _ => by
    have : setM [] n x = [(n, x)] := rfl
    rw [this]; simp
  | (k1, k2) :: r, h => by
    simp only [List.map_cons, List.nodup_cons] at h
    have hl : setM ((k1, k2) :: r) n x = bif ieq n k1 then (n, x) :: r else (k1, k2) :: setM r n x := rfl
    rw [hl, ieq_eq]
    by_cases e : n = k1
    · subst e
      simp only [decide_true, cond_true, List.map_cons, List.nodup_cons]
      exact ⟨h, fun k hk => by rcases List.mem_cons.1 hk with rfl | hk
                               · exact .inl rfl
                               · exact .inr (List.mem_cons_of_mem _ hk)⟩
    · obtain ⟨i1, i2⟩ := setM_keys (n := n) (x := x) h.2
      simp only [e, decide_false, cond_false, List.map_cons, List.nodup_cons]
      refine ⟨⟨fun hk => ?_, i1⟩, fun k hk => ?_⟩
      · rcases i2 _ hk with rfl | hk
        · exact e rfl
        · exact h.1 hk
      · rcases List.mem_cons.1 hk with rfl | hk
        · exact .inr (List.mem_cons_self ..)
        · exact (i2 _ hk).imp id (List.mem_cons_of_mem _)
def delK (a:Int):List (Int × Value)→List (Int × Value)
 | []=>[]
 | p::r=>if a=p.1 then r else p::delK a r
theorem delK_filter {a:Int}:∀ {l:List (Int × Value)},(l.map (·.1)).Nodup→delK a l=l.filter (fun p=>!decide (p.1=a))
 | [],_=>rfl
 | (k,u)::r,h=>by
  simp only [List.map_cons,List.nodup_cons] at h
  by_cases e:a=k
  ·subst e
   have:r.filter (fun p=>!decide (p.1=a))=r:=List.filter_eq_self.2 fun p hp=>by
    have:p.1≠a:=fun e=>h.1 (List.mem_map.2 ⟨p,hp,e⟩)
    simp [this]
   simp [delK,this]
  ·rw [List.filter_cons_of_pos (by simp [Ne.symm e])]
   simp only [delK,e,if_false,delK_filter h.2]
theorem delM_den {g:G} {n:Int}:∀ {l:List (Int × SV)} {vs:List (Int × Value)},kvDen g l=some vs→kvDen g (delM l n)=some (delK n vs)
 | [],vs,h=>by
  simp [kvDen] at h; subst h; rfl
 | (k1,k2)::r,vs,hv=>by
  simp only [kvDen] at hv
  cases a1:den2 g k2 with
  | none=>simp [a1] at hv
  | some v1=>cases a2:kvDen g r with
   | none=>simp [a1,a2] at hv
   | some v2 =>
    simp [a1,a2] at hv; subst hv
    have hl:delM ((k1,k2)::r) n=bif ieq n k1 then r else (k1,k2)::delM r n:=rfl
    rw [hl,ieq_eq]
    by_cases e:n=k1
    ·subst e; simp [a2,delK]
    ·have ih:=delM_den (n:=n) a2
     simp [e,kvDen,a1,ih,delK]
theorem delM_keys {n:Int}:∀ {l:List (Int × SV)},((delM l n).map (·.1)).Sublist (l.map (·.1))
 | []=>List.Sublist.refl _
 | (k1,k2)::r=>by
  have hl:delM ((k1,k2)::r) n=bif ieq n k1 then r else (k1,k2)::delM r n:=rfl
  rw [hl,ieq_eq]
  by_cases e:n=k1
  ·subst e; simp
  ·simp only [e,decide_false,cond_false,List.map_cons]
   exact List.Sublist.cons_cons _ delM_keys
theorem delK_none {a:Int}:∀ {l:List (Int × Value)} {i:Nat},lookAt a l i=none→delK a l=l
 | [],_,_=>rfl
 | p::r,i,h=>by
  simp only [lookAt] at h
  by_cases e:a=p.1
  ·simp [e] at h
  ·rw [if_neg e] at h; simp [delK,e,delK_none h]
theorem delK_some {a:Int}:∀ {l:List (Int × Value)} {i j:Nat} {u:Value},lookAt a l i=some (j,u)→delK a l=l.eraseIdx (j - i)
 | [],i,j,u,h=>by simp [lookAt] at h
 | p::r,i,j,u,h=>by
  simp only [lookAt] at h
  by_cases e:a=p.1
  ·rw [if_pos e] at h; simp at h; obtain ⟨rfl,rfl⟩:=h; simp [delK,e]
  ·rw [if_neg e] at h
   have hg:=lookAt_ge h
   rw [show j - i=(j - (i + 1)) + 1 by omega]
   simp only [delK,e,if_false,delK_some h,List.eraseIdx_cons_succ]
section
variable {P:Program} {w W0:World} {rv:Operand→Value} {g:G} {me me':T Ob} {R:List Thing} {nx nx':Pos} {y z u:Operand} {a b c v:SV} {d:Option Tmp} {ty:TypeId} {pos:String} {af:Array Edge} {gd:Option (Nat × Bool)} (hs:Std rv)
include hs
theorem e_mkm {t:Nat} {k:IntKind} (hf:g.fresh nx) (hm:Sts W0 w (mem g me++R)) :
  ∃ g' x w',After P W0 g nx R w rv ⟨d,.makeMap t none,ty,pos,af,gd⟩ (.m nx) (EV.T.put nx (some (.m k [])) me) nx.succ g' x w':=by
 obtain ⟨bb,w',_,hr,hst⟩:=(EF.makeMap (ienc k) (P:=P) (kn:=[]) (d:=d) (g:=gd) (T:=t) (ty:=ty) (pos:=pos) (af:=af)) rv w (fun x v h=>knf_ev hs [] x v h) hm
 have hle:=(G.set_ext g nx (bb,0)).le hf
 have h2:Sts W0 w' (OT (g.set nx (bb,0)) nx (.m k [])::(mem g me++R)):=Sts.to_some (bb,0,[],[]) (Sts.to_both (Sts.to_fact ⟨G.set_at g nx _,rfl,List.Perm.refl _,by simp⟩ hst))
 have h3:Sts W0 w' (mem g me++(OT (g.set nx (bb,0)) nx (.m k [])::R)):=h2.perm List.perm_middle.symm
 have h4:=mem_mono hle h3
 exact ⟨g.set nx (bb,0),.map (some bb),w',G.set_ext _ _ _,G.set_fresh hf _,le_succ nx,by simp [den,den2,den1,den0,G.set_at],minto (h4.perm List.perm_middle) (get_nx hm hf),Or.inl hr⟩
theorem e_mu {T K E:Nat} {kk:IntKind} (hT:P.underlying T=some (.map K E)) (hK:KeyL P K (ienc kk)) (hy:den g a=some (rv y)) (hz:den g b=some (rv z)) (hu:den g c=some (rv u)) (hf:g.fresh nx) (hm:Sts W0 w (mem g me++R)) (h:muE kk me nx a b c=.ok v me' nx') :
  ∃ g' x w',After P W0 g nx R w rv ⟨d,.mapUpdate T y z u,ty,pos,af,gd⟩ v me' nx' g' x w':=by
 unfold muE at h
 split at h
 ·rename_i i
  cases hg:EV.T.get i me with
  | none=>rw [hg] at h; cases h
  | some o =>
   rw [hg] at h
   cases o with
   | m k kvs =>
    dsimp only at h
    cases hc:keq kk k with
    | false=>rw [hc] at h; cases h
    | true =>
     rw [hc] at h; simp only [cond_true] at h
     have e2:=keq_eq hc
     subst e2
     cases hn:keyN kk b with
     | none=>rw [hn] at h; cases h
     | some n =>
     rw [hn] at h; dsimp only at h
     obtain ⟨cc,hcc⟩:∃ cc,cells c=some cc:=by
      cases h0:cells c with
      | none=>rw [h0] at h; cases h
      | some cc=>exact ⟨cc,rfl⟩
     rw [hcc] at h; dsimp only at h
     have hu:=den_2 hu hcc
     injection h with h1 h2 h3; subst h1; subst h2; subst h3
     simp only [den,den2,den1,den0,Option.map_eq_some_iff] at hy
     obtain ⟨q,hq,e⟩:=hy
     have ez:=key_enc hn hz
     obtain ⟨x,k1⟩:=(mout hm hg).of_some
     obtain ⟨⟨k2,k3,k4,k5⟩,k6⟩:=k1.of_both.of_fact
     obtain rfl:q=(x.1,x.2.1):=by rw [hq] at k2; exact Option.some.inj k2
     have hlp:ev (knf rv [y,z,u]) u=some (rv u):=knf_mem hs (by simp)
     obtain ⟨w',hr,hst⟩:=(EU.mapUpdate (P:=P) (d:=d) (g:=gd) (ty:=ty) (ps:=pos) (af:=af) (show ev (knf rv [y,z,u]) y=some (.map (some x.1)) from e ▸ knf_mem hs (by simp)) (show ev (knf rv [y,z,u]) z=some (ienc kk n) from by rw [show ienc kk n=rv z from ez.symm]; exact knf_mem hs (by simp)) hlp .here hK hT) rv w (knf_ev hs _) k6
     refine ⟨g,undef,w',G.ext.refl _ _,hf,Nat.le_refl _,rfl,?_,Or.inr ⟨hr,rfl⟩⟩
     refine mback (Sts.to_some (x.1,x.2.1,setK n (rv u) x.2.2.1,setK n (rv u) x.2.2.2) (Sts.to_both (Sts.to_fact ⟨hq,setM_den hu k3,setK_perm2 k4 (by rw [kvDen_keys k3]; exact k5),(setM_keys k5).1⟩ hst)))
   | _=>cases h
 ·cases h
end
end
end EV
end Go.Proofs.YtadggjnohohedaaGreatDoor
