/- TopAlone: for every input the call returns true; part A0 of the proof. -/
import Derived.WalkKit
import Derived.ProofKit
import Derived.OpenShut
import Derived.Below
import Derived.Lib.Hide
import Derived.Outline
import Derived.Handy
import Derived.Deep.RegionHeld3
import Derived.Deep.RegionLaw
import Derived.Deep.AppendLies
import Derived.Laws.OwnMore
import Derived.LoopTactic
import Derived.OwnWalk
import Derived.BigQuiet
import Derived.Defers
import Derived.Laws.Cells
import Derived.Laws.CopyRow
import Derived.Laws.Strings
import Derived.Test.YtadggjnohohedaaGreatDoorRows
import Derived.KernelRfl
import Derived.Still
import Derived.ScopeJumps
import Derived.Maps.AppendAt
import Derived.IntWalk
import Derived.Laws.StructEq
set_option linter.unusedVariables false
set_option linter.unusedSimpArgs false
set_option linter.unusedSectionVars false
set_option maxRecDepth 1000000
open Go.RowKit
namespace Go.Proofs.YtadggjnohohedaaGreatDoor
section
theorem keep {w w':World} (hb:Below w.heap.size w w') {b o:Nat} {v:Value} (f:w.cell? ⟨b,o,none⟩=some v):w'.cell? ⟨b,o,none⟩=some v :=
 (hb.cell (p:=⟨b,o,none⟩) (World.block_lt_of_cell? w _ f)).trans f
theorem aK0 {w w':World} (hb:Below w.heap.size w w') {b o:Nat} {v:Value} {z:Bool} (f:w.cell? ⟨b,o,none⟩=some v) (g:w.frozen? ⟨b,o,none⟩=z):w'.frozen? ⟨b,o,none⟩=z :=
 (hb.frozen (p:=⟨b,o,none⟩) (World.block_lt_of_cell? w _ f)).trans g
theorem aK1 {w:World} (x:Obj) {b o:Nat} {v:Value} (f:w.cell? ⟨b,o,none⟩=some v):(w.alloc x).cell? ⟨b,o,none⟩=some v :=
 keep ((Below.refl _ _).alloc (Nat.le_refl _) x) f
def AU (k:IntKind) (w:World) (a:Option Addr) (len cap:Nat) (zs:List Int):Prop :=
 (a=none∧len=0∧cap=0∧zs=[]) ∨
 ∃ x,a=some x∧len≤cap∧cap≤maxLen∧zs.length=cap∧(∀ i,i < zs.length→w.cell? (x.add i)=some (.int k (zs.getD i 0)))∧∀ n∈zs,(Lit.int k n).wf=true
def QA (zs:List Int) (i:Nat):Nat:=(zs.getD i 0).toNat
structure aNk (k:IntKind) (top:Nat) (w:World) (a:Option Addr) (len:Nat) (g:Nat→Nat):Prop where
 bound:len≤9223372036854775807
 cell:∀ i,i < len→∃ blk off,a=some ⟨blk,off,none⟩∧w.cell? ⟨blk,off + i,none⟩=some (.int k (g i:Nat))
 lt:∀ i,i < len→g i < top
theorem AU.at' {k:IntKind} {w:World} {a:Option Addr} {len cap:Nat} {zs:List Int} (h:AU k w a len cap zs):len≤maxLen∧∀ i,i < len→∃ blk off,a=some ⟨blk,off,none⟩∧w.cell? ⟨blk,off + i,none⟩=some (.int k (zs.getD i 0))∧(Lit.int k (zs.getD i 0)).wf=true:=by
 rcases h with ⟨rfl,rfl,rfl,rfl⟩ | ⟨x,rfl,hl,hm,hz,hcell,hwz⟩
 ·exact ⟨Nat.zero_le _,fun i hi=>by omega⟩
 refine ⟨by omega,fun i hi=>?_⟩;have hc:=hcell i (by omega);obtain ⟨b,off,spot⟩:=x;have hspot:spot=none:=by simpa [Addr.add] using World.cell?_spot (hcell 0 (by omega))
 subst hspot;have ea:(Addr.add ⟨b,off,none⟩ i)=⟨b,off + i,none⟩:=by
  unfold Addr.add; split
  ·next h=>subst h; rfl
  rfl
 rw [ea] at hc;refine ⟨b,off,rfl,hc,hwz _ ?_⟩;rw [List.getD_eq_getElem?_getD,List.getElem?_eq_getElem (by omega)];exact List.getElem_mem _
theorem AU.u8 {w:World} {a:Option Addr} {len cap:Nat} {zs:List Int} (h:AU .u8 w a len cap zs):aNk .u8 256 w a len (QA zs):=by
 obtain ⟨h1,h2⟩:=h.at';refine ⟨by unfold maxLen at h1; exact h1,fun i hi=>?_,fun i hi=>?_⟩
 ·obtain ⟨b,off,ha,hc,hw⟩:=h2 i hi;have hr:=bounds_u8 hw;refine ⟨b,off,ha,?_⟩;rw [hc]; unfold QA;rw [Int.toNat_of_nonneg hr.1]
 obtain ⟨b,off,ha,hc,hw⟩:=h2 i hi;have hr:=bounds_u8 hw;unfold QA; omega
theorem AU.u64 {w:World} {a:Option Addr} {len cap:Nat} {zs:List Int} (h:AU .u64 w a len cap zs):aNk .u64 18446744073709551616 w a len (QA zs):=by
 obtain ⟨h1,h2⟩:=h.at';refine ⟨by unfold maxLen at h1; exact h1,fun i hi=>?_,fun i hi=>?_⟩
 ·obtain ⟨b,off,ha,hc,hw⟩:=h2 i hi;have hr:=bounds_u64 hw;refine ⟨b,off,ha,?_⟩;rw [hc]; unfold QA;rw [Int.toNat_of_nonneg hr.1]
 obtain ⟨b,off,ha,hc,hw⟩:=h2 i hi;have hr:=bounds_u64 hw;unfold QA; omega
end
section
def At (W:World) (b:Nat) (t:TypeId) (C:Array Value):Prop:=W.heap[b]?=some (.cells C t (0,0))
theorem At.rd {W:World} {b:Nat} {t:TypeId} {C:Array Value} (h:At W b t C):∀ o,W.cell? ⟨b,o,none⟩=C[o]?:=fun o=>cell_of_row W b o C t (0,0) h
theorem At.fr {W:World} {b:Nat} {t:TypeId} {C:Array Value} (h:At W b t C):∀ o,W.frozen? ⟨b,o,none⟩=false:=by
 intro o;unfold At at h;simp [World.frozen?,h]
theorem At.lt {W:World} {b:Nat} {t:TypeId} {C:Array Value} (h:At W b t C):b < W.heap.size:=by
 rcases Nat.lt_or_ge b W.heap.size with hlt | hge
 ·exact hlt
 unfold At at h; rw [Array.getElem?_eq_none hge] at h; cases h
theorem At.keep {W W':World} {b:Nat} {t:TypeId} {C:Array Value} (h:At W b t C) (hb:Below W.heap.size W W'):At W' b t C:=(hb.block b h.lt).trans h
theorem At.alloc {W:World} {b:Nat} {t:TypeId} {C:Array Value} (h:At W b t C) (o:Obj):At (W.alloc o) b t C:=h.keep ((Below.refl _ _).alloc (Nat.le_refl _) o)
theorem At.new (W:World) (t:TypeId) (C:Array Value):At (W.alloc (.cells C t)) W.heap.size t C:=heap_alloc_new W _
theorem At.other {W:World} {b b2 o:Nat} {t:TypeId} {C:Array Value} {v:Value} (h:At W b t C) (hn:b≠b2):At (W.setCell ⟨b2,o,none⟩ v) b t C:=(Below.heap_setCell W ⟨b2,o,none⟩ v b hn).trans h
theorem At.set {W:World} {b o:Nat} {t:TypeId} {C:Array Value} {v:Value} (h:At W b t C):At (W.setCell ⟨b,o,none⟩ v) b t (C.setIfInBounds o v):=by
 unfold At at h ⊢;simp only [World.setCell,Array.getElem?_modify,if_pos,h,Option.map_some];rfl
theorem aEk {w:World} (x:Obj) {b o:Nat} {v:Value} {z:Bool} (f:w.cell? ⟨b,o,none⟩=some v) (g:w.frozen? ⟨b,o,none⟩=z):(w.alloc x).frozen? ⟨b,o,none⟩=z:=aK0 ((Below.refl _ _).alloc (Nat.le_refl _) x) f g
theorem iJ {w:World} {base:Nat} {e:TypeId} {size:Nat} {v:Value} {n:Nat} {xs:List Value} (h:w.ownsRow base e size v n xs) :
  ∃ a cap,v=.slice a n cap∧(0 < n→∃ g,a=some ⟨g,0,none⟩∧base≤g∧g < w.heap.size):=by
 rcases h.2 with ⟨rfl,h0⟩ | ⟨g,cap,cur,hv,hb,hg,_⟩
 ·exact ⟨none,0,by rw [h0],fun h=>by omega⟩
 refine ⟨_,_,hv,fun _=>⟨g,rfl,hb,?_⟩⟩;rcases Nat.lt_or_ge g w.heap.size with hlt | hge
 ·exact hlt
 rw [Array.getElem?_eq_none hge] at hg; cases hg
theorem aF5 {B:Nat} {a w:World} (h:Below B a w) (n:Nat):Below B a (w.drewN n):=⟨h.os,h.tape,h.output,h.size,h.block⟩
structure Mem (B:Nat) (a W:World) (L:List (Nat × TypeId × Array Value)):Prop where
 all:∀ x∈L,At W x.1 x.2.1 x.2.2
 below:Below B a W
 size:B≤W.heap.size
theorem Mem.keep {B:Nat} {a W W':World} {L:List (Nat × TypeId × Array Value)} (m:Mem B a W L) (hb:Below W.heap.size W W'):Mem B a W' L :=
 ⟨fun x hx=>(m.all x hx).keep hb,m.below.trans (hb.mono m.size),Nat.le_trans m.size hb.size⟩
theorem Mem.drew {B:Nat} {a W:World} {L:List (Nat × TypeId × Array Value)} (m:Mem B a W L):Mem B a W.drew L:=m.keep ((Below.refl _ _).drew)
theorem Mem.alloc {B:Nat} {a W:World} {L:List (Nat × TypeId × Array Value)} (m:Mem B a W L) (o:Obj):Mem B a (W.alloc o) L:=m.keep ((Below.refl _ _).alloc (Nat.le_refl _) o)
theorem Mem.nil {a W:World} (h:Below a.heap.size a W):Mem a.heap.size a W []:=⟨fun x hx=>(List.not_mem_nil hx).elim,h,h.size⟩
theorem Mem.cons {B:Nat} {a W:World} {L:List (Nat × TypeId × Array Value)} {b:Nat} {t:TypeId} {C:Array Value} (h:At W b t C) (m:Mem B a W L):Mem B a W ((b,t,C)::L) :=
 ⟨fun x hx=>(List.mem_cons.1 hx).elim (fun e=>e ▸ h) (m.all x),m.below,m.size⟩
theorem Mem.hd {B:Nat} {a W:World} {L:List (Nat × TypeId × Array Value)} {b:Nat} {t:TypeId} {C:Array Value} (m:Mem B a W ((b,t,C)::L)):At W b t C:=m.all (b,t,C) (List.mem_cons_self ..)
theorem Mem.tl {B:Nat} {a W:World} {L:List (Nat × TypeId × Array Value)} {x:Nat × TypeId × Array Value} (m:Mem B a W (x::L)):Mem B a W L:=⟨fun y hy=>m.all y (List.mem_cons_of_mem _ hy),m.below,m.size⟩
end
section
structure aA where
 is:World→(Nat→Prop)→Prop
 lt:∀ W F,is W F→∀ b,F b→b < W.heap.size
 keep:∀ W W' F,is W F→(∀ b,F b→W'.heap[b]?=W.heap[b]?)→is W' F
def qX (B:Nat) (W:World):List aA→(Nat→Prop)→Prop
 | [],_=>True
 | T::L,F=>∃ A,T.is W A∧(∀ b,A b→B≤b∧F b)∧qX B W L (fun b=>F b∧¬ A b)
theorem qX.mono {B:Nat} {W:World} {L:List aA}:∀ {F G:Nat→Prop},qX B W L F→(∀ b,F b→G b)→qX B W L G:=by
 induction L with
 | nil=>intro F G _ _; trivial
 | cons T L ih =>
  rintro F G ⟨A,h1,h2,h3⟩ hg;exact ⟨A,h1,fun b hb=>⟨(h2 b hb).1,hg b (h2 b hb).2⟩,ih h3 (fun b hb=>⟨hg b hb.1,hb.2⟩)⟩
theorem qX.keep {B:Nat} {W W':World} {L:List aA}:∀ {F:Nat→Prop},qX B W L F→(∀ b,b < W.heap.size→F b→W'.heap[b]?=W.heap[b]?)→qX B W' L F:=by
 induction L with
 | nil=>intro F _ _; trivial
 | cons T L ih =>
  rintro F ⟨A,h1,h2,h3⟩ hk;exact ⟨A,T.keep _ _ _ h1 (fun b hb=>hk b (T.lt _ _ h1 b hb) (h2 b hb).2),h2,ih h3 (fun b hl hb=>hk b hl hb.1)⟩
theorem qX.swap {B:Nat} {W:World} {T U:aA} {L:List aA} {F:Nat→Prop} (h:qX B W (T::U::L) F):qX B W (U::T::L) F:=by
 obtain ⟨A,h1,h2,C,h3,h4,h5⟩:=h;exact ⟨C,h3,fun b hb=>⟨(h4 b hb).1,(h4 b hb).2.1⟩,A,h1,fun b hb=>⟨(h2 b hb).1,(h2 b hb).2,fun hc=>(h4 b hc).2.2 hb⟩,h5.mono (fun b hb=>⟨⟨hb.1.1,hb.2⟩,hb.1.2⟩)⟩
theorem qX.tail {B:Nat} {W:World} {T:aA} {L:List aA} {F:Nat→Prop} (h:qX B W (T::L) F):qX B W L F:=by
 obtain ⟨A,h1,h2,h3⟩:=h;exact h3.mono (fun b hb=>hb.1)
theorem qX.perm {B:Nat} {W:World} {L M:List aA} (p:L.Perm M):∀ {F:Nat→Prop},qX B W L F→qX B W M F:=by
 induction p with
 | nil=>intro F h; exact h
 | cons x _ ih=>rintro F ⟨A,h1,h2,h3⟩; exact ⟨A,h1,h2,ih h3⟩
 | swap x y l=>intro F h; exact h.swap
 | trans _ _ ih1 ih2=>intro F h; exact ih2 (ih1 h)
theorem qX.old {B:Nat} {W:World} {L:List aA}:∀ {F:Nat→Prop},qX B W L F→qX B W L (fun b=>F b∧b < W.heap.size):=by
 induction L with
 | nil=>intro F _; trivial
 | cons T L ih =>
  rintro F ⟨A,h1,h2,h3⟩;exact ⟨A,h1,fun b hb=>⟨(h2 b hb).1,(h2 b hb).2,T.lt _ _ h1 b hb⟩,(ih h3).mono (fun b hb=>⟨⟨hb.1.1,hb.2⟩,hb.1.2⟩)⟩
def aB (W0 W:World) (L:List aA):Prop:=Below W0.heap.size W0 W∧qX W0.heap.size W L (fun _=>True)
section
variable {W0 W W':World} {L M R:List aA} {T U V X Y:aA}
theorem aB.nil (W:World):aB W W []:=⟨Below.refl _ _,trivial⟩
theorem aB.below (h:aB W0 W L):Below W0.heap.size W0 W:=h.1
theorem aB.perm (h:aB W0 W L) (p:L.Perm M):aB W0 W M:=⟨h.1,h.2.perm p⟩
theorem aB.tail (h:aB W0 W (T::L)):aB W0 W L:=⟨h.1,h.2.tail⟩
theorem aB.p1 (h:aB W0 W (T::U::L)):aB W0 W (U::T::L):=⟨h.1,h.2.swap⟩
theorem aB.p2 (h:aB W0 W (T::U::V::L)):aB W0 W (V::T::U::L):=h.perm ((List.Perm.cons T (List.Perm.swap V U L)).trans (List.Perm.swap V T (U::L)))
theorem aB.p3 (h:aB W0 W (T::U::V::X::L)):aB W0 W (X::T::U::V::L):=h.perm ((List.Perm.cons T ((List.Perm.cons U (List.Perm.swap X V L)).trans (List.Perm.swap X U (V::L)))).trans (List.Perm.swap X T (U::V::L)))
theorem aB.step (h:aB W0 W L) (hb:Below W.heap.size W W'):aB W0 W' L:=⟨h.1.trans (hb.mono h.1.size),h.2.keep (fun b hl _=>hb.block b hl)⟩
theorem aB.drewN (h:aB W0 W L) (n:Nat):aB W0 (W.drewN n) L:=h.step (aF5 (Below.refl _ _) n)
theorem aB.drew (h:aB W0 W L):aB W0 W.drew L:=h.step ((Below.refl _ _).drew)
theorem aB.fact (h:aB W0 W (T::L)):∃ F,T.is W F:=by obtain ⟨_,A,h1,_⟩:=h; exact ⟨A,h1⟩
theorem aB.more (h:aB W0 W L) (hb:Below W.heap.size W W') {A:Nat→Prop} (hT:T.is W' A) (hA:∀ b,A b→W.heap.size≤b):aB W0 W' (T::L):=by
 refine ⟨(h.step hb).1,A,hT,fun b hb2=>⟨Nat.le_trans h.1.size (hA b hb2),trivial⟩,?_⟩;exact (h.2.old.mono (fun b hb2=>⟨trivial,fun ha=>by have:=hA b ha; omega⟩)).keep (fun b hl _=>hb.block b hl)
theorem aB.turn {T':aA} (h:aB W0 W (T::L)) {A:Nat→Prop} (hos:W'.os=W.os∧W'.tape=W.tape∧W'.output=W.output) (hs:W.heap.size≤W'.heap.size) (hT:∀ F,T.is W F→T'.is W' (fun b=>A b)∧(∀ b,A b→F b∨W.heap.size≤b)∧∀ b,b < W.heap.size→¬ F b→W'.heap[b]?=W.heap[b]?):aB W0 W' (T'::L):=by
 obtain ⟨hb,F,h1,h2,h3⟩:=h;obtain ⟨k1,k2,k3⟩:=hT F h1;refine ⟨⟨hos.1.trans hb.os,hos.2.1.trans hb.tape,hos.2.2.trans hb.output,Nat.le_trans hb.size hs,fun b hbl=>?_⟩,A,k1,fun b hA=>⟨(k2 b hA).elim (fun hf=>(h2 b hf).1) (fun hg=>Nat.le_trans hb.size hg),trivial⟩,?_⟩
 ·exact (k3 b (Nat.lt_of_lt_of_le hbl hb.size) (fun hf=>by have:=(h2 b hf).1; omega)).trans (hb.block b hbl)
 refine (h3.old.keep (fun b hl hf=>k3 b hl hf.1.2)).mono (fun b hf=>⟨trivial,fun hA=>(k2 b hA).elim hf.1.2 (fun hg=>?_)⟩);have:=hf.2; omega
end
def Blk (b:Nat) (t:TypeId) (C:Array Value):aA where
 is W F:=At W b t C∧∀ x,F x↔x=b
 lt W F h x hx:=by rw [(h.2 x).1 hx]; exact h.1.lt
 keep W W' F h e:=⟨(e b ((h.2 b).2 rfl)).trans h.1,h.2⟩
def Row (e:TypeId) (size:Nat) (v:Value) (n:Nat) (xs:List Value):aA where
 is W F:=W.ownsRow 0 e size v n xs∧∀ x,F x↔v.ownBlock=some x
 lt W F h x hx:=(h.1.lt x ((h.2 x).1 hx)).2
 keep W W' F h eq:=by
  refine ⟨⟨h.1.1,?_⟩,h.2⟩;rcases h.1.2 with k | ⟨g,cap,cur,k,hb,hg,hr⟩
  ·exact .inl k
  exact .inr ⟨g,cap,cur,k,hb,(eq g ((h.2 g).2 (by rw [k]; rfl))).trans hg,hr⟩
def Fact (p:Prop):aA where
 is W F:=p∧∀ x,¬ F x
 lt W F h x hx:=(h.2 x hx).elim
 keep W W' F h e:=h
def lD {α:Type} (f:α→aA):aA where
 is W F:=∃ a,(f a).is W F
 lt W F h x hx:=by obtain ⟨a,h⟩:=h; exact (f a).lt W F h x hx
 keep W W' F h e:=by obtain ⟨a,h⟩:=h; exact ⟨a,(f a).keep W W' F h e⟩
def aA.both (T U:aA):aA where
 is W F:=∃ A C,T.is W A∧U.is W C∧(∀ x,A x→¬ C x)∧∀ x,F x↔A x∨C x
 lt W F h x hx:=by
  obtain ⟨A,C,h1,h2,h3,h4⟩:=h;exact ((h4 x).1 hx).elim (T.lt W A h1 x) (U.lt W C h2 x)
 keep W W' F h e:=by
  obtain ⟨A,C,h1,h2,h3,h4⟩:=h;exact ⟨A,C,T.keep W W' A h1 (fun b hb=>e b ((h4 b).2 (.inl hb))),U.keep W W' C h2 (fun b hb=>e b ((h4 b).2 (.inr hb))),h3,h4⟩
def aA.all:List aA→aA
 | []=>Fact True
 | T::L=>T.both (aA.all L)
section
variable {W0 W W':World} {L R:List aA} {T U:aA}
theorem aB.aP {α:Type} {f:α→aA} (h:aB W0 W (lD f::L)):∃ a,aB W0 W (f a::L):=by
 obtain ⟨hb,A,⟨a,h1⟩,h2⟩:=h;exact ⟨a,hb,A,h1,h2⟩
theorem aB.bR {α:Type} {f:α→aA} (a:α) (h:aB W0 W (f a::L)):aB W0 W (lD f::L):=by
 obtain ⟨hb,A,h1,h2⟩:=h;exact ⟨hb,A,⟨a,h1⟩,h2⟩
theorem aB.aN {p:Prop} (h:aB W0 W (Fact p::L)):p∧aB W0 W L:=by
 obtain ⟨A,h1⟩:=h.fact;exact ⟨h1.1,h.tail⟩
theorem aB.bB {p:Prop} (hp:p) (h:aB W0 W L):aB W0 W (Fact p::L) :=
 ⟨h.1,fun _=>False,⟨hp,fun _ h=>h⟩,fun b hb=>hb.elim,h.2.mono (fun b _=>⟨trivial,fun h=>h⟩)⟩
theorem aB.aS (h:aB W0 W (T.both U::L)):aB W0 W (T::U::L):=by
 obtain ⟨hb,F,⟨A,C,h1,h2,h3,h4⟩,h5,h6⟩:=h;refine ⟨hb,A,h1,fun b h=>h5 b ((h4 b).2 (.inl h)),C,h2,fun b h=>⟨(h5 b ((h4 b).2 (.inr h))).1,trivial,fun ha=>h3 b ha h⟩,h6.mono (fun b h=>⟨⟨trivial,fun ha=>h.2 ((h4 b).2 (.inl ha))⟩,fun hc=>h.2 ((h4 b).2 (.inr hc))⟩)⟩
theorem aB.cB (h:aB W0 W (T::U::L)):aB W0 W (T.both U::L):=by
 obtain ⟨hb,A,h1,h2,C,h3,h4,h5⟩:=h;refine ⟨hb,fun x=>A x∨C x,⟨A,C,h1,h3,fun x ha hc=>(h4 x hc).2.2 ha,fun x=>Iff.rfl⟩,fun b h=>h.elim (h2 b) (fun hc=>⟨(h4 b hc).1,trivial⟩),h5.mono (fun b h=>⟨trivial,fun hx=>hx.elim h.1.2 h.2⟩)⟩
theorem aB.hU {M:List aA} (h:aB W0 W (aA.all M::L)):aB W0 W (M++L):=by
 induction M generalizing L with
 | nil=>exact h.aN.2
 | cons T M ih =>
  have h1:aB W0 W (aA.all M::T::L):=h.aS.p1;have h2:=ih h1;exact h2.perm List.perm_middle
theorem aB.eX {M:List aA} (h:aB W0 W (M++L)):aB W0 W (aA.all M::L):=by
 induction M generalizing L with
 | nil=>exact h.bB trivial
 | cons T M ih =>
  have h1:aB W0 W (M++T::L):=h.perm List.perm_middle.symm;exact (ih h1).p1.cB
theorem aB.new (h:aB W0 W L) (t:TypeId) (C:Array Value):aB W0 (W.alloc (.cells C t)) (Blk W.heap.size t C::L) :=
 h.more ((Below.refl _ _).alloc (Nat.le_refl _) _) (A:=fun x=>x=W.heap.size) ⟨At.new W t C,fun x=>Iff.rfl⟩ (fun b e=>by rw [e]; exact Nat.le_refl _)
theorem aB.blk {b:Nat} {t:TypeId} {C:Array Value} (h:aB W0 W (Blk b t C::L)):At W b t C:=by obtain ⟨A,h1⟩:=h.fact; exact h1.1
theorem aB.row {e:TypeId} {size n:Nat} {v:Value} {xs:List Value} (h:aB W0 W (Row e size v n xs::L)):W.ownsRow 0 e size v n xs:=by obtain ⟨A,h1⟩:=h.fact; exact h1.1
theorem aB.set {b o:Nat} {t:TypeId} {C:Array Value} (v:Value) (h:aB W0 W (Blk b t C::L)):aB W0 (W.setCell ⟨b,o,none⟩ v) (Blk b t (C.setIfInBounds o v)::L):=by
 refine h.turn (A:=fun x=>x=b) ⟨rfl,rfl,rfl⟩ (by simp [World.setCell]) (fun F hF=>⟨⟨hF.1.set,fun x=>Iff.rfl⟩,fun x hx=>.inl ((hF.2 x).2 hx),fun x hx hn=>?_⟩);exact Below.heap_setCell W ⟨b,o,none⟩ v x (fun e=>hn ((hF.2 x).2 e))
theorem aB.append {e:TypeId} {size n m:Nat} {v v':Value} {xs ys:List Value} (h:aB W0 W (Row e size v n xs::L)) (hown:W'.ownsRow 0 e size v' m ys) (hg:W.grownBy W' v.ownBlock) (hat:∀ b,v'.ownBlock=some b→v.ownBlock=some b∨W.heap.size≤b):aB W0 W' (Row e size v' m ys::L):=by
 refine h.turn (A:=fun x=>v'.ownBlock=some x) ⟨hg.os,hg.tape,hg.output⟩ hg.size (fun F hF=>⟨⟨hown,fun x=>Iff.rfl⟩,fun x hx=>(hat x hx).imp (fun h=>(hF.2 x).2 h) id,fun x hx hn=>hg.block x hx (fun e=>hn ((hF.2 x).2 e.symm))⟩)
end
def Fn (P:Program) (f:FuncId) (args:Array Value) (L:List aA) (post:Ending→(List aA→Prop)→Prop):Prop :=
 ∀ (W0 W:World) (R:List aA),aB W0 W (L++R)→Calls P f args W fun e w'=>post e (fun M=>aB W0 w' (M++R))
abbrev tD (P:Program) (f:FuncId) (args:Array Value) (L:List aA) (v:Value) (M:List aA):Prop :=
 Fn P f args L (fun e k=>e=.returned v∧k M)
end
section
abbrev Kn:=List (Nat × Value)
def lk:Kn→Nat→Option Value
 | [],_=>none
 | (k,v)::r,n=>bif Nat.beq k n then some v else lk r n
def ev (kn:Kn):Operand→Option Value
 | .tmp t=>lk kn t
 | .const v=>some v
 | .global g=>some (.pointer (some ⟨g,0,none⟩))
 | .func f=>some (.func (.func f) #[] #[])
def evs (kn:Kn):List Operand→Option (List Value)
 | []=>some []
 | x::r=>match ev kn x,evs kn r with
  | some v,some vs=>some (v::vs)
  | _,_=>none
structure Has (N:Nat) (ds:List Deferred) (kn:Kn) (a:Act):Prop where
 size:a.tmps.size=N
 defers:a.defers=ds
 known:∀ d v,lk kn d=some v→a.tmps[d]?=some v
def Ev (kn:Kn) (ρ:Operand→Value):Prop:=∀ x v,ev kn x=some v→ρ x=v
section
variable {N:Nat} {ds:List Deferred} {kn:Kn} {a:Act}
theorem Has.slot (h:Has N ds kn a) {t:Nat} {v:Value} (hx:lk kn t=some v):a.tmps[t]?=some v:=h.known t v hx
theorem Has.ev (h:Has N ds kn a):Ev kn a.eval:=by
 intro x v hx;cases x with
 | tmp t=>have:=h.known t v hx; simp [Act.eval,Array.getD_eq_getD_getElem?,this]
 | const u=>simpa [Proofs.YtadggjnohohedaaGreatDoor.ev,Act.eval] using hx
 | global g=>simpa [Proofs.YtadggjnohohedaaGreatDoor.ev,Act.eval] using hx
 | func f=>simpa [Proofs.YtadggjnohohedaaGreatDoor.ev,Act.eval] using hx
theorem Has.put (h:Has N ds kn a) (d:Nat) (v:Value) (hd:Nat.blt d N=true):Has N ds ((d,v)::kn) (a.put (some d) v):=by
 have hd':d < N:=by have:=hd; simp [Nat.blt] at this; omega
 refine ⟨by simp [Act.put,h.size],h.defers,?_⟩;intro e u hu;simp only [Act.put]
 by_cases hde:d=e
 ·subst hde;simp only [lk,Nat.beq_refl,cond_true,Option.some.injEq] at hu;subst hu;simp [h.size,hd']
 have hb:Nat.beq d e=false:=by
  cases h:Nat.beq d e with
  | false=>rfl
  | true=>exact absurd (Nat.eq_of_beq_eq_true h) hde
 simp only [lk,hb,cond_false] at hu;rw [Array.getElem?_setIfInBounds_ne hde];exact h.known e u hu
theorem Has.aOq (h:Has N ds kn a) (v:Value):Has N ds kn (a.put none v):=h
theorem Has.sub (h:Has N ds kn a) {cZ:Kn} (hs:∀ p∈cZ,lk kn p.1=some p.2):Has N ds cZ a:=by
 refine ⟨h.size,h.defers,fun d v hd=>h.known d v ?_⟩;induction cZ with
 | nil=>simp [lk] at hd
 | cons p r ih =>
  obtain ⟨k,u⟩:=p;simp only [lk] at hd;cases hb:Nat.beq k d with
  | true =>
   rw [hb] at hd; simp only [cond_true,Option.some.injEq] at hd;have hk:k=d:=Nat.eq_of_beq_eq_true hb;subst hk; subst hd;exact hs (k,u) (List.mem_cons_self ..)
  | false=>rw [hb] at hd; exact ih (fun p hp=>hs p (List.mem_cons_of_mem _ hp)) hd
end
inductive Pick:List aA→aA→List aA→Prop
 | here {T L}:Pick (T::L) T L
 | there {T U L R}:Pick L T R→Pick (U::L) T (U::R)
theorem Pick.perm {L R:List aA} {T:aA} (h:Pick L T R):L.Perm (T::R):=by
 induction h with
 | here=>exact List.Perm.refl _
 | there _ ih=>exact (List.Perm.cons _ ih).trans (List.Perm.swap _ _ _)
inductive eC:List aA→List aA→List aA→Prop
 | nil {L}:eC L [] L
 | cons {L L' T M R}:Pick L T L'→eC L' M R→eC L (T::M) R
theorem eC.perm {L M R:List aA} (h:eC L M R):L.Perm (M++R):=by
 induction h with
 | nil=>exact List.Perm.refl _
 | cons h1 _ ih=>exact h1.perm.trans (List.Perm.cons _ ih)
inductive Swap:List aA→aA→aA→List aA→Prop
 | here {T T' L}:Swap (T::L) T T' (T'::L)
 | there {T T' U L R}:Swap L T T' R→Swap (U::L) T T' (U::R)
theorem Swap.perm {L L':List aA} {T T':aA} (h:Swap L T T' L'):∃ R,L.Perm (T::R)∧(T'::R).Perm L':=by
 induction h with
 | here=>exact ⟨_,List.Perm.refl _,List.Perm.refl _⟩
 | there _ ih =>
  obtain ⟨R,h1,h2⟩:=ih;exact ⟨_,(List.Perm.cons _ h1).trans (List.Perm.swap _ _ _),(List.Perm.swap _ _ _).trans (List.Perm.cons _ h2)⟩
inductive Part:List aA→List aA→Prop
 | refl {L}:Part L L
 | drop {T L M}:Part L M→Part (T::L) M
 | take {L L' T M}:Pick L T L'→Part L' M→Part L (T::M)
section
variable {W0 W:World} {L M R:List aA} {T T':aA}
theorem aB.pick (h:aB W0 W L) (p:Pick L T R):aB W0 W (T::R):=h.perm p.perm
theorem aB.picks (h:aB W0 W L) (p:eC L M R):aB W0 W (M++R):=h.perm p.perm
theorem aB.part (h:aB W0 W L) (p:Part L M):aB W0 W M:=by
 induction p generalizing W with
 | refl=>exact h
 | drop _ ih=>exact ih h.tail
 | take hp _ ih =>
  obtain ⟨hb,A,h1,h2,h3⟩:=h.pick hp;refine ⟨hb,A,h1,h2,?_⟩;exact qX.part h3 ‹_›
 where
 qX.part {B:Nat} {W:World} {L M:List aA} {F:Nat→Prop} (h:qX B W L F) (p:Part L M):qX B W M F:=by
  induction p generalizing F with
  | refl=>exact h
  | drop _ ih=>exact ih h.tail
  | take hp _ ih =>
   obtain ⟨A,h1,h2,h3⟩:=h.perm hp.perm;exact ⟨A,h1,h2,ih h3⟩
end
end
section
def nP (P:Program) (ops:Array Oper) (Q:Exit→Act→World→Prop):List Oper→Act→World→Prop
 | [],a,w=>Q .normal a w
 | o::r,a,w=>if Region.wanted o (yielded ops a.tmps) then o.wp P a w (nP P ops Q r) Q∨(o.asks P a w∧LetsOut Q) else nP P ops Q r (a.put o.dst undef) w
theorem kO {P:Program} {ops:Array Oper} {Q:Exit→Act→World→Prop}:∀ (r:List Oper) (k:Nat) (a:Act) (w:World),(∀ j,r[j]?=ops[k + j]?) →
  nP P ops Q r a w→wpOps P ops Q (List.range' k r.length) a w
 | [],k,a,w,hr,h=>h
 | o::r,k,a,w,hr,h=>by
  have h0:ops[k]?=some o:=by have:=hr 0; simpa using this.symm
  simp only [List.length_cons,List.range'_succ,wpOps,h0];have hr':∀ j,r[j]?=ops[k + 1 + j]?:=fun j=>by have:=hr (j + 1); rw [show k + 1 + j=k + (j + 1) by omega]; simpa using this
  simp only [nP] at h;split
  ·rename_i hw;rw [if_pos hw] at h;rcases h with h | h
   ·exact .inl (Oper.wp_mono (fun a w hh=>kO r (k + 1) a w hr' hh) h)
   exact .inr h
  rename_i hw;rw [if_neg hw] at h;exact kO r (k + 1) _ _ hr' h
theorem tE {P:Program} {id:Nat} {ops:Array Oper} {Q:Exit→Act→World→Prop} {a:Act} {w:World} (h:nP P ops Q ops.toList a w):(Code.region id ops false).wp P Q a w:=by
 refine wp_region ?_;have:=kO (P:=P) (Q:=Q) ops.toList 0 a w (fun j=>by simp) h;rw [List.range_eq_range'];simpa using this
section
variable (P:Program) (W0:World) (N:Nat) (ds:List Deferred)
def GL (ops:Array Oper) (Q:Exit→Act→World→Prop) (l:List Oper) (kn:Kn) (L:List aA):Prop :=
 ∀ a w,Has N ds kn a→aB W0 w L→nP P ops Q l a w
def GC (c:Code) (Q:Exit→Act→World→Prop) (kn:Kn) (L:List aA):Prop :=
 ∀ a w,Has N ds kn a→aB W0 w L→c.wp P Q a w
def GE (e:Exit) (Q:Exit→Act→World→Prop) (kn:Kn) (L:List aA):Prop :=
 ∀ a w,Has N ds kn a→aB W0 w L→Q e a w
def EX (kn:Kn) (L:List aA) (o:Oper) (v:Value):Prop :=
 ∀ ρ w,Ev kn ρ→aB W0 w L→(execOp ρ o).run P w=.ok (.value v) w
def EF {α:Type} (kn:Kn) (L:List aA) (o:Oper) (v:α→Value) (L':α→List aA) (C:α→Prop):Prop :=
 ∀ ρ w,Ev kn ρ→aB W0 w L→∃ x w',C x∧(execOp ρ o).run P w=.ok (.value (v x)) w'∧aB W0 w' (L' x)
def EU (kn:Kn) (L:List aA) (o:Oper) (L':List aA):Prop :=
 ∀ ρ w,Ev kn ρ→aB W0 w L→∃ w',(execOp ρ o).run P w=.ok .skip w'∧aB W0 w' L'
end
section
variable {P:Program} {W0:World} {N:Nat} {ds:List Deferred} {ops:Array Oper} {Q:Exit→Act→World→Prop} {kn cZ:Kn} {L L':List aA} {r:List Oper}
theorem GE.pass {c:Code} {Q':Exit→Act→World→Prop} {e:Exit} (h:GE W0 N ds e Q' kn L) (he:∀ a w,Q' e a w→Q e a w):GE W0 N ds e Q kn L:=fun a w ha hs=>he a w (h a w ha hs)
theorem GE.seq {y:Code} (h:GC P W0 N ds y Q kn L):GE W0 N ds .normal (Exit.then (y.wp P Q) Q) kn L:=h
theorem GE.iH {next:Act→World→Prop} (h:GE W0 N ds .ret Q kn L):GE W0 N ds .ret (Exit.then next Q) kn L:=h
theorem GE.bE {next:Act→World→Prop} {i:Nat} (h:GE W0 N ds (.exit i) Q kn L):GE W0 N ds (.exit i) (Exit.then next Q) kn L:=h
theorem GE.dY {next:Act→World→Prop} {ch:List PanicEntry} (h:GE W0 N ds (.panic ch) Q kn L):GE W0 N ds (.panic ch) (Exit.then next Q) kn L:=h
theorem GE.block {i:Nat} (h:GE W0 N ds .normal Q kn L):GE W0 N ds .normal (Exit.inBlock i Q) kn L:=h
theorem GE.nG {i:Nat} (h:GE W0 N ds .ret Q kn L):GE W0 N ds .ret (Exit.inBlock i Q) kn L:=h
theorem GE.GP {i:Nat} {ch:List PanicEntry} (h:GE W0 N ds (.panic ch) Q kn L):GE W0 N ds (.panic ch) (Exit.inBlock i Q) kn L:=h
theorem GE.dT {i:Nat} (h:GE W0 N ds .normal Q kn L):GE W0 N ds (.exit i) (Exit.inBlock i Q) kn L:=by
 intro a w ha hs; simp only [Exit.inBlock,if_true]; exact h a w ha hs
theorem GE.KB {i j:Nat} (hn:Nat.beq j i=false) (h:GE W0 N ds (.exit j) Q kn L):GE W0 N ds (.exit j) (Exit.inBlock i Q) kn L:=by
 have hne:j≠i:=fun e=>by subst e; simp at hn
 intro a w ha hs; simp only [Exit.inBlock,if_neg hne]; exact h a w ha hs
theorem GC.seq {x y:Code} (h:GC P W0 N ds x (Exit.then (y.wp P Q) Q) kn L):GC P W0 N ds (.seq x y) Q kn L:=fun a w ha hs=>wp_seq (h a w ha hs)
theorem GC.skip (h:GE W0 N ds .normal Q kn L):GC P W0 N ds .skip Q kn L:=fun a w ha hs=>wp_skip (h a w ha hs)
theorem GC.ret (h:GE W0 N ds .ret Q kn L):GC P W0 N ds .ret Q kn L:=fun a w ha hs=>wp_ret (h a w ha hs)
theorem GC.exit {i:Nat} (h:GE W0 N ds (.exit i) Q kn L):GC P W0 N ds (.exit i) Q kn L:=fun a w ha hs=>wp_exit (h a w ha hs)
theorem GC.block {i:Nat} {c:Code} (h:GC P W0 N ds c (Exit.inBlock i Q) kn L):GC P W0 N ds (.block i c) Q kn L:=fun a w ha hs=>wp_block (h a w ha hs)
theorem GC.cond {c:Nat} {x y:Code} {t:Bool} (hc:lk kn c=some (.bool t)) (ht:t=true→GC P W0 N ds x Q kn L) (hf:t=false→GC P W0 N ds y Q kn L):GC P W0 N ds (.cond (.tmp c) x y) Q kn L:=by
 intro a w ha hs;have he:a.eval (.tmp c)=.bool t:=ha.ev _ _ hc;cases t with
 | true=>exact wp_cond_true he (ht rfl a w ha hs)
 | false=>exact wp_cond_false he (hf rfl a w ha hs)
theorem GC.aQ {c:Nat} {x y:Code} {t:Bool} (hc:lk kn c=some (.bool t)) (h:t=true) (ht:GC P W0 N ds x Q kn L):GC P W0 N ds (.cond (.tmp c) x y) Q kn L :=
 GC.cond hc (fun _=>ht) (fun e=>by rw [h] at e; cases e)
theorem GC.bH {c:Nat} {x y:Code} {t:Bool} (hc:lk kn c=some (.bool t)) (h:t=false) (hf:GC P W0 N ds y Q kn L):GC P W0 N ds (.cond (.tmp c) x y) Q kn L :=
 GC.cond hc (fun e=>by rw [h] at e; cases e) (fun _=>hf)
theorem GC.ask {c:Nat} {x y:Code} {p:Prop} [Decidable p] (hc:lk kn c=some (.bool (decide p))) (ht:p→GC P W0 N ds x Q kn L) (hf:¬ p→GC P W0 N ds y Q kn L):GC P W0 N ds (.cond (.tmp c) x y) Q kn L :=
 GC.cond hc (fun e=>ht (of_decide_eq_true e)) (fun e=>hf (of_decide_eq_false e))
theorem GC.region {id:Nat} (h:GL P W0 N ds ops Q ops.toList kn L):GC P W0 N ds (.region id ops false) Q kn L:=fun a w ha hs=>tE (h a w ha hs)
theorem GC.less {c:Code} (h:GC P W0 N ds c Q cZ L') (hk:∀ p∈cZ,lk kn p.1=some p.2) (hL:Part L L'):GC P W0 N ds c Q kn L :=
 fun a w ha hs=>h a w (ha.sub hk) (hs.part hL)
theorem GE.less {e:Exit} (h:GE W0 N ds e Q cZ L') (hk:∀ p∈cZ,lk kn p.1=some p.2) (hL:Part L L'):GE W0 N ds e Q kn L :=
 fun a w ha hs=>h a w (ha.sub hk) (hs.part hL)
theorem GL.less (h:GL P W0 N ds ops Q r cZ L') (hk:∀ p∈cZ,lk kn p.1=some p.2) (hL:Part L L'):GL P W0 N ds ops Q r kn L :=
 fun a w ha hs=>h a w (ha.sub hk) (hs.part hL)
theorem GC.turn {c:Code} (hL:∀ w,aB W0 w L→aB W0 w L') (h:GC P W0 N ds c Q kn L'):GC P W0 N ds c Q kn L:=fun a w ha hs=>h a w ha (hL w hs)
theorem GL.turn (hL:∀ w,aB W0 w L→aB W0 w L') (h:GL P W0 N ds ops Q r kn L'):GL P W0 N ds ops Q r kn L:=fun a w ha hs=>h a w ha (hL w hs)
theorem GE.turn {e:Exit} (hL:∀ w,aB W0 w L→aB W0 w L') (h:GE W0 N ds e Q kn L'):GE W0 N ds e Q kn L:=fun a w ha hs=>h a w ha (hL w hs)
theorem GC.know {c:Code} {p:Prop} (hL:∀ w,aB W0 w L→p) (h:p→GC P W0 N ds c Q kn L):GC P W0 N ds c Q kn L:=fun a w ha hs=>h (hL w hs) a w ha hs
theorem GL.know {p:Prop} (hL:∀ w,aB W0 w L→p) (h:p→GL P W0 N ds ops Q r kn L):GL P W0 N ds ops Q r kn L:=fun a w ha hs=>h (hL w hs) a w ha hs
theorem GC.loop {σ:Type} {c:Code} (k:σ→Kn) (T:σ→List aA) (m:σ→Nat) (s0:σ) (h:∀ s,GC P W0 N ds c (Exit.then (fun a w=>∃ s',m s' < m s∧Has N ds (k s') a∧aB W0 w (T s')) Q) (k s) (T s))
  (hk:∀ p∈k s0,lk kn p.1=some p.2) (hL:Part L (T s0)):GC P W0 N ds (.loop c) Q kn L:=by
 intro a w ha hs b kk cs;have key:∀ n s a w,m s=n→Has N ds (k s) a→aB W0 w (T s) →
   ∃ e a' w',Q e a' w'∧Arrives P (lone (b.at a (.code c::.inLoop c::kk)) cs w) b kk cs e a' w':=by
  intro n;induction n using Nat.strongRecOn with
  | _ n ih =>
   intro s a w hn ha hs;obtain ⟨e,a₁,w₁,hq,harr⟩:=h s a w ha hs b (.inLoop c::kk) cs;cases e with
   | normal =>
    obtain ⟨s',hlt,ha',hs'⟩:=hq;obtain ⟨e₂,a₂,w₂,hq₂,harr₂⟩:=ih (m s') (hn ▸ hlt) s' a₁ w₁ rfl ha' hs';exact ⟨e₂,a₂,w₂,hq₂,.of_steps (Steps.trans harr (.one step_inLoop)) harr₂⟩
   | exit id=>exact ⟨_,a₁,w₁,hq,.pass (x:=.inLoop c) rfl (fun _ _=>.inl (by simp)) harr⟩
   | goto l=>exact ⟨_,a₁,w₁,hq,.pass (x:=.inLoop c) rfl (fun _ _=>.inl (by simp)) harr⟩
   | ret=>exact ⟨_,a₁,w₁,hq,.pass (x:=.inLoop c) rfl (fun _ _=>.inl (by simp)) harr⟩
   | panic ch=>exact ⟨_,a₁,w₁,hq,.pass (x:=.inLoop c) rfl (fun _ _=>.inl (by simp)) harr⟩
   | outgrown=>exact ⟨_,a₁,w₁,hq,.pass (x:=.inLoop c) rfl (fun _ _=>.inl (by simp)) harr⟩
 obtain ⟨e,a',w',hq,harr⟩:=key _ s0 a w rfl (ha.sub hk) (hs.part hL);exact ⟨e,a',w',hq,.of_steps (.one step_loop) harr⟩
theorem GE.again {σ:Type} {k:σ→Kn} {T:σ→List aA} {m:σ→Nat} {s:σ} (s':σ) (hm:m s' < m s) (hk:∀ p∈k s',lk kn p.1=some p.2) (hL:Part L (T s')) :
  GE W0 N ds .normal (Exit.then (fun a w=>∃ s',m s' < m s∧Has N ds (k s') a∧aB W0 w (T s')) Q) kn L :=
 fun a w ha hs=>⟨s',hm,ha.sub hk,hs.part hL⟩
theorem aU {o:Oper} (h:o.guard=none) (y:Nat→Option Bool):Region.wanted o y=true:=by simp [Region.wanted,h]
def On (ops:Array Oper) (kn:Kn) (o:Oper):Prop:=∀ (N:Nat) (ds:List Deferred) (a:Act),Has N ds kn a→Region.wanted o (yielded ops a.tmps)=true
def Off (ops:Array Oper) (kn:Kn) (o:Oper):Prop:=∀ (N:Nat) (ds:List Deferred) (a:Act),Has N ds kn a→Region.wanted o (yielded ops a.tmps)=false
theorem On.free {o:Oper} (h:o.guard=none):On ops kn o:=fun _ _ _ _=>aU h _
theorem vC {a:Act} (ha:Has N ds kn a) {j d:Nat} {oj:Oper} {b:Bool} (hj:ops[j]?=some oj) (hd:oj.dst=some d) (hb:lk kn d=some (.bool b)):yielded ops a.tmps j=some b:=by
 simp [yielded,hj,hd,ha.slot hb]
theorem On.guard {o:Oper} {j d:Nat} {want:Bool} (h:o.guard=some (j,want)) {oj:Oper} (hj:ops[j]?=some oj) (hd:oj.dst=some d) {b:Bool} (hb:lk kn d=some (.bool b)) (e:b=want):On ops kn o:=by
 intro N ds a ha;simp [Region.wanted,h,vC ha hj hd hb,e]
theorem Off.guard {o:Oper} {j d:Nat} {want:Bool} (h:o.guard=some (j,want)) {oj:Oper} (hj:ops[j]?=some oj) (hd:oj.dst=some d) {b:Bool} (hb:lk kn d=some (.bool b)) (e:b=!want):Off ops kn o:=by
 intro N ds a ha;cases want <;> simp [Region.wanted,h,vC ha hj hd hb,e]
theorem GL.nil (h:GE W0 N ds .normal Q kn L):GL P W0 N ds ops Q [] kn L:=h
theorem GL.val {o:Oper} {v:Value} {d:Nat} (hx:EX P W0 kn L o v) (hd:o.dst=some d) (hN:Nat.blt d N=true) (hon:On ops kn o) (h:GL P W0 N ds ops Q r ((d,v)::kn) L):GL P W0 N ds ops Q (o::r) kn L:=by
 intro a w ha hs;simp only [nP,hon N ds a ha,if_true];refine .inl ?_;simp only [Oper.wp,hx a.eval w ha.ev hs,Oper.upon];rw [hd]; exact h _ _ (ha.put d v hN) hs
theorem GL.off {o:Oper} {d:Nat} (hd:o.dst=some d) (hN:Nat.blt d N=true) (hoff:Off ops kn o) (h:GL P W0 N ds ops Q r ((d,undef)::kn) L):GL P W0 N ds ops Q (o::r) kn L:=by
 intro a w ha hs;simp only [nP,hoff N ds a ha];rw [hd]; exact h _ _ (ha.put d undef hN) hs
theorem GL.nB {α:Type} {o:Oper} {v:α→Value} {T:α→List aA} {C:α→Prop} {d:Nat} (hx:EF P W0 kn L o v T C) (hd:o.dst=some d) (hN:Nat.blt d N=true) (hon:On ops kn o)
  (h:∀ x,C x→GL P W0 N ds ops Q r ((d,v x)::kn) (T x)):GL P W0 N ds ops Q (o::r) kn L:=by
 intro a w ha hs;simp only [nP,hon N ds a ha,if_true];refine .inl ?_;obtain ⟨x,w',hc,hr,hs'⟩:=hx a.eval w ha.ev hs;simp only [Oper.wp,hr,Oper.upon];rw [hd]; exact h x hc _ _ (ha.put d _ hN) hs'
theorem GL.aSi {α:Type} {o:Oper} {v:α→Value} {T:α→List aA} {C:α→Prop} (hx:EF P W0 kn L o v T C) (hd:o.dst=none) (hon:On ops kn o)
  (h:∀ x,C x→GL P W0 N ds ops Q r kn (T x)):GL P W0 N ds ops Q (o::r) kn L:=by
 intro a w ha hs;simp only [nP,hon N ds a ha,if_true];refine .inl ?_;obtain ⟨x,w',hc,hr,hs'⟩:=hx a.eval w ha.ev hs;simp only [Oper.wp,hr,Oper.upon];rw [hd]; exact h x hc _ _ ha hs'
theorem GL.do {o:Oper} {T:List aA} (hx:EU P W0 kn L o T) (hd:o.dst=none) (hon:On ops kn o) (h:GL P W0 N ds ops Q r kn T):GL P W0 N ds ops Q (o::r) kn L:=by
 intro a w ha hs;simp only [nP,hon N ds a ha,if_true];refine .inl ?_;obtain ⟨w',hr,hs'⟩:=hx a.eval w ha.ev hs;simp only [Oper.wp,hr,Oper.upon];rw [hd]; exact h _ _ ha hs'
def EC (P:Program) (kn:Kn) (o:Oper) (f:FuncId) (args:List Value):Prop :=
 ∀ ρ w,Ev kn ρ→(execOp ρ o).run P w=.ok (.enter f args.toArray) w
theorem GL.call {o:Oper} {f:FuncId} {args:List Value} {M M' R:List aA} {v:Value} {d:Nat} (hx:EC P kn o f args) (hc:tD P f args.toArray M v M') (hp:eC L M R) (hd:o.dst=some d) (hN:Nat.blt d N=true) (hon:On ops kn o)
  (h:GL P W0 N ds ops Q r ((d,v)::kn) (M'++R)):GL P W0 N ds ops Q (o::r) kn L:=by
 intro a w ha hs;simp only [nP,hon N ds a ha,if_true];refine .inl ?_;simp only [Oper.wp,hx a.eval w ha.ev,Oper.upon];refine (hc W0 w R (hs.picks hp)).mono ?_;rintro e w' ⟨rfl,h'⟩;show nP P ops Q r (a.put o.dst v) w';rw [hd]; exact h _ _ (ha.put d v hN) h'
def bQ {α:Type} (P:Program) (f:FuncId) (args:List Value) (M:List aA) (v:α→Value) (M':α→List aA) (C:α→Prop):Prop :=
 Fn P f args.toArray M (fun e k=>∃ x,C x∧e=.returned (v x)∧k (M' x))
theorem GL.aAr {α:Type} {o:Oper} {f:FuncId} {args:List Value} {M R:List aA} {v:α→Value} {M':α→List aA} {C:α→Prop} {d:Nat} (hx:EC P kn o f args) (hc:bQ P f args M v M' C) (hp:eC L M R) (hd:o.dst=some d)
  (hN:Nat.blt d N=true) (hon:On ops kn o) (h:∀ x,C x→GL P W0 N ds ops Q r ((d,v x)::kn) (M' x++R)):GL P W0 N ds ops Q (o::r) kn L:=by
 intro a w ha hs;simp only [nP,hon N ds a ha,if_true];refine .inl ?_;simp only [Oper.wp,hx a.eval w ha.ev,Oper.upon];refine (hc W0 w R (hs.picks hp)).mono ?_;rintro e w' ⟨x,hcx,rfl,h'⟩;show nP P ops Q r (a.put o.dst (v x)) w';rw [hd]; exact h x hcx _ _ (ha.put d _ hN) h'
theorem GL.aFy {α:Type} {o:Oper} {f:FuncId} {args:List Value} {M R:List aA} {v:α→Value} {M':α→List aA} {C:α→Prop} (hx:EC P kn o f args) (hc:bQ P f args M v M' C) (hp:eC L M R) (hd:o.dst=none)
  (hon:On ops kn o) (h:∀ x,C x→GL P W0 N ds ops Q r kn (M' x++R)):GL P W0 N ds ops Q (o::r) kn L:=by
 intro a w ha hs;simp only [nP,hon N ds a ha,if_true];refine .inl ?_;simp only [Oper.wp,hx a.eval w ha.ev,Oper.upon];refine (hc W0 w R (hs.picks hp)).mono ?_;rintro e w' ⟨x,hcx,rfl,h'⟩;show nP P ops Q r (a.put o.dst (v x)) w';rw [hd]; exact h x hcx _ _ ha h'
def GT {α β:Type} (P:Program) (f:FuncId) (args:List Value) (M:List aA) (v:α→Value) (M':α→List aA) (C:α→Prop) (ch:β→List PanicEntry) (M'':β→List aA) (D:β→Prop):Prop :=
 Fn P f args.toArray M (fun e k=>(∃ x,C x∧e=.returned (v x)∧k (M' x))∨∃ y,D y∧e=.panicked (ch y)∧k (M'' y))
theorem GL.aMt {α β:Type} {o:Oper} {f:FuncId} {args:List Value} {M R:List aA} {v:α→Value} {M':α→List aA} {C:α→Prop} {ch:β→List PanicEntry} {M'':β→List aA} {D:β→Prop} {d:Nat} (hx:EC P kn o f args)
  (hc:GT P f args M v M' C ch M'' D) (hp:eC L M R) (hd:o.dst=some d) (hN:Nat.blt d N=true) (hon:On ops kn o) (h:∀ x,C x→GL P W0 N ds ops Q r ((d,v x)::kn) (M' x++R))
  (h':∀ y,D y→GE W0 N ds (.panic (ch y)) Q kn (M'' y++R)):GL P W0 N ds ops Q (o::r) kn L:=by
 intro a w ha hs;simp only [nP,hon N ds a ha,if_true];refine .inl ?_;simp only [Oper.wp,hx a.eval w ha.ev,Oper.upon];refine (hc W0 w R (hs.picks hp)).mono ?_;rintro e w' (⟨x,hcx,rfl,hh⟩ | ⟨y,hdy,rfl,hh⟩)
 ·show nP P ops Q r (a.put o.dst (v x)) w';rw [hd]; exact h x hcx _ _ (ha.put d _ hN) hh
 exact h' y hdy _ _ ha hh
theorem GL.aFz {α β:Type} {o:Oper} {f:FuncId} {args:List Value} {M R:List aA} {v:α→Value} {M':α→List aA} {C:α→Prop} {ch:β→List PanicEntry} {M'':β→List aA} {D:β→Prop} (hx:EC P kn o f args)
  (hc:GT P f args M v M' C ch M'' D) (hp:eC L M R) (hd:o.dst=none) (hon:On ops kn o) (h:∀ x,C x→GL P W0 N ds ops Q r kn (M' x++R))
  (h':∀ y,D y→GE W0 N ds (.panic (ch y)) Q kn (M'' y++R)):GL P W0 N ds ops Q (o::r) kn L:=by
 intro a w ha hs;simp only [nP,hon N ds a ha,if_true];refine .inl ?_;simp only [Oper.wp,hx a.eval w ha.ev,Oper.upon];refine (hc W0 w R (hs.picks hp)).mono ?_;rintro e w' (⟨x,hcx,rfl,hh⟩ | ⟨y,hdy,rfl,hh⟩)
 ·show nP P ops Q r (a.put o.dst (v x)) w';rw [hd]; exact h x hcx _ _ ha hh
 exact h' y hdy _ _ ha hh
theorem GL.panic {o:Oper} {v:Value} (hx:∀ ρ w,Ev kn ρ→(execOp ρ o).run P w=.halt (.panic v) w) (hon:On ops kn o) (h:GE W0 N ds (.panic [{ v,recovered:=false }]) Q kn L):GL P W0 N ds ops Q (o::r) kn L:=by
 intro a w ha hs;simp only [nP,hon N ds a ha,if_true];refine .inl ?_;simp only [Oper.wp,hx a.eval w ha.ev,Oper.upon];exact h a w ha hs
theorem GL.defer {o:Oper} {dd:Deferred} (hx:∀ ρ w,Ev kn ρ→(execOp ρ o).run P w=.ok (.defer dd) w) (hd:o.dst=none) (hon:On ops kn o) (h:GL P W0 N (dd::ds) ops Q r kn L):GL P W0 N ds ops Q (o::r) kn L:=by
 intro a w ha hs;simp only [nP,hon N ds a ha,if_true];refine .inl ?_;simp only [Oper.wp,hx a.eval w ha.ev,Oper.upon];rw [hd]; exact h _ _ ⟨ha.size,by simp [Act.put,ha.defers],ha.known⟩ hs
end
end
section
def lc:List Value→Nat→Option Value
 | [],_=>none
 | v::_,0=>some v
 | _::r,n + 1=>lc r n
theorem zT:∀ (C:List Value) (n:Nat),lc C n=C[n]?
 | [],_=>rfl
 | _::_,0=>rfl
 | _::r,n + 1=>by simp [lc,zT r n]
def gV:List Value→Nat→List Value→Option (List Value)
 | C,0,[]=>some C
 | [],_,_=>none
 | _::C,0,v::vs=>match gV C 0 vs with
  | some C'=>some (v::C')
  | none=>none
 | c::C,n + 1,vs=>match gV C n vs with
  | some C'=>some (c::C')
  | none=>none
theorem mV:∀ (C:List Value) (n:Nat) (vs C':List Value),gV C n vs=some C'→n + vs.length≤C.length∧C'=C.take n++vs++C.drop (n + vs.length)
 | C,0,[],C',h=>by simp only [gV,Option.some.injEq] at h; subst h; simp
 | [],n + 1,vs,C',h=>by simp [gV] at h
 | [],0,v::vs,C',h=>by simp [gV] at h
 | c::C,0,v::vs,C',h=>by
  simp only [gV] at h;cases hp:gV C 0 vs with
  | none=>rw [hp] at h; simp at h
  | some D =>
   rw [hp] at h; simp only [Option.some.injEq] at h; subst h;obtain ⟨h1,h2⟩:=mV C 0 vs D hp;refine ⟨by simp at h1 ⊢; omega,?_⟩;rw [h2]; simp
 | c::C,n + 1,vs,C',h=>by
  simp only [gV] at h;cases hp:gV C n vs with
  | none=>rw [hp] at h; simp at h
  | some D =>
   rw [hp] at h; simp only [Option.some.injEq] at h; subst h;obtain ⟨h1,h2⟩:=mV C n vs D hp;refine ⟨by simp at h1 ⊢; omega,?_⟩;rw [h2,show n + 1 + vs.length=(n + vs.length) + 1 by omega]; simp
def lN:List Value→Nat→Nat→Option (List Value)
 | _,0,0=>some []
 | [],_,_=>none
 | v::C,0,n + 1=>match lN C 0 n with
  | some r=>some (v::r)
  | none=>none
 | _::C,o + 1,n=>lN C o n
theorem sW:∀ (C:List Value) (o n:Nat) (r:List Value),lN C o n=some r→r.length=n∧∀ j,j < n→C[o + j]?=r[j]?
 | C,0,0,r,h=>by
  have:r=[]:=by cases C <;> (simp only [lN,Option.some.injEq] at h; exact h.symm)
  subst this; exact ⟨rfl,fun j hj=>by omega⟩
 | [],o + 1,n,r,h=>by simp [lN] at h
 | [],0,n + 1,r,h=>by simp [lN] at h
 | v::C,0,n + 1,r,h=>by
  simp only [lN] at h;cases hp:lN C 0 n with
  | none=>rw [hp] at h; simp at h
  | some D =>
   rw [hp] at h; simp only [Option.some.injEq] at h; subst h;obtain ⟨h1,h2⟩:=sW C 0 n D hp;refine ⟨by simp [h1],fun j hj=>?_⟩;cases j with
   | zero=>simp
   | succ j=>have:=h2 j (by omega); simp at this ⊢; exact this
 | v::C,o + 1,n,r,h=>by
  simp only [lN] at h;obtain ⟨h1,h2⟩:=sW C o n r h;exact ⟨h1,fun j hj=>by rw [show o + 1 + j=(o + j) + 1 by omega]; simpa using h2 j hj⟩
@[irreducible] def Bk (b:Nat) (t:TypeId) (C:List Value):aA:=Blk b t C.toArray
def ptr (b:Nat):Value:=.pointer (some ⟨b,0,none⟩)
section
variable {P:Program} {W0 W w:World} {kn:Kn} {L L' R M:List aA} {b o:Nat} {t:TypeId} {C:List Value}
theorem aB.bk (h:aB W0 W L) (p:Pick L (Bk b t C) R):At W b t C.toArray:=by
 have:=h.pick p;unfold Bk at this;exact this.blk
theorem aB.wD (h:aB W0 W L) (t:TypeId) (C:List Value):aB W0 (W.alloc (.cells C.toArray t)) (Bk W.heap.size t C::L):=by unfold Bk; exact h.new t C.toArray
theorem aB.swap {T T':aA} (h:aB W0 W L) (p:Swap L T T' L') (k:∀ R,aB W0 W (T::R)→aB W0 w (T'::R)):aB W0 w L':=by
 obtain ⟨R,h1,h2⟩:=p.perm;exact (k R (h.perm h1)).perm h2
theorem EX.move {d g x ty ps af v} (hx:ev kn x=some v):EX P W0 kn L ⟨d,.move x,ty,ps,af,g⟩ v:=fun ρ w he hs=>by simp [execOp,he x v hx]
theorem EX.assign {d g x ty ps af v} (hx:ev kn x=some v):EX P W0 kn L ⟨d,.assign x,ty,ps,af,g⟩ v:=fun ρ w he hs=>by simp [execOp,he x v hx]
theorem EX.vX {d g c x y ty ps af v b} (hc:ev kn c=some (.bool b)) (hb:b=true) (hx:ev kn x=some v):EX P W0 kn L ⟨d,.pick c x y,ty,ps,af,g⟩ v:=fun ρ w he hs=>by
 simp [execOp,he x v hx,he c _ hc,hb,asBool]
theorem EX.lG {d g c x y ty ps af v b} (hc:ev kn c=some (.bool b)) (hb:b=false) (hx:ev kn y=some v):EX P W0 kn L ⟨d,.pick c x y,ty,ps,af,g⟩ v:=fun ρ w he hs=>by
 simp [execOp,he y v hx,he c _ hc,hb,asBool]
theorem EX.extract {d g x i ty ps af v vs} (hx:ev kn x=some (.tuple vs)) (hv:lc vs.toList i=some v):EX P W0 kn L ⟨d,.extract x i,ty,ps,af,g⟩ v:=fun ρ w he hs=>by
 have:vs[i]?=some v:=by rw [zT] at hv; simpa using hv
 simp [execOp,he x _ hx,Instr.extract,this]
theorem EX.nilCheck {d g x ty ps af a} (hx:ev kn x=some (.pointer (some a))):EX P W0 kn L ⟨d,.nilCheck x,ty,ps,af,g⟩ (.pointer (some a)):=fun ρ w he hs=>by simp [execOp,he x _ hx]
theorem EX.not {d g x T ty ps af b} (hx:ev kn x=some (.bool b)):EX P W0 kn L ⟨d,.unOp .not T x,ty,ps,af,g⟩ (.bool (!b)):=fun ρ w he hs=>by simp [execOp,he x _ hx,Op.unary]
def FA (P:Program) (s i off:Nat):Prop:=∀ a w,(Instr.fieldAt s (.pointer (some a)) i).run P w=.ok (.pointer (some (a.add off))) w
theorem FA.of {s i n ft off:Nat} {fs:Array Field} (hu:P.underlying s=some (.struct fs)) (hf:(fs[i]?).map (fun f=>(f.type,f.offset))=some (ft,off)) (hs:(P.info? ft).map (·.size)=some (n + 1)):FA P s i off:=by
 intro a w;obtain ⟨f,hf1,hf2,hf3⟩:∃ f,fs[i]?=some f∧f.type=ft∧f.offset=off:=by
  cases h:fs[i]? with
  | none=>simp [h] at hf
  | some f=>rw [h] at hf; simp at hf; exact ⟨f,rfl,hf⟩
 subst hf2; subst hf3;obtain ⟨inf,hi,hn⟩:∃ inf,P.info? f.type=some inf∧inf.size=n + 1:=by
  cases h:P.info? f.type with
  | none=>simp [h] at hs
  | some i=>rw [h] at hs; exact ⟨i,rfl,by simpa using hs⟩
 simp [Instr.fieldAt,underlying,hu,hf1,Instr.sureAddr,fieldPlace,sizeOf,typeInfo,hi,hn]
theorem dI (b o n:Nat):(⟨b,o,none⟩:Addr).add n=⟨b,o + n,none⟩:=by unfold Addr.add; split <;> simp_all
theorem EX.fieldAddr {d g s x i ty ps af off} (hx:ev kn x=some (.pointer (some ⟨b,o,none⟩))) (hf:FA P s i off):EX P W0 kn L ⟨d,.fieldAddr s x i,ty,ps,af,g⟩ (.pointer (some ⟨b,o + off,none⟩)):=fun ρ w he hs=>by
 simp only [execOp,he x _ hx,Sem.run_bind,hf ⟨b,o,none⟩ w,Result.andThen_ok,dI]; rfl
def One (P:Program) (t:TypeId):Prop:=∀ w,(isAgg t).run P w=.ok false w
def Many (P:Program) (t:TypeId) (n:Nat):Prop:=∀ w,(isAgg t).run P w=.ok true w∧(sizeOf t).run P w=.ok n w
theorem EX.load {d g t' x ty ps af v} (hx:ev kn x=some (.pointer (some ⟨b,o,none⟩))) (p:Pick L (Bk b t C) R) (hc:lc C o=some v) (h1:One P t'):EX P W0 kn L ⟨d,.load t' x,ty,ps,af,g⟩ v:=fun ρ w he hs=>by
 have hrd:w.cell? ⟨b,o,none⟩=some v:=by rw [(hs.bk p).rd,← hc,zT]; simp
 simp only [execOp,he x _ hx,Sem.run_bind,Instr.loadAt,Instr.sureAddr,loadVar,h1 w,Result.andThen_ok,Sem.run_pure,Bool.false_eq_true,if_false,run_load,hrd]
theorem gL {a:Addr} {cs:List Value} (h:∀ j,j < cs.length→w.cell? (a.add j)=cs[j]?):(loadCells a cs.length).run P w=.ok cs.toArray w :=
 run_loadCells_list (P:=P) w a cs (fun j v hv=>by rw [h j (by rcases Nat.lt_or_ge j cs.length with h | h; exact h; rw [List.getElem?_eq_none h] at hv; cases hv)]; exact hv)
theorem EX.aAb {d g t' x ty ps af n cs} (hx:ev kn x=some (.pointer (some ⟨b,o,none⟩))) (p:Pick L (Bk b t C) R) (h1:Many P t' n) (hc:lN C o n=some cs):EX P W0 kn L ⟨d,.load t' x,ty,ps,af,g⟩ (.agg cs.toArray):=fun ρ w he hs=>by
 obtain ⟨hl,hcs⟩:=sW _ _ _ _ hc;have hr:(loadCells ⟨b,o,none⟩ n).run P w=.ok cs.toArray w:=by
  rw [← hl]; refine gL fun j hj=>?_;rw [dI,(hs.bk p).rd];have:=hcs j (by omega);rw [← this]; simp
 simp only [execOp,he x _ hx,Sem.run_bind,Instr.loadAt,Instr.sureAddr,loadVar,(h1 w).1,(h1 w).2,Result.andThen_ok,Sem.run_pure,if_true,hr]
theorem EX.add {d g T ty' x y ty ps af k m n r} (hx:ev kn x=some (.int k m)) (hy:ev kn y=some (.int k n)) (hr:k.wrap (m + n)=r):EX P W0 kn L ⟨d,.binOp .add T x y ty',ty,ps,af,g⟩ (.int k r):=fun ρ w he hs=>by
 subst hr; simp [execOp,he x _ hx,he y _ hy,eqGuard,binOp,Op.intArith]
theorem EX.sub {d g T ty' x y ty ps af k m n r} (hx:ev kn x=some (.int k m)) (hy:ev kn y=some (.int k n)) (hr:k.wrap (m - n)=r):EX P W0 kn L ⟨d,.binOp .sub T x y ty',ty,ps,af,g⟩ (.int k r):=fun ρ w he hs=>by
 subst hr; simp [execOp,he x _ hx,he y _ hy,eqGuard,binOp,Op.intArith]
theorem EX.mul {d g T ty' x y ty ps af k m n r} (hx:ev kn x=some (.int k m)) (hy:ev kn y=some (.int k n)) (hr:k.wrap (m * n)=r):EX P W0 kn L ⟨d,.binOp .mul T x y ty',ty,ps,af,g⟩ (.int k r):=fun ρ w he hs=>by
 subst hr; simp [execOp,he x _ hx,he y _ hy,eqGuard,binOp,Op.intArith]
theorem EX.quo {d g T ty' x y ty ps af k m n r} (hx:ev kn x=some (.int k m)) (hy:ev kn y=some (.int k n)) (hn:n≠0) (hr:k.wrap (m.tdiv n)=r):EX P W0 kn L ⟨d,.binOp .quo T x y ty',ty,ps,af,g⟩ (.int k r):=fun ρ w he hs=>by
 subst hr; simp [execOp,he x _ hx,he y _ hy,eqGuard,binOp,Op.intDiv,hn]
theorem EX.rem {d g T ty' x y ty ps af k m n r} (hx:ev kn x=some (.int k m)) (hy:ev kn y=some (.int k n)) (hn:n≠0) (hr:m.tmod n=r):EX P W0 kn L ⟨d,.binOp .rem T x y ty',ty,ps,af,g⟩ (.int k r):=fun ρ w he hs=>by
 subst hr; simp [execOp,he x _ hx,he y _ hy,eqGuard,binOp,Op.intDiv,hn]
theorem EX.and {d g T ty' x y ty ps af k m n r} (hx:ev kn x=some (.int k m)) (hy:ev kn y=some (.int k n)) (hr:k.wrap ((BitVec.ofInt k.bits m &&& BitVec.ofInt k.bits n).toNat:Int)=r):EX P W0 kn L ⟨d,.binOp .and T x y ty',ty,ps,af,g⟩ (.int k r):=fun ρ w he hs=>by
 subst hr; simp [execOp,he x _ hx,he y _ hy,eqGuard,binOp,Op.intBits]
theorem EX.or {d g T ty' x y ty ps af k m n r} (hx:ev kn x=some (.int k m)) (hy:ev kn y=some (.int k n)) (hr:k.wrap ((BitVec.ofInt k.bits m ||| BitVec.ofInt k.bits n).toNat:Int)=r):EX P W0 kn L ⟨d,.binOp .or T x y ty',ty,ps,af,g⟩ (.int k r):=fun ρ w he hs=>by
 subst hr; simp [execOp,he x _ hx,he y _ hy,eqGuard,binOp,Op.intBits]
theorem EX.shl {d g T ty' x y ty ps af k k' m n r} (hx:ev kn x=some (.int k m)) (hy:ev kn y=some (.int k' n)) (hn:0≤n) (hr:k.wrap (m * 2 ^ (min n.toNat k.bits))=r):EX P W0 kn L ⟨d,.binOp .shl T x y ty',ty,ps,af,g⟩ (.int k r):=fun ρ w he hs=>by
 subst hr; simp [execOp,he x _ hx,he y _ hy,eqGuard,binOp,Op.shift,Int.not_lt.2 hn]
theorem EX.shr {d g T ty' x y ty ps af k k' m n r} (hx:ev kn x=some (.int k m)) (hy:ev kn y=some (.int k' n)) (hn:0≤n) (hr:m.fdiv (2 ^ (min n.toNat k.bits))=r):EX P W0 kn L ⟨d,.binOp .shr T x y ty',ty,ps,af,g⟩ (.int k r):=fun ρ w he hs=>by
 subst hr; simp [execOp,he x _ hx,he y _ hy,eqGuard,binOp,Op.shift,Int.not_lt.2 hn]
theorem EX.lss {d g T ty' x y ty ps af k m n} (hx:ev kn x=some (.int k m)) (hy:ev kn y=some (.int k n)):EX P W0 kn L ⟨d,.binOp .lss T x y ty',ty,ps,af,g⟩ (.bool (decide (m < n))):=fun ρ w he hs=>by
 simp [execOp,he x _ hx,he y _ hy,eqGuard,binOp,Op.intCmp]
theorem EX.leq {d g T ty' x y ty ps af k m n} (hx:ev kn x=some (.int k m)) (hy:ev kn y=some (.int k n)):EX P W0 kn L ⟨d,.binOp .leq T x y ty',ty,ps,af,g⟩ (.bool (decide (m≤n))):=fun ρ w he hs=>by
 simp [execOp,he x _ hx,he y _ hy,eqGuard,binOp,Op.intCmp]
theorem EX.gtr {d g T ty' x y ty ps af k m n} (hx:ev kn x=some (.int k m)) (hy:ev kn y=some (.int k n)):EX P W0 kn L ⟨d,.binOp .gtr T x y ty',ty,ps,af,g⟩ (.bool (decide (n < m))):=fun ρ w he hs=>by
 simp [execOp,he x _ hx,he y _ hy,eqGuard,binOp,Op.intCmp]
theorem EX.geq {d g T ty' x y ty ps af k m n} (hx:ev kn x=some (.int k m)) (hy:ev kn y=some (.int k n)):EX P W0 kn L ⟨d,.binOp .geq T x y ty',ty,ps,af,g⟩ (.bool (decide (n≤m))):=fun ρ w he hs=>by
 simp [execOp,he x _ hx,he y _ hy,eqGuard,binOp,Op.intCmp]
theorem EX.eql {d g T ty' x y ty ps af k m n} (hx:ev kn x=some (.int k m)) (hy:ev kn y=some (.int k n)):EX P W0 kn L ⟨d,.binOp .eql T x y ty',ty,ps,af,g⟩ (.bool (decide (m=n))):=fun ρ w he hs=>by
 simp [execOp,he x _ hx,he y _ hy,eqGuard,binOp,Op.intCmp]; rfl
theorem EX.neq {d g T ty' x y ty ps af k m n} (hx:ev kn x=some (.int k m)) (hy:ev kn y=some (.int k n)):EX P W0 kn L ⟨d,.binOp .neq T x y ty',ty,ps,af,g⟩ (.bool (decide (m≠n))):=fun ρ w he hs=>by
 simp only [execOp,he x _ hx,he y _ hy,eqGuard,binOp,Op.intCmp,Sem.run_bind,Sem.run_pure,Result.andThen_ok]
 by_cases e:m=n <;> simp [e]
end
end
section
def vc:Value→List Value
 | .agg cs=>cs.toList
 | v=>[v]
theorem KQ (v:Value):v.cells=(vc v).toArray:=by cases v <;> simp [vc,Value.cells]
def Y7:Value→Bool
 | .agg _=>false
 | .tuple _=>false
 | _=>true
def ones:List Value→Bool
 | []=>true
 | v::r=>Y7 v && ones r
theorem jW:∀ {l:List Value},ones l=true→∀ v∈l,v.oneCell'=true
 | [],_,v,hv=>(List.not_mem_nil hv).elim
 | u::r,h,v,hv=>by
  simp only [ones,Bool.and_eq_true] at h;rcases List.mem_cons.1 hv with rfl | hv
  ·cases v <;> first | rfl | (exact absurd h.1 (by simp [Y7]))
  exact jW h.2 v hv
def NA (kn:Kn):List (Nat × Operand)→Option (List (Nat × Value))
 | []=>some []
 | (i,x)::r=>match ev kn x,NA kn r with
  | some v,some vs=>some ((i,v)::vs)
  | _,_=>none
theorem wX {kn:Kn} {ρ:Operand→Value} (he:Ev kn ρ):∀ {l:List (Nat × Operand)} {vs:List (Nat × Value)},NA kn l=some vs→l.map (fun p=>(p.1,ρ p.2))=vs
 | [],vs,h=>by simp [NA] at h; subst h; rfl
 | (i,x)::r,vs,h=>by
  simp only [NA] at h;cases h1:ev kn x with
  | none=>simp [h1] at h
  | some v =>
   cases h2:NA kn r with
   | none=>simp [h1,h2] at h
   | some us =>
    simp only [h1,h2,Option.some.injEq] at h; subst h;simp only [List.map_cons,he x v h1,wX he h2]
theorem kE {kn:Kn} {ρ:Operand→Value} (he:Ev kn ρ):∀ {l:List Operand} {vs:List Value},evs kn l=some vs→l.map ρ=vs
 | [],vs,h=>by simp [evs] at h; subst h; rfl
 | x::r,vs,h=>by
  simp only [evs] at h;cases h1:ev kn x with
  | none=>simp [h1] at h
  | some v =>
   cases h2:evs kn r with
   | none=>simp [h1,h2] at h
   | some us =>
    simp only [h1,h2,Option.some.injEq] at h; subst h;simp only [List.map_cons,he x v h1,kE he h2]
def lp:List (Nat × Nat)→Nat→Option (Nat × Nat)
 | [],_=>none
 | p::_,0=>some p
 | _::r,n + 1=>lp r n
theorem MG:∀ (C:List (Nat × Nat)) (n:Nat),lp C n=C[n]?
 | [],_=>rfl
 | _::_,0=>rfl
 | _::r,n + 1=>by simp [lp,MG r n]
def lI (pl:Nat→Option (Nat × Nat)):List Value→List (Nat × Value)→Option (List Value)
 | C,[]=>some C
 | C,(i,v)::r=>match pl i with
  | none=>none
  | some (off,size)=>bif Nat.beq (vc v).length size then (match gV C off (vc v) with
   | some C'=>lI pl C' r
   | none=>none) else none
theorem RM (C:List Value) (off:Nat):∀ (vs:List Value) (k:Nat),off + k + vs.length≤C.length →
  (vs.zipIdx k).foldl (fun cs (p:Value × Nat)=>cs.setIfInBounds (off + p.2) p.1) C.toArray=(C.take (off + k)++vs++C.drop (off + k + vs.length)).toArray:=by
 intro vs;induction vs generalizing C with
 | nil=>intro k h; simp
 | cons v vs ih =>
  intro k h;simp only [List.length_cons] at h;simp only [List.zipIdx_cons,List.foldl_cons];rw [show (C.toArray.setIfInBounds (off + k) v)=(C.set (off + k) v).toArray by simp];rw [ih (C.set (off + k) v) (k + 1) (by simp; omega)];congr 1;rw [List.take_set,List.drop_set_of_lt (by omega)];have hk:off + (k + 1)=off + k + 1:=by omega
  rw [hk,List.take_succ_eq_append_getElem (by omega),List.set_append_right _ _ (by simp; omega)];simp [show min (off + k) C.length=off + k by omega];omega
theorem lA {pl:Nat→Option (Nat × Nat)}:∀ {ps:List (Nat × Value)} {C C':List Value},lI pl C ps=some C'→Instr.fill pl C.toArray ps=some C'.toArray
 | [],C,C',h=>by simp only [lI,Option.some.injEq] at h; subst h; rfl
 | (i,v)::r,C,C',h=>by
  simp only [lI] at h;cases hp:pl i with
  | none=>simp [hp] at h
  | some q =>
   obtain ⟨off,size⟩:=q;rw [hp] at h;simp only at h;cases hb:Nat.beq (vc v).length size with
   | false=>simp [hb] at h
   | true =>
    simp only [hb,cond_true] at h;have hsz:(vc v).length=size:=Nat.eq_of_beq_eq_true hb;cases hq:gV C off (vc v) with
    | none=>simp [hq] at h
    | some D =>
     rw [hq] at h;simp only at h;obtain ⟨h1,h2⟩:=mV _ _ _ _ hq;unfold Instr.fill;simp only [hp,KQ];rw [if_neg (by simp; omega)];have:=RM C off (vc v) 0 (by omega);simp only [Nat.add_zero] at this;rw [show ((vc v).toArray.zipIdx.foldl (fun (cs:Array Value) (x:Value × Nat)=>cs.setIfInBounds (off + x.2) x.1) C.toArray)=(C.take off++vc v++C.drop (off + (vc v).length)).toArray from by
      rw [← this]; simp]
     rw [← h2];exact lA h
section
variable {P:Program} {W0 W w:World} {kn:Kn} {L L' R M:List aA} {b o:Nat} {t:TypeId} {C C':List Value}
def BD (P:Program) (t:TypeId) (zero:List Value) (pl:Nat→Option (Nat × Nat)):Prop:=P.built t=fun ps=>Instr.fill pl zero.toArray ps
theorem EX.build {d g T ps ty pos af vs cs zero pl} (hp:NA kn ps=some vs) (hb:BD P T zero pl) (hf:lI pl zero vs=some cs):EX P W0 kn L ⟨d,.build T ps.toArray,ty,pos,af,g⟩ (.agg cs.toArray):=fun ρ w he hs=>by
 have h1:P.built T vs=some cs.toArray:=by rw [hb]; exact lA hf
 have h2:=run_build (P:=P) w T vs.toArray cs.toArray (by simpa using h1);have h3:=wX he hp;have h4:(ps.toArray.map fun (i,x)=>(i,ρ x))=vs.toArray:=by rw [← h3]; simp
 simp only [execOp,h4,Sem.run_bind,h2,Result.andThen_ok]; rfl
def BS (P:Program) (t e:TypeId) (size:Nat) (zero:List Value):Prop :=
 P.underlying t=some (.slice e)∧(P.info? e).map (fun i=>(i.size,i.zero.map (·.cells)))=some (size,some zero.toArray)∧zero.length=size∧0 < size
def zeros (zero:List Value):Nat→List Value
 | 0=>[]
 | n + 1=>zero++zeros zero n
theorem rB (zero:List Value):∀ n,(zeros zero n).length=n * zero.length
 | 0=>by simp [zeros]
 | n + 1=>by simp only [zeros,List.length_append,rB zero n]; rw [Nat.add_mul]; omega
theorem yP (zero:List Value) (hz:0 < zero.length):∀ (n i:Nat),i < n * zero.length→(zeros zero n)[i]?=zero[i % zero.length]?
 | 0,i,h=>by omega
 | n + 1,i,h=>by
  simp only [zeros];rcases Nat.lt_or_ge i zero.length with hi | hi
  ·rw [List.getElem?_append_left hi,Nat.mod_eq_of_lt hi]
  rw [List.getElem?_append_right hi,yP zero hz n (i - zero.length) (by rw [Nat.add_mul] at h; omega)];congr 1;rw [Nat.mod_eq_sub_mod hi]
theorem yR (zero:List Value) (hz:0 < zero.length) (n:Nat):((Array.range (n * zero.length)).map fun i=>(zero.toArray[i % zero.toArray.size]!))=(zeros zero n).toArray:=by
 apply Array.ext_getElem?;intro i;rcases Nat.lt_or_ge i (n * zero.length) with h | h
 ·have hm:i % zero.length < zero.length:=Nat.mod_lt _ hz;simp only [Array.getElem?_map,Array.getElem?_range,h,if_true,Option.map_some,List.size_toArray,List.getElem?_toArray,yP zero hz n i h];rw [show zero.toArray[i % zero.length]! = zero[i % zero.length] from by rw [getElem!_pos zero.toArray (i % zero.length) (by simpa using hm)]; simp,List.getElem?_eq_getElem hm]
 rw [Array.getElem?_eq_none (by simp; omega),Array.getElem?_eq_none (by simp [rB]; omega)]
theorem EF.buildSlice {d g T n ps ty pos af vs cs e size zero} (hp : NA kn ps = some vs) (hb : BS P T e size zero) (hn : Nat.ble (n * size) 1000 = true) (hn0 : Nat.blt 0 n = true) (hf : lI (fun i => some (i * size, size)) (zeros zero n) vs = some cs) :
    EF P W0 kn L ⟨d, .buildSlice T n ps.toArray, ty, pos, af, g⟩ (fun b : Nat => .slice (some ⟨b, 0, none⟩) n n) (fun b => Bk b e cs :: L) (fun _ => True) := fun ρ w he hs => by
  obtain ⟨hu, hi, hl, h0⟩ := hb
  have hn' : n * size ≤ 1000 := Nat.le_of_ble_eq_true hn
  have hn1 : 0 < n := by simp [Nat.blt] at hn0; omega
  have hns : n * size ≠ 0 := by have := Nat.mul_pos hn1 h0; omega
  obtain ⟨inf, CE, hs1, hz1⟩ : ∃ inf, P.info? e = some inf ∧ inf.size = size ∧ inf.zero.map (·.cells) = some zero.toArray := by
    cases h : P.info? e with
    | none => simp [h] at hi
    | some i => rw [h] at hi; simp at hi; exact ⟨i, rfl, hi.1, by simpa using hi.2⟩
  obtain ⟨z, hz, hzc⟩ : ∃ z, inf.zero = some z ∧ z.cells = zero.toArray := by
    cases h : inf.zero with
    | none => simp [h] at hz1
    | some z => rw [h] at hz1; exact ⟨z, rfl, by simpa using hz1⟩
  refine ⟨w.heap.size, w.alloc (.cells cs.toArray e), trivial, ?_, hs.wD e cs⟩
  have h3 := wX he hp
  have h4 : (ps.toArray.map fun (i, x) => (i, ρ x)) = vs.toArray := by rw [← h3]; simp
  have h5 := lA hf
  have h6 := yR zero (by omega) n
  rw [hl] at h6
  subst hs1
  have hlim : ¬ n * inf.size > 2 ^ 24 := by have : (1000 : Nat) ≤ 2 ^ 24 := by decide
                                            omega
  simp only [execOp, h4, Sem.run_bind, Instr.buildSlice, underlying, run_program, hu, Result.andThen_ok, Sem.run_pure, sizeOf, typeInfo, CE, hlim, if_false, hns, zeroValue, hz, hzc, h6, h5, newRow, run_newObj]
  rfl
def AL (P:Program) (t:TypeId) (zs:List Value):Prop:=(P.info? t).map (fun i=>i.zero.map (·.cells))=some (some zs.toArray)
theorem EF.alloc {d g T ty pos af zs} (ha:AL P T zs):EF P W0 kn L ⟨d,.alloc T,ty,pos,af,g⟩ (fun b:Nat=>.pointer (some ⟨b,0,none⟩)) (fun b=>Bk b T zs::L) (fun _=>True):=fun ρ w he hs=>by
 obtain ⟨inf,CE,z,hz,hzc⟩:∃ inf,P.info? T=some inf∧∃ z,inf.zero=some z∧z.cells=zs.toArray:=by
  unfold AL at ha;cases h:P.info? T with
  | none=>simp [h] at ha
  | some i =>
   rw [h] at ha; simp only [Option.map_some,Option.some.injEq] at ha;cases h2:i.zero with
   | none=>simp [h2] at ha
   | some z=>rw [h2] at ha; exact ⟨i,rfl,z,h2,by simpa using ha⟩
 refine ⟨w.heap.size,w.alloc (.cells zs.toArray T),trivial,?_,hs.wD T zs⟩;simp only [execOp,Sem.run_bind,Instr.alloc,zeroValue,typeInfo,run_program,CE,hz,Result.andThen_ok,Sem.run_pure,newVar,newRow,hzc,run_newObj];rfl
theorem EF.box {d g T x ty pos af v} (hx:ev kn x=some v):EF P W0 kn L ⟨d,.box T x,ty,pos,af,g⟩ (fun b:Nat=>.pointer (some ⟨b,0,none⟩)) (fun b=>Bk b T (vc v)::L) (fun _=>True):=fun ρ w he hs=>by
 refine ⟨w.heap.size,w.alloc (.cells (vc v).toArray T),trivial,?_,hs.wD T (vc v)⟩;simp only [execOp,he x v hx,Sem.run_bind,Instr.box,newVar,newRow,KQ,run_newObj,Result.andThen_ok,Sem.run_pure];rfl
theorem EF.bV {d g T x ty pos af cs} (hx:ev kn x=some (.agg cs)):EF P W0 kn L ⟨d,.box T x,ty,pos,af,g⟩ (fun b:Nat=>.pointer (some ⟨b,0,none⟩)) (fun b=>Bk b T cs.toList::L) (fun _=>True):=EF.box hx
theorem EF.ZS {d g T x ty pos af v} (hx:ev kn x=some v) (h1:Y7 v=true):EF P W0 kn L ⟨d,.box T x,ty,pos,af,g⟩ (fun b:Nat=>.pointer (some ⟨b,0,none⟩)) (fun b=>Bk b T [v]::L) (fun _=>True):=by
 have:vc v=[v]:=by cases v <;> first | rfl | (exact absurd h1 (by simp [Y7]))
 rw [← this]; exact EF.box hx
def SZ (P:Program) (t:TypeId) (n:Nat):Prop:=(P.info? t).map (·.size)=some n
theorem aB.setRow {C'':List Value} (h:aB W0 W (Bk b t C::L)):aB W0 (W.setRow b C''.toArray) (Bk b t C''::L):=by
 unfold Bk at *;refine h.turn (A:=fun x=>x=b) ⟨rfl,rfl,rfl⟩ (by simp) (fun F hF=>⟨⟨setRow_heap W b _ _ t _ hF.1,fun x=>Iff.rfl⟩,fun x hx=>.inl ((hF.2 x).2 hx),fun x hx hn=>?_⟩);exact setRow_other W b x _ (fun e=>hn ((hF.2 x).2 e))
theorem EU.store {d g T x y ty pos af v n} (hx:ev kn x=some (.pointer (some ⟨b,o,none⟩))) (hy:ev kn y=some v) (hs1:SZ P T n) (hn:Nat.beq (vc v).length n=true) (ho:ones (vc v)=true) (hC:gV C o (vc v)=some C')
  (p:Swap L (Bk b t C) (Bk b t C') L'):EU P W0 kn L ⟨d,.store T x y,ty,pos,af,g⟩ L':=fun ρ w he hs=>by
 obtain ⟨R,p1,p2⟩:=p.perm;have hs2:=hs.perm p1;have hat:=hs2.bk .here;obtain ⟨h1,h2⟩:=mV _ _ _ _ hC;have hl:(vc v).length=n:=Nat.eq_of_beq_eq_true hn;obtain ⟨inf,CE,hsz⟩:∃ inf,P.info? T=some inf∧inf.size=n:=by
  unfold SZ at hs1;cases h:P.info? T with
  | none=>simp [h] at hs1
  | some i=>rw [h] at hs1; exact ⟨i,rfl,by simpa using hs1⟩
 refine ⟨w.setRow b C'.toArray,?_,(hs2.setRow (C'':=C')).perm p2⟩;have h3:=run_storeCells_at (P:=P) b o t (vc v) 0 C.toArray w hat (by simpa using h1) (jW ho);simp only [Nat.add_zero] at h3;rw [← h2] at h3;have hne:¬ (vc v).toArray.size≠inf.size:=by simp [hsz,hl]
 simp only [execOp,he x _ hx,he y _ hy,Sem.run_bind,Instr.storeAt,Instr.sureAddr,Sem.run_pure,Result.andThen_ok,storeVar,KQ,sizeOf,typeInfo,run_program,CE,hne,if_false,h3]
theorem bytes_beq (a b:ByteArray):(a.toList == b.toList)=decide (a=b):=by
 rw [ByteArray.toList_eq,ByteArray.toList_eq]
 by_cases e:a=b
 ·subst e; simp
 rw [decide_eq_false e];apply beq_eq_false_iff_ne.2;intro h;apply e;cases a; cases b; simp at h; simp [h]
theorem EX.aLm {d g T ty' x y ty ps af m n} (hx:ev kn x=some (.string m)) (hy:ev kn y=some (.string n)):EX P W0 kn L ⟨d,.binOp .eql T x y ty',ty,ps,af,g⟩ (.bool (decide (m=n))):=fun ρ w he hs=>by
 simp only [execOp,he x _ hx,he y _ hy,eqGuard,binOp,Op.stringOp,bytes_beq,Sem.run_bind,Sem.run_pure,Result.andThen_ok]; rfl
theorem EX.aPy {d g T ty' x y ty ps af m n} (hx:ev kn x=some (.string m)) (hy:ev kn y=some (.string n)):EX P W0 kn L ⟨d,.binOp .neq T x y ty',ty,ps,af,g⟩ (.bool (decide (m≠n))):=fun ρ w he hs=>by
 simp only [execOp,he x _ hx,he y _ hy,eqGuard,binOp,Op.stringOp,bytes_beq,Sem.run_bind,Sem.run_pure,Result.andThen_ok]
 by_cases e:m=n <;> simp [e]
theorem EX.KH {d g T ty' x y ty ps af m n} (hx:ev kn x=some (.string m)) (hy:ev kn y=some (.string n)) (h:m.size + n.size≤9223372036854775807):EX P W0 kn L ⟨d,.binOp .add T x y ty',ty,ps,af,g⟩ (.string (m++n)):=fun ρ w he hs=>by
 have h':¬ (((m.size + n.size:Nat):Int) > IntKind.i64.max):=by
  have:IntKind.i64.max=9223372036854775807:=by decide
  rw [this]; omega
 simp only [execOp,he x _ hx,he y _ hy,eqGuard,binOp,Op.stringOp,Sem.run_bind,Sem.run_pure,Result.andThen_ok,if_neg h',Sem.run_ite];simp
theorem EX.QJ {d g ty ps af T x s} (hx:ev kn x=some (.string s)) (hT:P.underlying T=some .string):EX P W0 kn L ⟨d,.call { callee:=.builtin .len,args:=#[x],argTypes:=#[T] },ty,ps,af,g⟩ (.int .i64 s.size):=fun ρ w he hs=>by
 simp [execOp,resolve,invoke,builtin,Builtin.len_,underlying,hT,he x _ hx,goInt]
theorem EX.rT {d g ty ps af T e x a n c} (hx:ev kn x=some (.slice a n c)) (hT:P.underlying T=some (.slice e)):EX P W0 kn L ⟨d,.call { callee:=.builtin .len,args:=#[x],argTypes:=#[T] },ty,ps,af,g⟩ (.int .i64 n):=fun ρ w he hs=>by
 simp [execOp,resolve,invoke,builtin,Builtin.len_,underlying,hT,he x _ hx,goInt]
theorem EX.conv {d g ty ps af T T' x k j n r td} (hx:ev kn x=some (.int k n)) (hT:P.underlying T=some td) (hT':P.underlying T'=some (.int j)) (hr:j.wrap n=r):EX P W0 kn L ⟨d,.convert T T' x,ty,ps,af,g⟩ (.int j r):=fun ρ w he hs=>by
 subst hr;simp only [execOp,Sem.run_bind,he x _ hx];have:(convert T T' (.int k n)).run P w=.ok (.int j (j.wrap n)) w:=by
  simp [convert,underlying,hT,hT',Conv.intToInt]
 rw [this]; rfl
theorem EX.makeFunc {d g ty ps af fn fs cs us vs} (h1:evs kn fs=some us) (h2:evs kn cs=some vs):EX P W0 kn L ⟨d,.makeFunc fn fs.toArray cs.toArray,ty,ps,af,g⟩ (.func fn us.toArray vs.toArray):=fun ρ w he hs=>by
 have e1:fs.toArray.map ρ=us.toArray:=by rw [← kE he h1]; simp
 have e2:cs.toArray.map ρ=vs.toArray:=by rw [← kE he h2]; simp
 simp only [execOp,e1,e2,Sem.run_bind,Instr.makeFunc,Sem.run_pure,Result.andThen_ok]
def Enters (P:Program) (f:FuncId):Prop:=∀ args w,(callFunc f args).run P w=.ok (.enter f args) w
theorem Enters.of {f : FuncId} {fn : Func} (hf : P.funcs[f]? = some fn) (hn : (fn.name == "runtime.NumGoroutine") = false) (hb : fn.body.isNone = false) : Enters P f := by
 intro args w;simp only [callFunc,Sem.run_bind,run_program,Result.andThen_ok,hf,hn,hb,Bool.false_eq_true,if_false,Sem.run_pure]
theorem EC.direct {d g ty ps af f xs vs tys} (h:Enters P f) (hx:evs kn xs=some vs):EC P kn ⟨d,.call { callee:=.value (.func f),args:=xs.toArray,argTypes:=tys },ty,ps,af,g⟩ f vs:=fun ρ w he=>by
 have e1:xs.toArray.map ρ=vs.toArray:=by rw [← kE he hx]; simp
 have e0:ρ (.func f)=.func (.func f) #[] #[]:=he _ _ rfl;simp only [execOp,resolve,e0,e1,Deferred.ofValue,Sem.run_bind,Sem.run_pure,Result.andThen_ok,invoke,Array.empty_append,Array.append_empty,h vs.toArray w]
theorem EC.closure {d g ty ps af f t xs vs us cs tys} (ht:lk kn t=some (.func (.func f) us cs)) (h:Enters P f) (hx:evs kn xs=some vs):EC P kn ⟨d,.call { callee:=.value (.tmp t),args:=xs.toArray,argTypes:=tys },ty,ps,af,g⟩ f (us.toList++vs++cs.toList):=fun ρ w he=>by
 have e1:xs.toArray.map ρ=vs.toArray:=by rw [← kE he hx]; simp
 have e0:ρ (.tmp t)=.func (.func f) us cs:=he _ _ ht;have e2:us++vs.toArray++cs=(us.toList++vs++cs.toList).toArray:=by cases us; cases cs; simp
 simp only [execOp,resolve,e0,e1,Deferred.ofValue,Sem.run_bind,Sem.run_pure,Result.andThen_ok,invoke,e2,h _ w]
end
section
variable {P:Program} {W0:World} {N:Nat} {kn:Kn} {L M:List aA}
def iQ:Nat→List Value→Kn
 | _,[]=>[]
 | i,v::r=>(i,v)::iQ (i + 1) r
theorem EW:∀ (args:List Value) (i d:Nat) (v:Value),lk (iQ i args) d=some v→∃ j,d=i + j∧args[j]?=some v
 | [],i,d,v,h=>by simp [iQ,lk] at h
 | u::r,i,d,v,h=>by
  simp only [iQ,lk] at h;cases hb:Nat.beq i d with
  | true =>
   rw [hb] at h; simp only [cond_true,Option.some.injEq] at h; subst h;exact ⟨0,by have:=Nat.eq_of_beq_eq_true hb; omega,rfl⟩
  | false =>
   rw [hb] at h;obtain ⟨j,h1,h2⟩:=EW r (i + 1) d v h;exact ⟨j + 1,by omega,by simpa using h2⟩
theorem fF (args:List Value) {n:Nat} (hN:args.length≤n):Has n [] (iQ 0 args) { tmps:=args.toArray++Array.replicate (n - args.toArray.size) undef,defers:=[] }:=by
 refine ⟨by simp; omega,rfl,fun d v hd=>?_⟩;obtain ⟨j,h1,h2⟩:=EW args 0 d v hd;have hj:j < args.length:=by
  rcases Nat.lt_or_ge j args.length with h | h
  ·exact h
  rw [List.getElem?_eq_none h] at h2; cases h2
 rw [show d=j by omega,Array.getElem?_append_left (by simpa using hj)];simpa using h2
theorem Fn.enter {f:FuncId} {fn:Func} {c:Code} {args:List Value} {post:Ending→(List aA→Prop)→Prop} (hf:P.funcs[f]?=some fn) (hb:fn.body=some c) (hn:fn.ntmps=N) (hN:Nat.ble args.length N=true)
  (h:∀ W0 R,GC P W0 N [] c (bodyPost P fn (fun e w'=>post e (fun T=>aB W0 w' (T++R)))) (iQ 0 args) (M++R)):Fn P f args.toArray M post:=by
 intro W0 W R hs;refine calls_of_wp hf hb ?_;subst hn;exact h W0 R _ _ (fF args (Nat.le_of_ble_eq_true hN)) hs
theorem BG {fn:Func} {t:Nat} (h:fn.results=#[.tmp t]) {tmps:Array Value} {v:Value} (hv:tmps[t]?=some v) (w:World):(results fn tmps).run P w=.ok v w:=by
 simp [results,h,Array.getD_eq_getD_getElem?,hv]
theorem GE.out {fn:Func} {Rr:Ending→World→Prop} {t:Nat} {v:Value} (hr:fn.results=#[.tmp t]) (hv:lk kn t=some v) (h:∀ w,aB W0 w L→Rr (.returned v) w):GE W0 N [] .ret (bodyPost P fn Rr) kn L :=
 fun a w ha hs=>⟨ha.defers,v,BG hr (ha.slot hv) w,h w hs⟩
theorem GE.aIi {fn:Func} {Rr:Ending→World→Prop} (hr:fn.results=#[]) (h:∀ w,aB W0 w L→Rr (.returned (.tuple #[])) w):GE W0 N [] .ret (bodyPost P fn Rr) kn L :=
 fun a w ha hs=>⟨ha.defers,.tuple #[],by simp [results,hr],h w hs⟩
theorem GE.lW {fn:Func} {Rr:Ending→World→Prop} (hr:fn.results=#[]) (h:∀ w,aB W0 w L→Rr (.returned (.tuple #[])) w):GE W0 N [] .normal (bodyPost P fn Rr) kn L :=
 fun a w ha hs=>⟨ha.defers,.tuple #[],by simp [results,hr],h w hs⟩
def tmpsOf:List ResultVar→Option (List Nat)
 | []=>some []
 | .tmp t::r=>match tmpsOf r with
  | some l=>some (t::l)
  | none=>none
 | _=>none
def lks (kn:Kn):List Nat→Option (List Value)
 | []=>some []
 | t::r=>match lk kn t,lks kn r with
  | some v,some vs=>some (v::vs)
  | _,_=>none
def PA (tmps:Array Value):ResultVar→Sem Value
 | .tmp t=>pure (tmps.getD t undef)
 | .cell p t=>do loadVar t (← asAddr (tmps.getD p undef))
theorem iK (fn:Func) (tmps:Array Value):results fn tmps=(do let vs ← fn.results.mapM (PA tmps); pure (if h:vs.size=1 then vs[0] else .tuple vs)):=by
 unfold results;congr 1
theorem LC {a:Act} {ds:List Deferred} (ha:Has N ds kn a) (w:World):∀ (l:List ResultVar) (ts:List Nat) (vs:List Value),tmpsOf l=some ts→lks kn ts=some vs→(l.mapM (PA a.tmps)).run P w=.ok vs w
 | [],ts,vs,h1,h2=>by simp [tmpsOf] at h1; subst h1; simp [lks] at h2; subst h2; rfl
 | .cell p t::l,ts,vs,h1,h2=>by simp [tmpsOf] at h1
 | .tmp t::l,ts,vs,h1,h2=>by
  simp only [tmpsOf] at h1;cases h3:tmpsOf l with
  | none=>simp [h3] at h1
  | some us =>
   simp only [h3,Option.some.injEq] at h1; subst h1;simp only [lks] at h2;cases h4:lk kn t with
   | none=>simp [h4] at h2
   | some v =>
    cases h5:lks kn us with
    | none=>simp [h4,h5] at h2
    | some ws =>
     simp only [h4,h5,Option.some.injEq] at h2; subst h2;have h6:=LC ha w l us ws h3 h5;simp only [List.mapM_cons,PA,Sem.run_bind,Sem.run_pure,Result.andThen_ok,h6,Array.getD_eq_getD_getElem?,ha.slot h4,Option.getD_some]
theorem pR {fn:Func} {ts:List Nat} {vs:List Value} (h:tmpsOf fn.results.toList=some ts) {a:Act} {ds:List Deferred} (ha:Has N ds kn a) (hv:lks kn ts=some vs) (h1:vs.length≠1) (w:World):(results fn a.tmps).run P w=.ok (.tuple vs.toArray) w:=by
 have h7:=LC (P:=P) ha w fn.results.toList ts vs h hv;have h9:¬ vs.toArray.size=1:=by simpa using h1
 rw [iK,Sem.run_bind,Array.mapM_eq_mapM_toList,Sem.run_map,h7];simp only [Result.andThen_ok,dif_neg h9,Sem.run_pure]
theorem GE.outs {fn:Func} {Rr:Ending→World→Prop} {ts:List Nat} {vs:List Value} (hr:tmpsOf fn.results.toList=some ts) (hv:lks kn ts=some vs) (h1:Nat.beq vs.length 1=false) (h:∀ w,aB W0 w L→Rr (.returned (.tuple vs.toArray)) w):GE W0 N [] .ret (bodyPost P fn Rr) kn L :=
 fun a w ha hs=>⟨ha.defers,.tuple vs.toArray,pR hr ha hv (fun e=>by rw [e] at h1; simp at h1) w,h w hs⟩
end
end
noncomputable section
theorem One.of {P:Program} {t:TypeId} {d:TypeDesc} (hu:P.underlying t=some d) (hd:(match d with | .struct _ | .array _ _=>true | _=>false)=false):One P t:=by
 intro w;unfold isAgg underlying;simp only [Sem.run_bind,run_program,Result.andThen_ok,hu,Sem.run_pure];cases d <;> first | rfl | (simp at hd; done)
theorem Many.of {P:Program} {t:TypeId} {d:TypeDesc} {n:Nat} (hu:P.underlying t=some d) (hd:(match d with | .struct _ | .array _ _=>true | _=>false)=true) (hs:(P.info? t).map (·.size)=some n):Many P t n:=by
 intro w;refine ⟨?_,?_⟩
 ·unfold isAgg underlying;simp only [Sem.run_bind,run_program,Result.andThen_ok,hu,Sem.run_pure];cases d <;> first | rfl | (simp at hd; done)
 cases h:P.info? t with
 | none=>simp [h] at hs
 | some i=>rw [h] at hs; simp at hs; simp [sizeOf,typeInfo,h,hs]
def SLt (P:Program) (T e size:Nat):Prop:=P.underlying T=some (.slice e)∧(P.info? e).map (·.size)=some size
def ARt (P:Program) (T n size:Nat):Prop:=∃ e,P.underlying T=some (.array n e)∧(P.info? e).map (·.size)=some size
def lu {β:Type}:List (Nat × β)→Nat→Option β
 | [],_=>none
 | p::r,t=>bif Nat.beq p.1 t then some p.2 else lu r t
theorem gK {β:Type}:∀ {l:List (Nat × β)} {t:Nat} {v:β},lu l t=some v→(t,v)∈l
 | p::r,t,v,h=>by
  simp only [lu] at h;cases hb:Nat.beq p.1 t with
  | true =>
   rw [hb] at h;simp only [cond_true,Option.some.injEq] at h;have:=Nat.eq_of_beq_eq_true hb;subst this; subst h;exact List.mem_cons_self ..
  | false=>rw [hb] at h; exact List.mem_cons_of_mem _ (gK h)
theorem tab {α β:Type} {f g:α→β} {l:List α} (h:l.map f=l.map g) {p:α} (hp:p∈l):f p=g p:=List.map_inj_left.1 h p hp
def aCs (t:Nat):Bool:=match Tryz.prog.underlying t with
 | some (.struct _) | some (.array _ _) | none=>false
 | _=>true
theorem J3 {t:Nat} (h:aCs t=true):One Tryz.prog t:=by
 unfold aCs at h;cases hu:Tryz.prog.underlying t with
 | none=>rw [hu] at h; cases h
 | some d=>exact One.of hu (by rw [hu] at h; cases d <;> first | rfl | cases h)
def XB (t:Nat):Bool:=match Tryz.prog.underlying t with
 | some (.struct _) | some (.array _ _)=>true
 | _=>false
theorem XA {t n:Nat} (h:(XB t,(Tryz.prog.info? t).map (·.size))=(true,some n)):Many Tryz.prog t n:=by
 injection h with h1 h2;unfold XB at h1;cases hu:Tryz.prog.underlying t with
 | none=>rw [hu] at h1; cases h1
 | some d=>exact Many.of hu (by rw [hu] at h1; cases d <;> first | rfl | cases h1) h2
def nn {β:Type}:List β→Nat→Option β
 | [],_=>none
 | a::_,0=>some a
 | _::r,n + 1=>nn r n
def lf (l:List (Nat × List Nat)) (s i:Nat):Option Nat:=match lu l s with
 | some r=>nn r i
 | none=>none
def faQ (s:Nat):Option (List (Nat × Bool)):=match Tryz.prog.underlying s with
 | some (.struct fs)=>some (fs.toList.map fun f=>(f.offset,match Tryz.prog.info? f.type with | some i=>Nat.blt 0 i.size | none=>false))
 | _=>none
theorem tQ {β:Type}:∀ (l:List β) (i:Nat),nn l i=l[i]?
 | [],_=>rfl
 | _::_,0=>rfl
 | _::r,n + 1=>by simp [nn,tQ r n]
theorem aE6 {s i off:Nat} {l:List Nat} (h:faQ s=some (l.map fun o=>(o,true))) (hi:nn l i=some off):FA Tryz.prog s i off:=by
 rw [tQ] at hi;unfold faQ at h;split at h
 ·rename_i fs hu;injection h with h;have h1:=congrArg (fun q=>q[i]?) h;simp only [List.getElem?_map,hi,Option.map_some] at h1;cases hf:fs.toList[i]? with
  | none=>rw [hf] at h1; cases h1
  | some f =>
   rw [hf] at h1;simp only [Option.map_some,Option.some.injEq,Prod.mk.injEq] at h1;cases hq:Tryz.prog.info? f.type with
   | none=>rw [hq] at h1; cases h1.2
   | some x =>
    have h2:=h1.2;rw [hq] at h2;have h3:0 < x.size:=by
     have h2:Nat.ble 1 x.size=true:=h2;exact Nat.le_of_ble_eq_true h2
    refine FA.of (n:=x.size - 1) (ft:=f.type) hu ?_ ?_
    ·rw [← Array.getElem?_toList,hf]; simp [h1.1]
    rw [hq]; simp; omega
 cases h
theorem aAx {t:Nat} {zs:List Value} {ls:List (Nat × Nat)} (h:Tryz.prog.built t=fun ps=>Instr.fill (fun i=>ls.toArray[i]?) zs.toArray ps):BD Tryz.prog t zs (lp ls):=by
 unfold BD; rw [h]; funext ps; congr 1; funext i; rw [MG]; simp
def enQ (f:Nat):Bool:=match Tryz.prog.funcs[f]? with
 | some fn => !(fn.name == "runtime.NumGoroutine") && !fn.body.isNone
 | none=>false
theorem eN {f:Nat} (h:enQ f=true:=by kernel_rfl):Enters Tryz.prog f:=by
 unfold enQ at h;cases hf:Tryz.prog.funcs[f]? with
 | none=>rw [hf] at h; cases h
 | some fn =>
  rw [hf] at h;simp only [Bool.and_eq_true,Bool.not_eq_true'] at h;exact Enters.of hf h.1 h.2
def VJ:List (Nat × Unit):=[(3,()),(4,()),(5,()),(9,()),(22,()),(23,()),(26,()),(27,()),(30,()),(40,()),(44,()),(48,()),(53,()),(70,()),(75,()),(76,()),(77,()),(106,()),(107,()),(118,()),(123,()),(134,()),(136,()),(137,()),(138,()),(184,()),(185,()),(186,()),(239,()),(248,()),(272,()),(332,()),(333,()),(363,())]
theorem J4:VJ.map (fun p=>aCs p.1)=VJ.map fun _=>true:=by kernel_rfl
theorem oN {t:Nat} (h:lu VJ t=some ():=by exact rfl):One Tryz.prog t:=J3 (tab J4 (gK h))
def MF:List (Nat × Nat):=[(31,3),(34,6),(47,7),(56,4),(60,2),(62,2),(64,4),(72,5),(81,13),(83,4),(85,7),(94,6),(96,4),(112,3),(120,9),(140,2),(147,6),(188,5),(217,9),(220,3),(291,3),(308,10),(364,12)]
theorem XC:MF.map (fun p=>(XB p.1,(Tryz.prog.info? p.1).map (·.size)))=MF.map fun p=>(true,some p.2):=by kernel_rfl
theorem mN {t n:Nat} (h:lu MF t=some n:=by exact rfl):Many Tryz.prog t n:=XA (tab XC (gK h))
def faT:List (Nat × List Nat):=[(34,[0,1,2,3,4,5]),(47,[0,1,2,3,4,5,6]),(56,[0,1,2,3]),(60,[0,1]),(64,[0,2]),(72,[0,2,3,4]),(79,[0,1,6,7,8,9,10,11,12]),(81,[0,1,2,3,4,5,6,7,8,9,10,11,12]),(83,[0,1,2,3]),(85,[0,4,5,6]),(89,[0,1,8]),(94,[0,1,2,3,4,5]),(96,[0,1,2,3]),(109,[0,1,2,3]),(112,[0,1,2]),(120,[0,3,6]),(122,[0,1]),(140,[0,1]),(142,[0,1,2,3,4,5,6,7]),(147,[0,1,2,3,4,5]),(171,[0,1]),(188,[0,1,2,3,4]),(198,[0,13,14,15]),(220,[0,1,2]),(241,[0,1,2,3]),(243,[0]),(274,[0,1,2]),(284,[0,1,2]),(291,[0,1,2]),(308,[0,4,5,6,7,8,9]),(335,[0,1,2,3,4,5])]
theorem aE7:faT.map (fun p=>faQ p.1)=faT.map fun p=>some (p.2.map fun o=>(o,true)):=by kernel_rfl
theorem fA {s i off:Nat} (h:lf faT s i=some off:=by exact rfl):FA Tryz.prog s i off:=by
 unfold lf at h;split at h
 ·rename_i r hr; exact aE6 (tab aE7 (gK hr)) h
 cases h
def szT:List (Nat × Nat):=[(3,1),(4,1),(5,1),(9,1),(26,1),(27,1),(30,1),(34,6),(40,1),(44,1),(47,7),(56,4),(60,2),(62,2),(64,4),(70,1),(72,5),(75,1),(81,13),(83,4),(85,7),(89,9),(94,6),(96,4),(106,1),(112,3),(120,9),(136,1),(137,1),(147,6),(188,5),(217,9),(220,3),(228,10),(243,1),(248,1),(291,3),(308,10),(364,12)]
theorem aBe:szT.map (fun p=>(Tryz.prog.info? p.1).map (·.size))=szT.map fun p=>some p.2:=by kernel_rfl
theorem sZ {t n:Nat} (h:lu szT t=some n:=by exact rfl):SZ Tryz.prog t n:=tab aBe (gK h)
def alT:List (Nat × List Value):=[(3,[.int .i64 0]),(27,[.int .i64 0]),(34,[.int .i64 0,.string ⟨#[]⟩,.bool false,.int .i64 0,.slice none 0 0,.int .i64 0]),(47,[.int .i64 0,.int .i64 0,.int .i64 0,.int .i64 0,.int .i64 0,.int .u64 0,.string ⟨#[]⟩]),(56,[.bool false,.bool false,.bool false,.bool false]),(60,[.int .i64 0,.int .i64 0]),(62,[.int .i64 0,.int .i64 0]),(64,[.int .i64 0,.int .i64 0,.int .i64 0,.int .i64 0]),(81,[.int .i64 0,.int .u64 0,.int .u64 0,.string ⟨#[]⟩,.int .i64 0,.int .i64 0,.int .i64 0,.int .i64 0,.int .i64 0,.int .i64 0,.int .i64 0,.int .u64 0,.int .u64 0]),(83,[.int .i64 0,.int .i64 0,.int .i64 0,.int .u64 0]),(89,[.int .i64 0,.int .i64 0,.int .i64 0,.int .i64 0,.int .u64 0,.int .i64 0,.int .i64 0,.string ⟨#[]⟩,.int .u64 0]),(94,[.int .i64 0,.string ⟨#[]⟩,.int .u64 0,.int .i64 0,.int .i64 0,.int .i64 0]),(96,[.int .u64 0,.int .i64 0,.int .i64 0,.string ⟨#[]⟩]),(112,[.int .u64 0,.int .u64 0,.int .u64 0]),(120,[.int .u64 0,.int .u64 0,.int .u64 0,.int .u64 0,.int .u64 0,.int .u64 0,.int .u64 0,.int .u64 0,.int .u64 0]),(172,[.slice none 0 0]),(178,[.int .u64 0,.int .u64 0,.int .u64 0]),(188,[.int .u64 0,.int .u64 0,.pointer none,.pointer none,.pointer none]),(217,[.int .u64 0,.int .u64 0,.int .u64 0,.int .u64 0,.int .u64 0,.int .u64 0,.int .u64 0,.int .u64 0,.int .u64 0]),(228,[.nilFunc,.nilFunc,.nilFunc,.nilFunc,.nilFunc,.nilFunc,.nilFunc,.nilFunc,.nilFunc,.nilFunc]),(248,[.slice none 0 0]),(291,[.int .i64 0,.int .i64 0,.string ⟨#[]⟩]),(308,[.int .i64 0,.int .i64 0,.int .i64 0,.int .u64 0,.int .i64 0,.int .i64 0,.int .u64 0,.int .i64 0,.int .i64 0,.int .i64 0]),(364,[.nilFunc,.nilFunc,.nilFunc,.nilFunc,.nilFunc,.nilFunc,.nilFunc,.nilFunc,.nilFunc,.nilFunc,.nilFunc,.nilFunc])]
theorem KG:alT.map (fun p=>(Tryz.prog.info? p.1).map fun i=>i.zero.map (·.cells))=alT.map fun p=>some (some p.2.toArray):=by kernel_rfl
theorem aL {t:Nat} {zs:List Value} (h:lu alT t=some zs:=by exact rfl):AL Tryz.prog t zs:=tab KG (gK h)
def bdT:List (Nat × List Value × List (Nat × Nat)):=[(34,[.int .i64 0,.string ⟨#[]⟩,.bool false,.int .i64 0,.slice none 0 0,.int .i64 0],[(0,1),(1,1),(2,1),(3,1),(4,1),(5,1)]),(56,[.bool false,.bool false,.bool false,.bool false],[(0,1),(1,1),(2,1),(3,1)]),(60,[.int .i64 0,.int .i64 0],[(0,1),(1,1)]),(81,[.int .i64 0,.int .u64 0,.int .u64 0,.string ⟨#[]⟩,.int .i64 0,.int .i64 0,.int .i64 0,.int .i64 0,.int .i64 0,.int .i64 0,.int .i64 0,.int .u64 0,.int .u64 0],[(0,1),(1,1),(2,1),(3,1),(4,1),(5,1),(6,1),(7,1),(8,1),(9,1),(10,1),(11,1),(12,1)]),(83,[.int .i64 0,.int .i64 0,.int .i64 0,.int .u64 0],[(0,1),(1,1),(2,1),(3,1)]),(94,[.int .i64 0,.string ⟨#[]⟩,.int .u64 0,.int .i64 0,.int .i64 0,.int .i64 0],[(0,1),(1,1),(2,1),(3,1),(4,1),(5,1)]),(96,[.int .u64 0,.int .i64 0,.int .i64 0,.string ⟨#[]⟩],[(0,1),(1,1),(2,1),(3,1)]),(109,[.slice none 0 0,.slice none 0 0,.map none,.int .i64 0],[(0,1),(1,1),(2,1),(3,1)]),(112,[.int .u64 0,.int .u64 0,.int .u64 0],[(0,1),(1,1),(2,1)]),(171,[.pointer none,.int .i64 0,.int .i64 0,.int .i64 0,.int .u64 0],[(0,1),(1,4)]),(188,[.int .u64 0,.int .u64 0,.pointer none,.pointer none,.pointer none],[(0,1),(1,1),(2,1),(3,1),(4,1)]),(198,[.int .i64 0,.int .u64 0,.int .u64 0,.string ⟨#[]⟩,.int .i64 0,.int .i64 0,.int .i64 0,.int .i64 0,.int .i64 0,.int .i64 0,.int .i64 0,.int .u64 0,.int .u64 0,.int .i64 0,.int .u64 0,.int .i64 0,.int .i64 0],[(0,13),(13,1),(14,1),(15,2)]),(274,[.int .i64 0,.map none,.int .u64 0],[(0,1),(1,1),(2,1)]),(291,[.int .i64 0,.int .i64 0,.string ⟨#[]⟩],[(0,1),(1,1),(2,1)]),(308,[.int .i64 0,.int .i64 0,.int .i64 0,.int .u64 0,.int .i64 0,.int .i64 0,.int .u64 0,.int .i64 0,.int .i64 0,.int .i64 0],[(0,4),(4,1),(5,1),(6,1),(7,1),(8,1),(9,1)]),(335,[.slice none 0 0,.slice none 0 0,.slice none 0 0,.slice none 0 0,.map none,.bool false,.bool false],[(0,1),(1,1),(2,1),(3,1),(4,1),(5,2)])]
theorem aF6:bdT.map (fun p=>Tryz.prog.built p.1)=bdT.map fun p=>fun ps=>Instr.fill (fun i=>p.2.2.toArray[i]?) p.2.1.toArray ps:=by kernel_rfl
theorem bD {t:Nat} {zs:List Value} {ls:List (Nat × Nat)} (h:lu bdT t=some (zs,ls):=by exact rfl):BD Tryz.prog t zs (lp ls):=aAx (tab aF6 (gK h))
theorem KD:BD Tryz.prog 62 [.int .i64 0,.int .i64 0] (fun i=>some (i * 1,1)):=by unfold BD; kernel_rfl
theorem aNa:BD Tryz.prog 217 [.int .u64 0,.int .u64 0,.int .u64 0,.int .u64 0,.int .u64 0,.int .u64 0,.int .u64 0,.int .u64 0,.int .u64 0] (fun i=>some (i * 3,3)):=by unfold BD; kernel_rfl
theorem aM9:BD Tryz.prog 228 [.nilFunc,.nilFunc,.nilFunc,.nilFunc,.nilFunc,.nilFunc,.nilFunc,.nilFunc,.nilFunc,.nilFunc] (fun i=>some (i * 1,1)):=by unfold BD; kernel_rfl
theorem aM8:BD Tryz.prog 306 [.pointer none,.pointer none,.pointer none] (fun i=>some (i * 1,1)):=by unfold BD; kernel_rfl
theorem aM6:BD Tryz.prog 355 [.pointer none,.pointer none,.pointer none] (fun i=>some (i * 1,1)):=by unfold BD; kernel_rfl
theorem aM5:BD Tryz.prog 364 [.nilFunc,.nilFunc,.nilFunc,.nilFunc,.nilFunc,.nilFunc,.nilFunc,.nilFunc,.nilFunc,.nilFunc,.nilFunc,.nilFunc] (fun i=>some (i * 1,1)):=by unfold BD; kernel_rfl
def bsT:List (Nat × Nat × Nat × List Value):=[(26,9,1,[.string ⟨#[]⟩]),(40,3,1,[.int .i64 0]),(44,47,7,[.int .i64 0,.int .i64 0,.int .i64 0,.int .i64 0,.int .i64 0,.int .u64 0,.string ⟨#[]⟩]),(106,94,6,[.int .i64 0,.string ⟨#[]⟩,.int .u64 0,.int .i64 0,.int .i64 0,.int .i64 0]),(137,291,3,[.int .i64 0,.int .i64 0,.string ⟨#[]⟩]),(172,96,4,[.int .u64 0,.int .i64 0,.int .i64 0,.string ⟨#[]⟩]),(182,188,5,[.int .u64 0,.int .u64 0,.pointer none,.pointer none,.pointer none]),(248,5,1,[.int .u8 0])]
theorem KA:bsT.map (fun p=>(Tryz.prog.underlying p.1,(Tryz.prog.info? p.2.1).map (fun i=>(i.size,i.zero.map (·.cells))),p.2.2.2.length,Nat.ble 1 p.2.2.1))=bsT.map fun p=>(some (.slice p.2.1),some (p.2.2.1,some p.2.2.2.toArray),p.2.2.1,true):=by kernel_rfl
theorem bS {t e n:Nat} {zs:List Value} (h:lu bsT t=some (e,n,zs):=by exact rfl):BS Tryz.prog t e n zs:=by
 have h:=tab KA (gK h);simp only [Prod.mk.injEq] at h;exact ⟨h.1,h.2.1,h.2.2.1,Nat.le_of_ble_eq_true h.2.2.2⟩
def slT:List (Nat × Nat × Nat):=[(26,9,1),(40,3,1),(44,47,7),(70,64,4),(75,123,1),(106,94,6),(136,23,1),(137,291,3),(172,96,4),(182,188,5),(248,5,1),(332,4,1)]
theorem HU:slT.map (fun p=>(Tryz.prog.underlying p.1,(Tryz.prog.info? p.2.1).map (·.size)))=slT.map fun p=>(some (.slice p.2.1),some p.2.2):=by kernel_rfl
theorem sL {t e n:Nat} (h:lu slT t=some (e,n):=by exact rfl):SLt Tryz.prog t e n:=by
 have h:=tab HU (gK h);injection h with h1 h2;exact ⟨h1,h2⟩
def arT:List (Nat × Nat × Nat × Nat):=[(62,2,1,3),(178,3,1,30),(228,10,1,134),(364,12,1,363)]
theorem KE:arT.map (fun p=>(Tryz.prog.underlying p.1,(Tryz.prog.info? p.2.2.2).map (·.size)))=arT.map fun p=>(some (.array p.2.1 p.2.2.2),some p.2.2.1):=by kernel_rfl
theorem aR {t n s e:Nat} (h:lu arT t=some (n,s,e):=by exact rfl):ARt Tryz.prog t n s:=by
 have h:=tab KE (gK h);injection h with h1 h2;exact ⟨_,h1,h2⟩
def apT:List (Nat × Nat × Nat × Nat × Value):=[(26,9,1,16,.string ⟨#[]⟩),(40,3,1,8,.int .i64 0),(44,47,7,64,.agg #[.int .i64 0,.int .i64 0,.int .i64 0,.int .i64 0,.int .i64 0,.int .u64 0,.string ⟨#[]⟩]),(106,94,6,56,.agg #[.int .i64 0,.string ⟨#[]⟩,.int .u64 0,.int .i64 0,.int .i64 0,.int .i64 0]),(137,291,3,32,.agg #[.int .i64 0,.int .i64 0,.string ⟨#[]⟩]),(172,96,4,40,.agg #[.int .u64 0,.int .i64 0,.int .i64 0,.string ⟨#[]⟩]),(248,5,1,1,.int .u8 0)]
theorem KF:apT.map (fun p=>(Tryz.prog.underlying p.1,(Tryz.prog.info? p.2.1).map (fun i=>(i.zero,i.size,i.bytes))))=apT.map fun p=>(some (.slice p.2.1),some (some p.2.2.2.2,p.2.2.1,p.2.2.2.1)):=by kernel_rfl
theorem ap {t e s b:Nat} {z:Value} (h:lu apT t=some (e,s,b,z):=by exact rfl):Tryz.prog.underlying t=some (.slice e)∧(Tryz.prog.info? e).map (fun i=>(i.zero,i.size,i.bytes))=some (some z,s,b):=by
 have h:=tab KF (gK h);injection h with h1 h2;exact ⟨h1,h2⟩
def zvT:List (Nat × Value):=[(3,.int .i64 0),(9,.string ⟨#[]⟩),(89,.agg #[.int .i64 0,.int .i64 0,.int .i64 0,.int .i64 0,.int .u64 0,.int .i64 0,.int .i64 0,.string ⟨#[]⟩,.int .u64 0]),(110,.pointer none),(182,.slice none 0 0),(194,.nilFunc),(269,.pointer none)]
theorem aAz:zvT.map (fun p=>(Tryz.prog.info? p.1).map (·.zero))=zvT.map fun p=>some (some p.2):=by kernel_rfl
theorem zV {t:Nat} {z:Value} (h:lu zvT t=some z:=by exact rfl):(Tryz.prog.info? t).map (·.zero)=some (some z):=tab aAz (gK h)
def unT:List (Nat × TypeDesc):=[(2,(.int .i64)),(3,(.int .i64)),(4,.bool),(5,(.int .u8)),(9,.string),(21,(.int .i32)),(22,(.pointer 109)),(23,(.pointer 79)),(26,(.slice 9)),(27,(.int .i64)),(30,(.int .u64)),(40,(.slice 3)),(44,(.slice 47)),(48,(.pointer 142)),(53,(.slice 147)),(62,(.array 2 3)),(70,(.slice 64)),(75,(.slice 123)),(76,(.map 30 89)),(77,(.map 30 110)),(81,.struct (Tryz.prog.fieldsOf 81)),(83,.struct (Tryz.prog.fieldsOf 83)),(106,(.slice 94)),(107,(.map 94 3)),(117,(.slice 112)),(118,(.pointer 241)),(123,(.pointer 122)),(134,(.func #[47] #[34,3,27] false)),(136,(.slice 23)),(137,(.slice 291)),(138,(.map 3 4)),(172,(.slice 96)),(182,(.slice 188)),(184,(.pointer 30)),(185,(.pointer 3)),(186,(.pointer 9)),(195,(.map 3 194)),(217,(.array 3 112)),(225,(.slice 60)),(226,(.map 62 62)),(234,(.map 3 53)),(235,(.map 147 3)),(239,(.map 30 269)),(248,(.slice 5)),(261,(.int .u64)),(272,(.map 3 9)),(297,(.slice 30)),(332,(.slice 4)),(333,(.map 62 3)),(363,(.func #[329,94] #[4] false)),(364,(.array 12 363)),(378,(.int .i64)),(386,(.int .u32)),(412,(.array 24 5))]
theorem aA9:unT.map (fun p=>Tryz.prog.underlying p.1)=unT.map fun p=>some p.2:=by kernel_rfl
theorem uN {t:Nat} {d:TypeDesc} (h:lu unT t=some d:=by exact rfl):Tryz.prog.underlying t=some d:=tab aA9 (gK h)
end
section
section
variable {P:Program} {W0 W w:World} {N:Nat} {kn:Kn} {L L' R M:List aA} {b o:Nat} {t:TypeId} {C C':List Value}
inductive RV (P:Program) (kn:Kn) (L:List aA):ResultVar→Value→Prop
 | tmp {t v} (h:lk kn t=some v):RV P kn L (.tmp t) v
 | cell1 {p ty b t C R v} (h:lk kn p=some (.pointer (some ⟨b,0,none⟩))) (hp:Pick L (Bk b t C) R) (h1:One P ty) (hc:lc C 0=some v):RV P kn L (.cell p ty) v
 | fV {p ty b t C R n} (h:lk kn p=some (.pointer (some ⟨b,0,none⟩))) (hp:Pick L (Bk b t C) R) (h1:Many P ty n) (hc:Nat.beq C.length n=true):RV P kn L (.cell p ty) (.agg C.toArray)
inductive KI (P:Program) (kn:Kn) (L:List aA):List ResultVar→List Value→Prop
 | nil:KI P kn L [] []
 | cons {r v rs vs} (h:RV P kn L r v) (hs:KI P kn L rs vs):KI P kn L (r::rs) (v::vs)
theorem RV.run {a:Act} {ds:List Deferred} (ha:Has N ds kn a) (hs:aB W0 w L) {r:ResultVar} {v:Value} (h:RV P kn L r v):(PA a.tmps r).run P w=.ok v w:=by
 cases h with
 | tmp h=>simp [PA,Array.getD_eq_getD_getElem?,ha.slot h]
 | cell1 h hp h1 hc =>
  have hrd:=(hs.bk hp).rd 0;rw [zT] at hc;rw [show (_:Array Value)[0]?=some v by simpa using hc] at hrd;simp only [PA,Array.getD_eq_getD_getElem?,ha.slot h,Option.getD_some,asAddr,Sem.run_bind,Sem.run_pure,Result.andThen_ok,loadVar,h1 w,Bool.false_eq_true,if_false,run_load,hrd]
 | fV h hp h1 hc =>
  rename_i p ty b t C R n;have hl:C.length=n:=Nat.eq_of_beq_eq_true hc;have hr:(loadCells ⟨b,0,none⟩ n).run P w=.ok C.toArray w:=by
   rw [← hl]; refine gL fun j hj=>?_;rw [dI,(hs.bk hp).rd]; simp
  simp only [PA,Array.getD_eq_getD_getElem?,ha.slot h,Option.getD_some,asAddr,Sem.run_bind,Sem.run_pure,Result.andThen_ok,loadVar,(h1 w).1,(h1 w).2,if_true,hr]
theorem KI.run {a:Act} {ds:List Deferred} (ha:Has N ds kn a) (hs:aB W0 w L):∀ {rs:List ResultVar} {vs:List Value},KI P kn L rs vs→(rs.mapM (PA a.tmps)).run P w=.ok vs w
 | [],vs,h=>by cases h; rfl
 | r::rs,vs,h=>by
  cases h with
  | cons h1 h2 =>
   have h3:=KI.run ha hs h2;have h4:=h1.run ha hs;simp only [List.mapM_cons,Sem.run_bind,Sem.run_pure,Result.andThen_ok,h3,h4]
theorem GE.aPw {fn:Func} {Rr:Ending→World→Prop} {rs:List ResultVar} {vs:List Value} (hr:fn.results.toList=rs) (hv:KI P kn L rs vs) (h1:Nat.beq vs.length 1=false) (h:∀ w,aB W0 w L→Rr (.returned (.tuple vs.toArray)) w):GE W0 N [] .ret (bodyPost P fn Rr) kn L:=by
 intro a w ha hs;refine ⟨ha.defers,.tuple vs.toArray,?_,h w hs⟩;have h7:=KI.run (P:=P) ha hs hv;rw [← hr] at h7;have h9:¬ vs.toArray.size=1:=by intro e; rw [show vs.length=1 by simpa using e] at h1; simp at h1
 rw [iK,Sem.run_bind,Array.mapM_eq_mapM_toList,Sem.run_map,h7];simp only [Result.andThen_ok,dif_neg h9,Sem.run_pure]
theorem GE.tO {fn:Func} {Rr:Ending→World→Prop} {rv:ResultVar} {v:Value} (hr:fn.results.toList=[rv]) (hv:RV P kn L rv v) (h:∀ w,aB W0 w L→Rr (.returned v) w):GE W0 N [] .ret (bodyPost P fn Rr) kn L:=by
 intro a w ha hs;refine ⟨ha.defers,v,?_,h w hs⟩;have h7:=KI.run (P:=P) ha hs (KI.cons hv .nil);rw [← hr] at h7;rw [iK,Sem.run_bind,Array.mapM_eq_mapM_toList,Sem.run_map,h7];simp
@[irreducible] def Rw (e size:Nat) (v:Value) (n:Nat) (xs:List Value):aA:=Row e size v n xs
theorem aB.rw {e size n:Nat} {v:Value} {xs:List Value} (h:aB W0 W L) (p:Pick L (Rw e size v n xs) R):W.ownsRow 0 e size v n xs:=by
 have:=h.pick p;unfold Rw at this;exact this.row
theorem aB.TV {e size n:Nat} {v:Value} {xs:List Value} (h:aB W0 W L) (p:Pick L (Rw e size v n xs) R):xs.length=n * size:=(h.rw p).1
theorem aB.dV {e size n c:Nat} {a:Option Addr} {xs:List Value} (h:aB W0 W L) (p:Pick L (Rw e size (.slice a n c) n xs) R) (hn:0 < n):∃ g,a=some ⟨g,0,none⟩:=by
 obtain ⟨a',cap,e,hf⟩:=iJ (h.rw p);injection e with e1 e2 e3;obtain ⟨g,hg,_⟩:=hf hn;exact ⟨g,e1.trans hg⟩
theorem aB.TW {e size n:Nat} {v:Value} {xs:List Value} (h:aB W0 W L) (p:Pick L (Rw e size v n xs) R):∃ a c,v=.slice a n c:=by
 obtain ⟨a,c,e,_⟩:=iJ (h.rw p);exact ⟨a,c,e⟩
theorem pQ {e size n c g k:Nat} {xs:List Value} {u:Value} (h:W.ownsRow 0 e size (.slice (some ⟨g,0,none⟩) n c) n xs) (hu:xs[k]?=some u):W.cell? ⟨g,k,none⟩=some u:=by
 have:=h.cells (g:=g) rfl k u hu;rw [dI,Nat.zero_add] at this;exact this
abbrev SL:=SLt
theorem SL.run {T e size:Nat} (h:SL P T e size) (w:World):(sizeOf e).run P w=.ok size w:=by
 cases hi:P.info? e with
 | none=>have:=h.2; simp [hi] at this
 | some i=>have:=h.2; rw [hi] at this; simp at this; simp [sizeOf,typeInfo,hi,this]
theorem BS.sl {T e size:Nat} {z:List Value} (h:BS P T e size z):SL P T e size:=by
 refine ⟨h.1,?_⟩;cases hi:P.info? e with
 | none=>have:=h.2.1; simp [hi] at this
 | some i=>have:=h.2.1; rw [hi] at this; simp at this; simp [this.1]
theorem EX.indexAddr {d g T x i ty ps af a n c k m e s} (hx:ev kn x=some (.slice (some ⟨b,o,none⟩) n c)) (hi:ev kn i=some (.int k m)) (hT:SL P T e s) (hb:0≤m∧m < (n:Int)) (ha:o + m.toNat * s=a) :
  EX P W0 kn L ⟨d,.indexAddr T x i,ty,ps,af,g⟩ (.pointer (some ⟨b,a,none⟩)):=fun ρ w he hs=>by
 subst ha;simp only [execOp,he x _ hx,he i _ hi,Instr.indexAt,asIntOf,underlying,Sem.run_bind,Sem.run_pure,run_program,Result.andThen_ok,hT.1,Sem.run_ite,hb,and_self,if_true,hT.run w,dI]
abbrev AR:=ARt
theorem EX.cE {d g T x i ty ps af a n k m s} (hx:ev kn x=some (.pointer (some ⟨b,o,none⟩))) (hi:ev kn i=some (.int k m)) (hT:AR P T n s) (hb:0≤m∧m < (n:Int)) (ha:o + m.toNat * s=a) :
  EX P W0 kn L ⟨d,.indexAddr T x i,ty,ps,af,g⟩ (.pointer (some ⟨b,a,none⟩)):=fun ρ w he hs=>by
 subst ha;obtain ⟨e,h1,h2⟩:=hT;have hsz:(sizeOf e).run P w=.ok s w:=by
  cases hi:P.info? e with
  | none=>simp [hi] at h2
  | some i=>rw [hi] at h2; simp at h2; simp [sizeOf,typeInfo,hi,h2]
 simp only [execOp,he x _ hx,he i _ hi,Instr.indexAt,asIntOf,underlying,Sem.run_bind,Sem.run_pure,run_program,Result.andThen_ok,h1,Instr.sureAddr,Sem.run_ite,hb,and_self,if_true,hsz,dI]
theorem EX.aD0 {d g t' x ty ps af v e size n c k xs} (hx:ev kn x=some (.pointer (some ⟨b,k,none⟩))) (p:Pick L (Rw e size (.slice (some ⟨b,0,none⟩) n c) n xs) R) (hc:xs[k]?=some v) (h1:One P t'):EX P W0 kn L ⟨d,.load t' x,ty,ps,af,g⟩ v:=fun ρ w he hs=>by
 have hrd:=pQ (hs.rw p) hc;simp only [execOp,he x _ hx,Sem.run_bind,Instr.loadAt,Instr.sureAddr,loadVar,h1 w,Result.andThen_ok,Sem.run_pure,Bool.false_eq_true,if_false,run_load,hrd]
theorem EX.P3 {d g t' x ty ps af e size n c k xs m} {cs:List Value} (hx:ev kn x=some (.pointer (some ⟨b,k,none⟩))) (p:Pick L (Rw e size (.slice (some ⟨b,0,none⟩) n c) n xs) R) (h1:Many P t' m) (hl:cs.length=m) (hc:∀ j,j < m→xs[k + j]?=cs[j]?) :
  EX P W0 kn L ⟨d,.load t' x,ty,ps,af,g⟩ (.agg cs.toArray):=fun ρ w he hs=>by
 have hr:(loadCells ⟨b,k,none⟩ m).run P w=.ok cs.toArray w:=by
  rw [← hl]; refine gL fun j hj=>?_;rw [dI,← hc j (by omega)];have hj':j < m:=by omega
  have:cs[j]?=some cs[j]:=List.getElem?_eq_getElem hj;rw [hc j hj',this];exact pQ (hs.rw p) ((hc j hj').trans this)
 simp only [execOp,he x _ hx,Sem.run_bind,Instr.loadAt,Instr.sureAddr,loadVar,(h1 w).1,(h1 w).2,Result.andThen_ok,Sem.run_pure,if_true,hr]
theorem aB.uC {e s n:Nat} (h:aB W0 W (Bk b e C::L)) (hl:C.length=n * s) (hn:n≤maxLen):aB W0 W (Rw e s (.slice (some ⟨b,0,none⟩) n n) n C::L):=by
 obtain ⟨hb,A,h1,h2,h3⟩:=h;unfold Bk at h1;unfold Rw;refine ⟨hb,A,⟨⟨hl,.inr ⟨b,n,C.toArray,rfl,Nat.zero_le _,h1.1,Nat.le_refl _,hn,by simpa using hl,by rw [← hl]; simp⟩⟩,fun x=>?_⟩,h2,h3⟩;rw [h1.2 x];simp [Value.ownBlock,eq_comm]
theorem aB.eP (e s:Nat) (h:aB W0 W L):aB W0 W (Rw e s (.slice none 0 0) 0 []::L):=by
 unfold Rw;exact h.more (Below.refl _ _) (A:=fun _=>False) ⟨⟨by simp,.inl ⟨rfl,rfl⟩⟩,fun x=>⟨fun h=>h.elim,fun e=>by simp [Value.ownBlock] at e⟩⟩ (fun b h=>h.elim)
end
end
section
def ph (s:Nat) (listed:Array Bool):Nat:=bif listed.getD s false then 1 else 0
section
variable (P:Program) (ops:Array Oper) (C:Nat→World→Prop) (s:Nat)
def HM (Q:Exit→Act→World→Prop):Nat→Array Bool→Act→World→Prop
 | 0,listed,a,w=>Region.ready .any ops listed=[]∧Q .normal a w
 | fuel + 1,listed,a,w=>(Region.ready .any ops listed=[]→Q .normal a w) ∧
  ∀ i∈Region.ready .any ops listed,wpOp P ops (fun _ _ _=>False) i (fun a' w'=>C (ph s (listed.setIfInBounds i true)) w'∧HM Q fuel (listed.setIfInBounds i true) a' w') a w
end
section
variable {P:Program} {ops:Array Oper} {C:Nat→World→Prop} {s:Nat} {Q:Exit→Act→World→Prop}
theorem HQ {o:Oper} {a:Act} {w:World} {K K':Act→World→Prop} (h:∀ a w,K a w→K' a w) (hh:o.wp P a w K (fun _ _ _=>False)):o.wp P a w K' Q:=by
 unfold Oper.wp at *;generalize (execOp a.eval o).run P w=r at *;cases r with
 | ok n w' =>
  cases n <;> simp only [Oper.upon] at hh ⊢
  case value v=>exact h _ _ hh
  case skip=>exact h _ _ hh
  case defer d=>exact h _ _ hh
  case enter f args =>
   refine hh.mono fun e w'' he=>?_;cases e with
   | returned v=>exact h _ _ he
   | panicked ch=>exact he.elim
   | outgrown=>obtain ⟨_,_,h⟩:=he; exact h.elim
  case row r args=>exact hh.mono fun v w'' hv=>h _ _ hv
 | halt x w' =>
  cases x <;> simp only [Oper.upon] at hh
theorem vE {i:Nat} {a:Act} {w:World} {K K':Act→World→Prop} (h:∀ a w,K a w→K' a w) (hh:wpOp P ops (fun _ _ _=>False) i K a w):wpOp P ops Q i K' a w:=by
 unfold wpOp at *;split
 ·rename_i ho; simp only [ho] at hh; exact h _ _ hh
 rename_i o ho;simp only [ho] at hh;split
 ·rename_i hw;rw [if_pos hw] at hh;rcases hh with hh | ⟨_,_,_,hh⟩
  ·exact .inl (HQ h hh)
  exact hh.elim
 rename_i hw; rw [if_neg hw] at hh; exact h _ _ hh
theorem TC {oj:Oper} {d:Option Tmp} {v:Value} (hd:∀ e,d=some e→oj.dst≠some e) {a:Act} {K:Act→World→Prop} {r:Result Next} :
  oj.upon P (a.put d v) K (fun _ _ _=>False) r→oj.upon P a (fun a' w'=>K (a'.put d v) w') (fun _ _ _=>False) r:=by
 intro h;have hc:∀ u,(a.put d v).put oj.dst u=(a.put oj.dst u).put d v:=fun u=>Act.put_comm a v u hd;cases r with
 | ok n w' =>
  cases n <;> simp only [Oper.upon] at h ⊢
  case value u=>rw [← hc]; exact h
  case skip=>rw [← hc]; exact h
  case defer dd =>
   rw [Act.put_defers,Act.put_comm _ v undef hd] at h;exact h
  case enter f args =>
   refine Calls.mono h fun e w'' he=>?_;cases e with
   | returned u=>simp only at he ⊢; rw [← hc]; exact he
   | panicked ch=>exact he
   | outgrown=>exact he
  case row r args=>exact Rows.mono h fun u w'' hu=>by rw [← hc]; exact hu
 | halt x w'=>cases x <;> simp only [Oper.upon] at h
theorem tG:∀ (fuel:Nat) (listed:Array Bool) (a:Act) (w:World),HM P ops C s Q fuel listed a w→wpAny P .any ops Q fuel listed a w
 | 0,_,_,_,h=>h
 | fuel + 1,listed,a,w,h=>⟨h.1,fun i hi=>vE (fun a' w' h'=>tG fuel _ _ _ h'.2) (h.2 i hi)⟩
def xX (P:Program) (ops:Array Oper) (C:Nat→World→Prop) (ok:Nat→Bool) (o:Oper) (v:Value) (a:Act):Prop :=
 (Region.wanted o (yielded ops a.tmps)=true∧∀ p,ok p=true→∀ w,C p w→(execOp a.eval o).run P w=.ok (.value v) w)∨(Region.wanted o (yielded ops a.tmps)=false∧v=undef)
variable {ok:Nat→Bool}
theorem xX.of_same {o:Oper} {v:Value} {a a':Act} (hy:xX P ops C ok o v a) (he:execOp a'.eval o=execOp a.eval o) (hw:Region.wanted o (yielded ops a'.tmps)=Region.wanted o (yielded ops a.tmps)):xX P ops C ok o v a':=by
 unfold xX at *; rw [he,hw]; exact hy
theorem xX.op {i:Nat} {o:Oper} {v:Value} {a:Act} {w:World} {p:Nat} (hi:ops[i]?=some o) (hy:xX P ops C ok o v a) (hp:ok p=true) (hC:C p w) {K:Act→World→Prop} (h:K (a.put o.dst v) w):wpOp P ops Q i K a w:=by
 unfold wpOp;simp only [hi];rcases hy with ⟨hw,hv⟩ | ⟨hw,rfl⟩
 ·rw [if_pos hw]; refine .inl ?_; simp only [Oper.wp,hv p hp w hC,Oper.upon]; exact h
 rw [if_neg (by rw [hw]; simp)]; exact h
theorem wpOp_put {j:Nat} {oi oj:Oper} {v:Value} (hj:ops[j]?=some oj) (hap:oi.apart ops oj=true) (hsi:∀ cs b,oi.op≠.select cs b) (hsj:∀ cs b,oj.op≠.select cs b) {K:Act→World→Prop} {a:Act} {w:World}
  (hy:xX P ops C ok oi v a) (h:wpOp P ops (fun _ _ _=>False) j K (a.put oi.dst v) w):wpOp P ops (fun _ _ _=>False) j (fun a' w'=>xX P ops C ok oi v a'∧K (a'.put oi.dst v) w') a w:=by
 obtain ⟨h1,h2,h3⟩:=Oper.apart_spec hap;have keep:∀ (a:Act),xX P ops C ok oi v a→∀ u,xX P ops C ok oi v (a.put oj.dst u):=fun a hy u=>hy.of_same (execOp_put oi hsi a oj.dst u h3) (wanted_put oi a oj.dst u h3);have keepD:∀ (a:Act) (ds:List Deferred),xX P ops C ok oi v a→xX P ops C ok oi v { a with defers:=ds }:=fun a ds hy=>hy.of_same rfl rfl;unfold wpOp at h ⊢;simp only [hj] at h ⊢;rw [wanted_put oj a oi.dst v h1] at h;split
 ·rename_i hw;rw [if_pos hw] at h;rcases h with h | ⟨_,_,_,hh⟩
  ·refine .inl ?_;unfold Oper.wp at h ⊢;rw [execOp_put oj hsj a oi.dst v h1] at h;have h4:=TC (P:=P) h2 h;generalize (execOp a.eval oj).run P w=r at h4;cases r with
   | ok n w' =>
    cases n <;> simp only [Oper.upon] at h4 ⊢
    case value u=>exact ⟨keep a hy u,h4⟩
    case skip=>exact ⟨keep a hy _,h4⟩
    case defer dd=>exact ⟨keep _ (keepD a _ hy) _,h4⟩
    case enter f args =>
     refine Calls.mono h4 fun e w'' he=>?_;cases e with
     | returned u=>exact ⟨keep a hy u,he⟩
     | panicked ch=>exact he
     | outgrown=>obtain ⟨_,_,hh⟩:=he; exact hh.elim
    case row r args=>exact Rows.mono h4 fun u w'' hu=>⟨keep a hy u,hu⟩
   | halt x w'=>cases x <;> simp only [Oper.upon] at h4
  ·exact hh.elim
 rename_i hw;rw [if_neg hw] at h;exact ⟨keep a hy _,by rw [← Act.put_comm a v undef h2]; exact h⟩
theorem HH {i:Nat} {a:Act} {w:World} {K K':Act→World→Prop} (h:∀ a w,K a w→K' a w) (hh:wpOp P ops (fun _ _ _=>False) i K a w):wpOp P ops (fun _ _ _=>False) i K' a w:=vE h hh
def Closed (ops:Array Oper) (listed:Array Bool):Prop:=∀ j oj,ops[j]?=some oj→listed.getD j false=true→∀ e∈oj.after,Region.binds .any e=true→listed.getD e.on false=true
theorem Closed.set {listed:Array Bool} {j:Nat} (h:Closed ops listed) (hj:j∈Region.ready .any ops listed):Closed ops (listed.setIfInBounds j true):=by
 intro k ok hk hl e he hb;obtain ⟨_,oj,hoj,hall⟩:=mem_ready.1 hj
 by_cases c:k=j
 ·subst c;obtain rfl:oj=ok:=by rw [hoj] at hk; exact Option.some.inj hk
  exact getD_set_true (hall e he hb)
 rw [getD_set_ne false (Ne.symm c)] at hl;exact getD_set_true (h k ok hk hl e he hb)
theorem HL {i:Nat} {oi:Oper} {v:Value} (hi:ops[i]?=some oi) (hsel:∀ (j:Nat) (o:Oper) cs b,ops[j]?=some o→o.op≠.select cs b) (his:i≠s)
  (hok:ok 0=true) (JM:ok 1=true∨∃ os e,ops[s]?=some os∧e∈os.after∧Region.binds .any e=true∧e.on=i) :
  ∀ (fuel:Nat) (listed:Array Bool) (a:Act) (w:World),
   (∀ j oj,ops[j]?=some oj→j≠i→listed.getD j true=false→(∀ e∈oj.after,Region.binds .any e=true→e.on≠i)→oi.apart ops oj=true) →
   i∈Region.ready .any ops listed→Closed ops listed→C (ph s listed) w→xX P ops C ok oi v a →
   HM P ops C s Q fuel (listed.setIfInBounds i true) (a.put oi.dst v) w→HM P ops C s Q (fuel + 1) listed a w:=by
 have JL:∀ listed:Array Bool,ph s (listed.setIfInBounds i true)=ph s listed:=fun listed=>by unfold ph; rw [getD_set_ne false his]
 have YM:∀ listed:Array Bool,listed.getD i true=false→Closed ops listed→ok (ph s listed)=true:=by
  intro listed hl hc;unfold ph;cases hs:listed.getD s false with
  | false=>exact hok
  | true =>
   rcases JM with h | ⟨os,e,ho,he,hb,hon⟩
   ·exact h
   have:=hc s os ho hs e he hb;rw [hon] at this;rcases Nat.lt_or_ge i listed.size with h' | h'
   ·simp [h'] at hl this; rw [hl] at this; cases this
   simp [Array.getElem?_eq_none h'] at this
 intro fuel;induction fuel with
 | zero =>
  intro listed a w _ hr hcl hC hy H;have hun:listed.getD i true=false:=(mem_ready.1 hr).1;refine ⟨fun h=>(by rw [h] at hr; cases hr),fun j hj=>?_⟩
  by_cases hji:j=i
  ·subst hji; exact hy.op hi (YM _ hun hcl) hC ⟨by rw [JL]; exact hC,H⟩
  have:=ready_mono hj hji;rw [H.1] at this;cases this
 | succ fuel ih =>
  intro listed a w hfree hr hcl hC hy H;have hun:listed.getD i true=false:=(mem_ready.1 hr).1;refine ⟨fun h=>(by rw [h] at hr; cases hr),fun j hj=>?_⟩
  by_cases hji:j=i
  ·subst hji; exact hy.op hi (YM _ hun hcl) hC ⟨by rw [JL]; exact hC,H⟩
  have h1:=H.2 j (ready_mono hj hji);obtain ⟨hjun,oj,hoj,hall⟩:=mem_ready.1 hj;have hnot:∀ e∈oj.after,Region.binds .any e=true→e.on≠i:=fun e he hb heq=>by
   have h1:=hall e he hb;rw [heq] at h1;rcases Nat.lt_or_ge i listed.size with h' | h'
   ·simp [h'] at hun h1; rw [hun] at h1; cases h1
   simp [Array.getElem?_eq_none h'] at h1
  have h2:=wpOp_put hoj (hfree j oj hoj hji hjun hnot) (fun cs b=>hsel i oi cs b hi) (fun cs b=>hsel j oj cs b hoj) hy h1;have hfree':∀ k ok,ops[k]?=some ok→k≠i→(listed.setIfInBounds j true).getD k true=false →
    (∀ e∈ok.after,Region.binds .any e=true→e.on≠i)→oi.apart ops ok=true:=fun k ok hk hki hun hno=>by
   refine hfree k ok hk hki ?_ hno
   by_cases hjk:j=k
   ·subst hjk; exact hjun
   rw [getD_set_ne true hjk] at hun; exact hun
  refine HH (fun a' w' h3=>?_) h2;obtain ⟨h4,h5,h6⟩:=h3;have hij:i≠j:=fun e=>hji e.symm;rw [Array.setIfInBounds_comm _ _ hij] at h5 h6;rw [JL] at h5;exact ⟨h5,ih (listed.setIfInBounds j true) a' w' hfree' (ready_mono hr (Ne.symm hji)) (hcl.set hj) h5 h4 h6⟩
end
def Cls (W0:World) (F F1:List aA) (p:Nat) (w:World):Prop:=∃ X,aB W0 w ((match p with | 0=>F | _=>F1)++X)
section
variable (P:Program) (W0:World) (N:Nat) (ds:List Deferred) (ops:Array Oper) (F F1:List aA) (s:Nat) (Q:Exit→Act→World→Prop)
def GD (fuel:Nat) (listed:Array Bool) (kn:Kn) (L:List aA):Prop :=
 ∀ a w,Has N ds kn a→aB W0 w L→Closed ops listed→Cls W0 F F1 (ph s listed) w→HM P ops (Cls W0 F F1) s Q fuel listed a w
def QD (fuel:Nat) (listed:Array Bool):Exit→Act→World→Prop
 | .normal,a,w=>Closed ops listed→Cls W0 F F1 (ph s listed) w∧HM P ops (Cls W0 F F1) s Q fuel listed a w
 | _,_,_=>False
end
section
variable {P:Program} {W0:World} {N:Nat} {ds:List Deferred} {ops:Array Oper} {F F1:List aA} {s:Nat} {Q:Exit→Act→World→Prop} {fuel:Nat} {listed:Array Bool} {kn:Kn} {L X:List aA}
theorem GC.draw {id:Nat} (F F1 X:List aA) (s n:Nat) (hn:ops.size=n) (hm:P.follows .mixedOrders=true) (hL:L.Perm (F++X)) (h:GD P W0 N ds ops F F1 s Q n (Array.replicate n false) kn L):GC P W0 N ds (.region id ops true) Q kn L:=by
 subst hn;intro a w ha hs;refine wp_region_any hm ?_;have hs':aB W0 { w with drawn:=w.drawn + 1 } L:=hs.drew;have hno:∀ k,(Array.replicate ops.size false).getD k false=false:=fun k=>by
  rcases Nat.lt_or_ge k ops.size with h | h
  ·simp [h]
  simp [Array.getElem?_eq_none (show (Array.replicate ops.size false).size≤k by simpa using h)]
 have hp:ph s (Array.replicate ops.size false)=0:=by unfold ph; rw [hno]; rfl
 refine tG _ _ _ _ (h _ _ ha hs' (fun j oj hj hl=>by rw [hno] at hl; cases hl) ?_);rw [hp];exact ⟨X,hs'.perm hL⟩
def dQ (ops:Array Oper) (s:Nat) (listed:Array Bool) (i:Nat):Bool :=
 !(Nat.beq i s) && (Region.ready .any ops listed).contains i && Region.free .any ops listed i && Region.noSelect ops
def oW (ops:Array Oper) (s i:Nat):Bool:=match ops[s]? with
 | some os=>os.after.any fun e=>Region.binds .any e && Nat.beq e.on i
 | none=>false
theorem GD.first {i:Nat} {o:Oper} {v:Value} {d:Nat} (ok:Nat→Bool) (hok:ok 0=true) (hB:dQ ops s listed i=true) (he:ok 1=true∨oW ops s i=true) (hi:ops[i]?=some o) (hd:o.dst=some d) (hN:Nat.blt d N=true) (hy:∀ a,Has N ds kn a→xX P ops (Cls W0 F F1) ok o v a)
  (h:GD P W0 N ds ops F F1 s Q fuel (listed.setIfInBounds i true) ((d,v)::kn) L):GD P W0 N ds ops F F1 s Q (fuel + 1) listed kn L:=by
 intro a w ha hs hcl hC;simp only [dQ,Bool.and_eq_true,Bool.not_eq_true'] at hB;obtain ⟨⟨⟨h1,h2⟩,h3⟩,h4⟩:=hB;have h1':i≠s:=fun e=>by subst e; simp at h1
 have hr:i∈Region.ready .any ops listed:=by simpa using h2
 refine HL (ok:=ok) hi (Region.noSelect_spec h4) h1' hok ?_ _ _ _ _ (Region.free_spec hi h3) hr hcl hC (hy a ha) ?_
 ·refine he.imp id fun h=>?_;unfold oW at h;split at h
  ·rename_i os ho;obtain ⟨e,he1,he2⟩:∃ e,e∈os.after∧(Region.binds .any e && Nat.beq e.on i)=true:=by
    rw [← Array.any_toList,List.any_eq_true] at h;obtain ⟨e,h1,h2⟩:=h;exact ⟨e,by simpa using h1,h2⟩
   simp only [Bool.and_eq_true] at he2;exact ⟨os,e,ho,he1,he2.1,Nat.eq_of_beq_eq_true he2.2⟩
  cases h
 rw [hd];refine h _ _ (ha.put d v hN) hs (hcl.set hr) ?_;have:ph s (listed.setIfInBounds i true)=ph s listed:=by unfold ph; rw [getD_set_ne false h1']
 rw [this]; exact hC
theorem GD.val {i:Nat} {o:Oper} {v:Value} {d:Nat} (hB:dQ ops s listed i=true) (he:oW ops s i=true∨∀ p w,Cls W0 F F1 p w→Cls W0 F F1 0 w) (hi:ops[i]?=some o) (hx:∀ X,EX P W0 kn (F++X) o v) (hd:o.dst=some d) (hN:Nat.blt d N=true) (hon:On ops kn o)
  (h:GD P W0 N ds ops F F1 s Q fuel (listed.setIfInBounds i true) ((d,v)::kn) L):GD P W0 N ds ops F F1 s Q (fuel + 1) listed kn L:=by
 rcases he with he | he
 ·refine GD.first (fun p=>Nat.beq p 0) rfl hB (.inr he) hi hd hN (fun a ha=>.inl ⟨hon N ds a ha,fun p hp w' ⟨X',hs'⟩=>?_⟩) h;obtain rfl:p=0:=Nat.eq_of_beq_eq_true hp;exact hx X' a.eval w' ha.ev hs'
 refine GD.first (fun p=>true) rfl hB (.inl rfl) hi hd hN (fun a ha=>.inl ⟨hon N ds a ha,fun p hp w' hc=>?_⟩) h;obtain ⟨X',hs'⟩:=he p w' hc;exact hx X' a.eval w' ha.ev hs'
theorem GD.pure {i:Nat} {o:Oper} {v:Value} {d:Nat} (hB:dQ ops s listed i=true) (hi:ops[i]?=some o) (hx:∀ L,EX P W0 kn L o v) (hd:o.dst=some d) (hN:Nat.blt d N=true) (hon:On ops kn o)
  (h:GD P W0 N ds ops F F1 s Q fuel (listed.setIfInBounds i true) ((d,v)::kn) L):GD P W0 N ds ops F F1 s Q (fuel + 1) listed kn L :=
 GD.first (fun _=>true) rfl hB (.inl rfl) hi hd hN (fun a ha=>.inl ⟨hon N ds a ha,fun p hp w' ⟨X',hs'⟩=>hx _ a.eval w' ha.ev hs'⟩) h
theorem GD.off {i:Nat} {o:Oper} {d:Nat} (hB:dQ ops s listed i=true) (hi:ops[i]?=some o) (hd:o.dst=some d) (hN:Nat.blt d N=true) (hoff:Off ops kn o)
  (h:GD P W0 N ds ops F F1 s Q fuel (listed.setIfInBounds i true) ((d,undef)::kn) L):GD P W0 N ds ops F F1 s Q (fuel + 1) listed kn L :=
 GD.first (fun _=>true) rfl hB (.inl rfl) hi hd hN (fun a ha=>.inr ⟨hoff N ds a ha,rfl⟩) h
theorem GD.gP {i:Nat} {o:Oper} (hi:ops[i]?=some o) (h:GL P W0 N ds ops (QD P W0 ops F F1 s Q fuel (listed.setIfInBounds i true)) [o] kn L) (a:Act) (w:World) (ha:Has N ds kn a) (hs:aB W0 w L) (hcl:Closed ops (listed.setIfInBounds i true)) :
  wpOp P ops (fun _ _ _=>False) i (fun a' w'=>Cls W0 F F1 (ph s (listed.setIfInBounds i true)) w'∧HM P ops (Cls W0 F F1) s Q fuel (listed.setIfInBounds i true) a' w') a w:=by
 have h1:=h a w ha hs;unfold wpOp;simp only [hi];simp only [nP] at h1;have hq:∀ (a:Act) (w:World),¬ QD P W0 ops F F1 s Q fuel (listed.setIfInBounds i true) .outgrown a w:=fun _ _ h=>h;split
 ·rename_i hw;rw [if_pos hw] at h1;rcases h1 with h1 | ⟨_,_,_,hh⟩
  ·refine .inl ?_;unfold Oper.wp at h1 ⊢;generalize (execOp a.eval o).run P w=r at h1 ⊢;cases r with
   | ok n w' =>
    cases n <;> simp only [Oper.upon] at h1 ⊢
    case value u=>exact h1 hcl
    case skip=>exact h1 hcl
    case defer dd=>exact h1 hcl
    case enter f args =>
     refine Calls.mono h1 fun e w'' he=>?_;cases e with
     | returned u=>exact he hcl
     | panicked ch=>exact he
     | outgrown=>obtain ⟨_,_,hh⟩:=he; exact hh.elim
    case row r args=>exact Rows.mono h1 fun _ _ hh=>hh hcl
   | halt x w' =>
    cases x <;> simp only [Oper.upon] at h1;exact h1.elim
  exact hh.elim
 rename_i hw;rw [if_neg hw] at h1;exact h1 hcl
theorem GD.act (i:Nat) {o:Oper} (hr:Region.ready .any ops listed=[i]) (hi:ops[i]?=some o) (h:GL P W0 N ds ops (QD P W0 ops F F1 s Q fuel (listed.setIfInBounds i true)) [o] kn L):GD P W0 N ds ops F F1 s Q (fuel + 1) listed kn L:=by
 intro a w ha hs hcl hC;refine ⟨fun e=>(by rw [hr] at e; cases e),fun j hj=>?_⟩;have hj':=hj;rw [hr] at hj;obtain rfl:j=i:=by simpa using hj
 exact GD.gP hi h a w ha hs (hcl.set hj')
theorem GD.xS (i j:Nat) {o o':Oper} (hr:Region.ready .any ops listed=[i,j]) (hi:ops[i]?=some o) (hj:ops[j]?=some o') (h:GL P W0 N ds ops (QD P W0 ops F F1 s Q fuel (listed.setIfInBounds i true)) [o] kn L)
  (h':GL P W0 N ds ops (QD P W0 ops F F1 s Q fuel (listed.setIfInBounds j true)) [o'] kn L):GD P W0 N ds ops F F1 s Q (fuel + 1) listed kn L:=by
 intro a w ha hs hcl hC;refine ⟨fun e=>(by rw [hr] at e; cases e),fun k hk=>?_⟩;have hk':=hk;rw [hr] at hk;rcases (by simpa using hk:k=i∨k=j) with rfl | rfl
 ·exact GD.gP hi h a w ha hs (hcl.set hk')
 exact GD.gP hj h' a w ha hs (hcl.set hk')
theorem GD.aS7 (i j l:Nat) {o o' o'':Oper} (hr:Region.ready .any ops listed=[i,j,l]) (hi:ops[i]?=some o) (hj:ops[j]?=some o') (hl:ops[l]?=some o'') (h:GL P W0 N ds ops (QD P W0 ops F F1 s Q fuel (listed.setIfInBounds i true)) [o] kn L)
  (h':GL P W0 N ds ops (QD P W0 ops F F1 s Q fuel (listed.setIfInBounds j true)) [o'] kn L) (h'':GL P W0 N ds ops (QD P W0 ops F F1 s Q fuel (listed.setIfInBounds l true)) [o''] kn L):GD P W0 N ds ops F F1 s Q (fuel + 1) listed kn L:=by
 intro a w ha hs hcl hC;refine ⟨fun e=>(by rw [hr] at e; cases e),fun k hk=>?_⟩;have hk':=hk;rw [hr] at hk;rcases (by simpa using hk:k=i∨k=j∨k=l) with rfl | rfl | rfl
 ·exact GD.gP hi h a w ha hs (hcl.set hk')
 ·exact GD.gP hj h' a w ha hs (hcl.set hk')
 exact GD.gP hl h'' a w ha hs (hcl.set hk')
theorem GD.done (hr:Region.ready .any ops listed=[]) (h:GE W0 N ds .normal Q kn L):GD P W0 N ds ops F F1 s Q fuel listed kn L:=by
 intro a w ha hs hcl hC;cases fuel with
 | zero=>exact ⟨hr,h a w ha hs⟩
 | succ n=>exact ⟨fun _=>h a w ha hs,fun i hi=>by rw [hr] at hi; cases hi⟩
end
end
section
structure cX {α:Type} (enc:α→Value) (aD:List (α × Value)) (es:Array MapEntry) (ck:Nat):Prop where
 kv:es.toList.map (fun e=>(e.key,e.val))=aD.map (fun p=>(enc p.1,p.2))
 nodup:(es.toList.map (·.born)).Nodup
 born:∀ e∈es.toList,e.born < ck
@[irreducible] def Mp {α:Type} (enc:α→Value) (b:Nat) (aD:List (α × Value)):aA where
 is W F:=(∃ es ck,W.heap[b]?=some (.map es ck)∧cX enc aD es ck)∧∀ x,F x↔x=b
 lt W F h x hx:=by
  rw [(h.2 x).1 hx];obtain ⟨⟨es,ck,hb,_⟩,_⟩:=h;rcases Nat.lt_or_ge b W.heap.size with h2 | h2
  ·exact h2
  rw [Array.getElem?_eq_none h2] at hb; cases hb
 keep W W' F h e:=⟨by obtain ⟨⟨es,ck,hb,h2⟩,h3⟩:=h; exact ⟨es,ck,(e b ((h3 b).2 rfl)).trans hb,h2⟩,h.2⟩
structure dX {α:Type} [DecidableEq α] (P:Program) (K:TypeId) (enc:α→Value):Prop where
 eq:∀ a b w,(Op.equal K (enc a) (enc b)).run P w=.ok (decide (a=b)) w
 check:∀ a e w,(Instr.checkKey e 10000 K (enc a)).run P w=.ok () w
 now:∃ kd,P.underlying K=some kd∧((∀ a b,Instr.sameNow kd (enc a) (enc b)=some (decide (a=b)))∨(∀ a b,Instr.sameNow kd (enc a) (enc b)=none))
 bits:∀ a,Instr.sameBits 10000 (enc a) (enc a)=true
def look {α:Type} [DecidableEq α] (aD:List (α × Value)) (a:α):Option Value:=(aD.find? (fun p=>decide (a=p.1))).map (·.2)
def aM {α:Type} [DecidableEq α] (a:α):List (α × Value)→Nat→Option (Nat × Value)
 | [],_=>none
 | p::r,i=>if a=p.1 then some (i,p.2) else aM a r (i + 1)
theorem fD {α:Type} [DecidableEq α] (a:α):∀ (aD:List (α × Value)) (i:Nat),(aM a aD i).map (·.2)=look aD a
 | [],i=>rfl
 | p::r,i=>by
  have:=fD a r (i + 1);simp only [aM,look,List.find?_cons] at this ⊢
  by_cases h:a=p.1 <;> simp [h] at this ⊢
  exact this
def cG {α:Type} [DecidableEq α] (a:α) (v:Value):List (α × Value)→List (α × Value)
 | []=>[(a,v)]
 | p::r=>if a=p.1 then (a,v)::r else p::cG a v r
section
variable {α:Type} [DecidableEq α] {P:Program} {K:TypeId} {enc:α→Value} {W0 W w:World} {L L' R:List aA} {kn:Kn} {b:Nat} {aD:List (α × Value)}
theorem lR (law:dX P K enc) (a:α) (w:World):∀ (es:List MapEntry) (aD:List (α × Value)) (i:Nat),es.map (fun e=>(e.key,e.val))=aD.map (fun p=>(enc p.1,p.2))→(Instr.findAsking K (enc a) es i).run P w=.ok (aM a aD i) w
 | [],aD,i,h=>by
  cases aD with
  | nil=>rfl
  | cons p r=>simp at h
 | e::es,aD,i,h=>by
  cases aD with
  | nil=>simp at h
  | cons p r =>
   simp only [List.map_cons,List.cons.injEq,Prod.mk.injEq] at h;obtain ⟨⟨h1,h2⟩,h3⟩:=h;simp only [Instr.findAsking,Sem.run_bind,h1,law.eq a p.1 w,Result.andThen_ok]
   by_cases e:a=p.1
   ·simp [e,aM,h2]
   simp only [decide_eq_false e,Bool.false_eq_true,if_false,aM,if_neg e];exact lR law a w es r (i + 1) h3
theorem qL {kd:TypeDesc} (hn:∀ a b:α,Instr.sameNow kd (enc a) (enc b)=some (decide (a=b))) (a:α):∀ (es:List MapEntry) (aD:List (α × Value)) (i:Nat),es.map (fun e=>(e.key,e.val))=aD.map (fun p=>(enc p.1,p.2))→Instr.findNow kd (enc a) es i=some (aM a aD i)
 | [],aD,i,h=>by
  cases aD with
  | nil=>rfl
  | cons p r=>simp at h
 | e::es,aD,i,h=>by
  cases aD with
  | nil=>simp at h
  | cons p r =>
   simp only [List.map_cons,List.cons.injEq,Prod.mk.injEq] at h;obtain ⟨⟨h1,h2⟩,h3⟩:=h;simp only [Instr.findNow,h1,hn a p.1]
   by_cases e:a=p.1
   ·simp [e,aM,h2]
   simp only [decide_eq_false e,aM,if_neg e];exact qL hn a es r (i + 1) h3
theorem run_findKey (law:dX P K enc) (a:α) (w:World) {es:List MapEntry} {aD:List (α × Value)} (h:es.map (fun e=>(e.key,e.val))=aD.map (fun p=>(enc p.1,p.2))):(Instr.findKey K (enc a) es).run P w=.ok (aM a aD 0) w:=by
 obtain ⟨kd,hk,hn | hn⟩:=law.now
 ·simp only [Instr.findKey,underlying,Sem.run_bind,run_program,Result.andThen_ok,hk,Sem.run_pure,qL hn a es aD 0 h]
 cases es with
 | nil =>
  cases aD with
  | nil=>simp only [Instr.findKey,underlying,Sem.run_bind,run_program,Result.andThen_ok,hk,Sem.run_pure,Instr.findNow,aM]
  | cons p r=>simp at h
 | cons e es =>
  have h1:Instr.findNow kd (enc a) (e::es) 0=none:=by
   cases aD with
   | nil=>simp at h
   | cons p r =>
    simp only [List.map_cons,List.cons.injEq,Prod.mk.injEq] at h;simp only [Instr.findNow,h.1.1,hn a p.1]
  simp only [Instr.findKey,underlying,Sem.run_bind,run_program,Result.andThen_ok,hk,Sem.run_pure,h1];exact lR law a w (e::es) aD 0 h
theorem aB.mp (h:aB W0 W L) (p:Pick L (Mp enc b aD) R):∃ es ck,W.heap[b]?=some (.map es ck)∧cX enc aD es ck:=by
 obtain ⟨F,hF⟩:=(h.pick p).fact;unfold Mp at hF;exact hF.1
theorem cH {es:Array MapEntry} {ck:Nat} (h:w.heap[b]?=some (.map es ck)):(getObj b).run P w=.ok (.map es ck) w:=by
 simp only [getObj,Sem.run,h]
def ZV (P:Program) (t:TypeId) (z:Value):Prop:=(P.info? t).map (·.zero)=some (some z)
theorem ZV.run {t:TypeId} {z:Value} (h:ZV P t z) (w:World):(zeroValue t).run P w=.ok z w:=by
 unfold ZV at h;cases hi:P.info? t with
 | none=>simp [hi] at h
 | some i=>rw [hi] at h; simp at h; simp [zeroValue,typeInfo,hi,h]
def fT (z:Value) (o:Option Value):Value:=match o with
 | some v=>v
 | none=>z
theorem oA (law:dX P K enc) {T E:TypeId} (hT:P.underlying T=some (.map K E)) {z:Value} (hz:ZV P E z) {es:Array MapEntry} {ck:Nat} (hb:w.heap[b]?=some (.map es ck)) (he:cX enc aD es ck) (a:α) (ok:Bool) :
  (Instr.lookup T (.map (some b)) (enc a) ok).run P w=.ok (if ok then .tuple #[fT z (look aD a),.bool (look aD a).isSome] else fT z (look aD a)) w:=by
 have h1:=run_findKey law a w he.kv;have h2:=fD a aD 0;simp only [Instr.lookup,underlying,Sem.run_bind,run_program,Result.andThen_ok,hT,Sem.run_pure,cH hb,law.check a _ w,h1];cases h3:aM a aD 0 with
 | none=>rw [h3] at h2; simp at h2; simp [← h2,hz.run w,fT]
 | some q=>obtain ⟨i,v⟩:=q; rw [h3] at h2; simp at h2; simp [← h2,fT]
theorem EX.lookup {d g T E x y ty ps af a z} (hx:ev kn x=some (.map (some b))) (hy:ev kn y=some (enc a)) (p:Pick L (Mp enc b aD) R) (law:dX P K enc) (hT:P.underlying T=some (.map K E)) (hz:ZV P E z) :
  EX P W0 kn L ⟨d,.lookup T x y false,ty,ps,af,g⟩ (fT z (look aD a)):=fun ρ w he hs=>by
 obtain ⟨es,ck,hb,hen⟩:=hs.mp p;simp only [execOp,he x _ hx,he y _ hy,Sem.run_bind,oA law hT hz hb hen a false,Result.andThen_ok]; rfl
theorem EX.ES {d g T E x y ty ps af a z} (hx:ev kn x=some (.map (some b))) (hy:ev kn y=some (enc a)) (p:Pick L (Mp enc b aD) R) (law:dX P K enc) (hT:P.underlying T=some (.map K E)) (hz:ZV P E z) :
  EX P W0 kn L ⟨d,.lookup T x y true,ty,ps,af,g⟩ (.tuple #[fT z (look aD a),.bool (look aD a).isSome]):=fun ρ w he hs=>by
 obtain ⟨es,ck,hb,hen⟩:=hs.mp p;simp only [execOp,he x _ hx,he y _ hy,Sem.run_bind,oA law hT hz hb hen a true,Result.andThen_ok]; rfl
theorem EX.aIz {d g ty ps af T E x} (hx:ev kn x=some (.map (some b))) (p:Pick L (Mp enc b aD) R) (hT:P.underlying T=some (.map K E)):EX P W0 kn L ⟨d,.call { callee:=.builtin .len,args:=#[x],argTypes:=#[T] },ty,ps,af,g⟩ (.int .i64 aD.length):=fun ρ w he hs=>by
 obtain ⟨es,ck,hb,hen⟩:=hs.mp p;have hl:es.size=aD.length:=by have:=congrArg List.length hen.kv; simpa using this
 simp [execOp,resolve,invoke,builtin,Builtin.len_,underlying,hT,he x _ hx,goInt,cH hb,hl]
theorem aB.aIn (enc:α→Value) (h:aB W0 W L):aB W0 (W.alloc (.map #[] 0)) (Mp enc W.heap.size []::L):=by
 unfold Mp;refine h.more ((Below.refl _ _).alloc (Nat.le_refl _) _) (A:=fun x=>x=W.heap.size) ⟨⟨#[],0,heap_alloc_new W _,⟨by simp,by simp,by simp⟩⟩,fun x=>Iff.rfl⟩ (fun b e=>by rw [e]; exact Nat.le_refl _)
theorem EF.makeMap (enc:α→Value) {d g T ty pos af}:EF P W0 kn L ⟨d,.makeMap T none,ty,pos,af,g⟩ (fun b:Nat=>.map (some b)) (fun b=>Mp enc b []::L) (fun _=>True):=fun ρ w he hs=>by
 refine ⟨w.heap.size,w.alloc (.map #[] 0),trivial,?_,hs.aIn enc⟩;simp only [execOp,Sem.run_bind,Option.map_none,Instr.makeMap,Sem.run_pure,Result.andThen_ok,run_newObj]; rfl
theorem aB.Y1 {fU:List (α × Value)} {es':Array MapEntry} {sX:Nat} (h:aB W0 W (Mp enc b aD::L)) (he:cX enc fU es' sX):aB W0 { W with heap:=W.heap.setIfInBounds b (.map es' sX) } (Mp enc b fU::L):=by
 obtain ⟨es,ck,hb,hen⟩:=h.mp .here;have hlt:b < W.heap.size:=by
  rcases Nat.lt_or_ge b W.heap.size with h2 | h2
  ·exact h2
  rw [Array.getElem?_eq_none h2] at hb; cases hb
 unfold Mp at *;refine h.turn (A:=fun x=>x=b) ⟨rfl,rfl,rfl⟩ (by simp) (fun F hF=>⟨⟨⟨es',sX,by simp [hlt],he⟩,fun x=>Iff.rfl⟩,fun x hx=>.inl ((hF.2 x).2 hx),fun x hx hn=>?_⟩);have hne:b≠x:=fun e=>hn ((hF.2 x).2 e.symm);simp [Array.getElem?_setIfInBounds_ne hne]
theorem dM {es:Array MapEntry} {ck:Nat} (h:w.heap[b]?=some (.map es ck)) (o:Obj):(setObj b o).run P w=.ok () { w with heap:=w.heap.setIfInBounds b o }:=by
 simp only [setObj,Sem.run,h]
theorem fE {a:α}:∀ {aD:List (α × Value)} {i j:Nat} {v:Value},aM a aD i=some (j,v)→i≤j∧j - i < aD.length∧(aD[j - i]?).map (·.1)=some a
 | [],i,j,v,h=>by simp [aM] at h
 | p::r,i,j,v,h=>by
  simp only [aM] at h
  by_cases e:a=p.1
  ·rw [if_pos e] at h; simp at h; obtain ⟨rfl,rfl⟩:=h; simp [e]
  rw [if_neg e] at h;obtain ⟨h1,h2,h3⟩:=fE h;have:j - i=(j - (i + 1)) + 1:=by omega
  exact ⟨by omega,by simp; omega,by rw [this]; simpa using h3⟩
theorem eD {a:α} {v:Value}:∀ {aD:List (α × Value)} {i:Nat},aM a aD i=none→cG a v aD=aD++[(a,v)]
 | [],i,h=>rfl
 | p::r,i,h=>by
  simp only [aM] at h
  by_cases e:a=p.1
  ·rw [if_pos e] at h; simp at h
  rw [if_neg e] at h; simp only [cG,if_neg e,eD h,List.cons_append]
theorem rH {a:α} {v u:Value}:∀ {aD:List (α × Value)} {i j:Nat},aM a aD i=some (j,u)→cG a v aD=aD.set (j - i) (a,v)
 | [],i,j,h=>by simp [aM] at h
 | p::r,i,j,h=>by
  simp only [aM] at h
  by_cases e:a=p.1
  ·rw [if_pos e] at h; simp at h; obtain ⟨rfl,rfl⟩:=h; simp [cG,e]
  rw [if_neg e] at h;have hg:=fE h;rw [show j - i=(j - (i + 1)) + 1 by omega];simp only [cG,if_neg e,rH h,List.set_cons_succ]
theorem oO {es:Array MapEntry} (i:Nat) (f:MapEntry→MapEntry):(es.modify i f).toList=es.toList.modify i f:=by simp
theorem cX.set {es:Array MapEntry} {ck:Nat} (h:cX enc aD es ck) {a:α} {i:Nat} {u:Value} (hl:aM a aD 0=some (i,u)) (v:Value):cX enc (cG a v aD) (es.modify i fun e=>{ e with key:=enc a,val:=v }) ck:=by
 obtain ⟨h1,h2,h3⟩:=fE hl;simp only [Nat.sub_zero] at h2 h3;refine ⟨?_,?_,?_⟩
 ·rw [rH hl,Nat.sub_zero,oO];have hk:=h.kv;apply List.ext_getElem?;intro j;have hj:=congrArg (fun l=>l[j]?) hk;simp only [List.getElem?_map] at hj;simp only [List.getElem?_map,List.getElem?_modify,List.getElem?_set]
  by_cases e:i=j
  ·subst e;simp only [if_true,h2];rw [List.getElem?_eq_getElem (by have:=congrArg List.length hk; simp at this; simpa [this] using h2)];simp
  simp only [if_neg e];rw [← hj];cases es.toList[j]? <;> simp
 ·rw [oO];rw [show (es.toList.modify i fun e=>{ e with key:=enc a,val:=v }).map (·.born)=es.toList.map (·.born) from by
   apply List.ext_getElem?; intro j; simp only [List.getElem?_map,List.getElem?_modify]; cases es.toList[j]? <;> by_cases e:i=j <;> simp [e]]
  exact h.nodup
 intro e he;rw [oO] at he;obtain ⟨j,hj⟩:=List.getElem?_of_mem he;rw [List.getElem?_modify] at hj;cases hq:es.toList[j]? with
 | none=>simp [hq] at hj
 | some e0 =>
  have:=h.born e0 (List.mem_of_getElem? hq);simp only [hq,Option.map_eq_map,Option.map_some,Option.some.injEq] at hj
  by_cases c:i=j
  ·rw [if_pos c] at hj; rw [← hj]; exact this
  rw [if_neg c] at hj; rw [← hj]; exact this
theorem cX.push {es:Array MapEntry} {ck:Nat} (h:cX enc aD es ck) {a:α} (hl:aM a aD 0=none) (v:Value):cX enc (cG a v aD) (es.push { key:=enc a,val:=v,born:=ck }) (ck + 1):=by
 refine ⟨?_,?_,?_⟩
 ·rw [eD hl]; simp [h.kv]
 ·simp only [Array.toList_push,List.map_append,List.map_cons,List.map_nil];refine List.nodup_append.2 ⟨h.nodup,by simp,?_⟩;intro x hx y hy;simp at hy; subst hy;obtain ⟨e,he,rfl⟩:=List.mem_map.1 hx;exact Nat.ne_of_lt (h.born e he)
 intro e he;simp only [Array.toList_push,List.mem_append,List.mem_singleton] at he;rcases he with he | rfl
 ·exact Nat.lt_succ_of_lt (h.born e he)
 exact Nat.lt_succ_self _
theorem yB (law:dX P K enc) {T E:TypeId} (hT:P.underlying T=some (.map K E)) {es:Array MapEntry} {ck:Nat} (hb:w.heap[b]?=some (.map es ck)) (hen:cX enc aD es ck) (a:α) (v:Value) :
  ∃ es' sX,(Instr.mapUpdate T (.map (some b)) (enc a) v).run P w=.ok () { w with heap:=w.heap.setIfInBounds b (.map es' sX) }∧cX enc (cG a v aD) es' sX:=by
 have h1:=run_findKey law a w hen.kv;cases h3:aM a aD 0 with
 | none =>
  refine ⟨es.push { key:=enc a,val:=v,born:=ck },ck + 1,?_,hen.push h3 v⟩;simp only [Instr.mapUpdate,underlying,Sem.run_bind,run_program,Result.andThen_ok,hT,Sem.run_pure,cH hb,law.check a _ w,h1,h3,dM hb]
 | some q =>
  obtain ⟨i,u⟩:=q;refine ⟨es.modify i fun e=>{ e with key:=enc a,val:=v },ck,?_,hen.set h3 v⟩;obtain ⟨g1,g2,g3⟩:=fE h3;simp only [Nat.sub_zero] at g2 g3;have hk:((es[i]?).map (·.key)).getD (enc a)=enc a:=by
   have hj:=congrArg (fun l=>(l[i]?).map (·.1)) hen.kv;simp only [List.getElem?_map,Option.map_map] at hj;have e1:(es[i]?).map (·.key)=(aD[i]?).map (fun p=>enc p.1):=by
    have:es[i]?=es.toList[i]?:=by simp
    rw [this];exact hj
   rw [e1];cases hq:aD[i]? with
   | none=>rfl
   | some p=>rw [hq] at g3; simp at g3; simp [g3]
  simp only [Instr.mapUpdate,underlying,Sem.run_bind,run_program,Result.andThen_ok,hT,Sem.run_pure,cH hb,law.check a _ w,h1,h3,hk,Instr.keyThatStays,law.bits a,if_true,dM hb]
theorem EU.mapUpdate {d g T E x y z ty ps af a v} (hx:ev kn x=some (.map (some b))) (hy:ev kn y=some (enc a)) (hz:ev kn z=some v) (p:Swap L (Mp enc b aD) (Mp enc b (cG a v aD)) L') (law:dX P K enc) (hT:P.underlying T=some (.map K E)) :
  EU P W0 kn L ⟨d,.mapUpdate T x y z,ty,ps,af,g⟩ L':=fun ρ w he hs=>by
 obtain ⟨R,p1,p2⟩:=p.perm;have hs2:=hs.perm p1;obtain ⟨es,ck,hb,hen⟩:=hs2.mp .here;obtain ⟨es',sX,hr,he'⟩:=yB (w:=w) law hT hb hen a v;refine ⟨_,?_,(hs2.Y1 he').perm p2⟩;simp only [execOp,he x _ hx,he y _ hy,he z _ hz,Sem.run_bind,hr,Result.andThen_ok]; rfl
end
end
section
class eJ (L:List aA) (b:Nat) (t:outParam TypeId) (C:outParam (List Value)):Prop where
 ex:∃ R,Pick L (Bk b t C) R
instance (priority:=high) eJ.here {b t C L}:eJ (Bk b t C::L) b t C:=⟨_,.here⟩
instance (priority:=low) eJ.there {U b t C L} [h:eJ L b t C]:eJ (U::L) b t C:=⟨h.ex.elim fun R p=>⟨_,.there p⟩⟩
class pD (L:List aA) (b:Nat) (t:TypeId) (C C':List Value) (L':outParam (List aA)):Prop where
 sw:Swap L (Bk b t C) (Bk b t C') L'
instance (priority:=high) pD.here {b t C C' L}:pD (Bk b t C::L) b t C C' (Bk b t C'::L):=⟨.here⟩
instance (priority:=low) pD.there {U b t C C' L L'} [h:pD L b t C C' L']:pD (U::L) b t C C' (U::L'):=⟨.there h.sw⟩
class fX (L:List aA) (b:Nat) {α:outParam Type} (enc:outParam (α→Value)) (aD:outParam (List (α × Value))):Prop where
 ex:∃ R,Pick L (Mp enc b aD) R
instance (priority:=high) fX.here {α:Type} {enc:α→Value} {b aD L}:fX (Mp enc b aD::L) b enc aD:=⟨_,.here⟩
instance (priority:=low) fX.there {α:Type} {enc:α→Value} {U b aD L} [h:fX L b enc aD]:fX (U::L) b enc aD:=⟨h.ex.elim fun R p=>⟨_,.there p⟩⟩
instance (priority:=high) fX.MP {α:Type} {enc:α→Value} {b aD F X}:fX ((Mp enc b aD::F)++X) b enc aD:=⟨_,.here⟩
instance (priority:=low) fX.AY {α:Type} {enc:α→Value} {U b aD F X} [h:fX (F++X) b enc aD]:fX ((U::F)++X) b enc aD:=⟨h.ex.elim fun R p=>⟨_,.there p⟩⟩
instance (priority:=high) fX.N9 {α:Type} {enc:α→Value} {b aD X} [h:fX X b enc aD]:fX ([]++X) b enc aD:=⟨h.ex⟩
class SE {α:Type} (L:List aA) (enc:α→Value) (b:Nat) (aD fU:List (α × Value)) (L':outParam (List aA)):Prop where
 sw:Swap L (Mp enc b aD) (Mp enc b fU) L'
instance (priority:=high) SE.here {α:Type} {enc:α→Value} {b aD fU L}:SE (Mp enc b aD::L) enc b aD fU (Mp enc b fU::L):=⟨.here⟩
instance (priority:=low) SE.there {α:Type} {enc:α→Value} {U b aD fU L L'} [h:SE L enc b aD fU L']:SE (U::L) enc b aD fU (U::L'):=⟨.there h.sw⟩
class iS (L:List aA) (g:Nat) (e size n c:outParam Nat) (xs:outParam (List Value)):Prop where
 ex:∃ R,Pick L (Rw e size (.slice (some ⟨g,0,none⟩) n c) n xs) R
instance (priority:=high) iS.here {g e size n c xs L}:iS (Rw e size (.slice (some ⟨g,0,none⟩) n c) n xs::L) g e size n c xs:=⟨_,.here⟩
instance (priority:=low) iS.there {U g e size n c xs L} [h:iS L g e size n c xs]:iS (U::L) g e size n c xs:=⟨h.ex.elim fun R p=>⟨_,.there p⟩⟩
instance (priority:=high) eJ.MP {b t C F X}:eJ ((Bk b t C::F)++X) b t C:=⟨_,.here⟩
instance (priority:=low) eJ.AY {U b t C F X} [h:eJ (F++X) b t C]:eJ ((U::F)++X) b t C:=⟨h.ex.elim fun R p=>⟨_,.there p⟩⟩
instance (priority:=high) eJ.N9 {b t C X} [h:eJ X b t C]:eJ ([]++X) b t C:=⟨h.ex⟩
instance (priority:=high) pD.MP {b t C C' F X}:pD ((Bk b t C::F)++X) b t C C' (Bk b t C'::(F++X)):=⟨.here⟩
instance (priority:=low) pD.AY {U b t C C' F X L'} [h:pD (F++X) b t C C' L']:pD ((U::F)++X) b t C C' (U::L'):=⟨.there h.sw⟩
instance (priority:=high) pD.N9 {b t C C' X L'} [h:pD X b t C C' L']:pD ([]++X) b t C C' L':=⟨h.sw⟩
instance (priority:=high) iS.MP {g e size n c xs F X}:iS ((Rw e size (.slice (some ⟨g,0,none⟩) n c) n xs::F)++X) g e size n c xs:=⟨_,.here⟩
instance (priority:=low) iS.AY {U g e size n c xs F X} [h:iS (F++X) g e size n c xs]:iS ((U::F)++X) g e size n c xs:=⟨h.ex.elim fun R p=>⟨_,.there p⟩⟩
instance (priority:=high) iS.N9 {g e size n c xs X} [h:iS X g e size n c xs]:iS ([]++X) g e size n c xs:=⟨h.ex⟩
inductive App:List aA→List aA→List aA→Prop
 | a0 {R}:App [] R R
 | a1 {T R}:App [T] R (T::R)
 | a2 {T U R}:App [T,U] R (T::U::R)
 | a3 {T U V R}:App [T,U,V] R (T::U::V::R)
 | a4 {T U V X R}:App [T,U,V,X] R (T::U::V::X::R)
 | c {T M R L} (h:App M R L):App (T::M) R (T::L)
theorem App.eq {M R L:List aA} (h:App M R L):L=M++R:=by
 induction h with
 | c _ ih=>rw [ih]; rfl
 | _=>rfl
inductive Split:List aA→List aA→List aA→Prop
 | e {R}:Split R [] R
 | t {T L F X} (h:Split L F X):Split (T::L) (T::F) X
 | f {T L F X} (h:Split L F X):Split (T::L) F (T::X)
theorem Split.perm {L F X:List aA} (h:Split L F X):L.Perm (F++X):=by
 induction h with
 | e=>exact List.Perm.refl _
 | t _ ih=>exact List.Perm.cons _ ih
 | f _ ih=>exact (List.Perm.cons _ ih).trans List.perm_middle.symm
section
variable {L R M:List aA} {T U V X Y Z A B:aA}
theorem Pick.p0:Pick (T::L) T L:=.here
theorem Pick.p1:Pick (U::T::L) T (U::L):=.there .here
theorem Pick.p2:Pick (V::U::T::L) T (V::U::L):=.there (.there .here)
theorem Pick.p3:Pick (X::V::U::T::L) T (X::V::U::L):=.there (.there (.there .here))
theorem eC.one (p:Pick L T R):eC L [T] R:=.cons p .nil
end
section
variable {P:Program} {W0:World} {N:Nat} {ds:List Deferred} {ops:Array Oper} {Q:Exit→Act→World→Prop} {kn cZ:Kn} {L L' L'' M R:List aA} {r:List Oper} {b o:Nat} {t:TypeId} {C C':List Value} {fuel:Nat} {listed:Array Bool} {F X:List aA} {fr:Nat→Bool}
theorem EX.ld {d g t' x ty ps af v} (hx:ev kn x=some (.pointer (some ⟨b,o,none⟩))) [p:eJ L b t C] (hc:lc C o=some v) (h1:One P t'):EX P W0 kn L ⟨d,.load t' x,ty,ps,af,g⟩ v:=p.ex.elim fun R p=>EX.load hx p hc h1
theorem EX.EZ {d g t' x ty ps af n cs} (hx:ev kn x=some (.pointer (some ⟨b,o,none⟩))) [p:eJ L b t C] (h1:Many P t' n) (hc:lN C o n=some cs):EX P W0 kn L ⟨d,.load t' x,ty,ps,af,g⟩ (.agg cs.toArray):=p.ex.elim fun R p=>EX.aAb hx p h1 hc
theorem EX.tU {d g t' x ty ps af v e size n c k xs} (hx:ev kn x=some (.pointer (some ⟨b,k,none⟩))) [p:iS L b e size n c xs] (hc:xs[k]?=some v) (h1:One P t'):EX P W0 kn L ⟨d,.load t' x,ty,ps,af,g⟩ v:=p.ex.elim fun R p=>EX.aD0 hx p hc h1
theorem EX.rW {d g t' x ty ps af e size n c k xs m} {cs:List Value} (hx:ev kn x=some (.pointer (some ⟨b,k,none⟩))) [p:iS L b e size n c xs] (h1:Many P t' m) (hl:cs.length=m) (hc:∀ j,j < m→xs[k + j]?=cs[j]?) :
  EX P W0 kn L ⟨d,.load t' x,ty,ps,af,g⟩ (.agg cs.toArray):=p.ex.elim fun R p=>EX.P3 hx p h1 hl hc
theorem EU.st {d g T x y ty pos af v n} (hx:ev kn x=some (.pointer (some ⟨b,o,none⟩))) (hy:ev kn y=some v) (hs1:SZ P T n) (hn:Nat.beq (vc v).length n=true) (ho:ones (vc v)=true) [p:eJ L b t C] (hC:gV C o (vc v)=some C')
  [q:pD L b t C C' L']:EU P W0 kn L ⟨d,.store T x y,ty,pos,af,g⟩ L':=EU.store hx hy hs1 hn ho hC q.sw
theorem Off.undef {o:Oper} {j d:Nat} {want:Bool} (h:o.guard=some (j,want)) {oj:Oper} (hj:ops[j]?=some oj) (hd:oj.dst=some d) (hb:lk kn d=some Go.undef):Off ops kn o:=by
 intro N ds a ha;have:yielded ops a.tmps j=none:=by simp [yielded,hj,hd,ha.slot hb,Go.undef]
 simp [Region.wanted,h,this]
theorem EX.lk {α:Type} [DecidableEq α] {enc:α→Value} {aD:List (α × Value)} {K:TypeId} {d g T E x y ty ps af a z} (hx:ev kn x=some (.map (some b))) [p:fX L b enc aD] (hy:ev kn y=some (enc a)) (law:dX P K enc) (hT:P.underlying T=some (.map K E)) (hz:ZV P E z) :
  EX P W0 kn L ⟨d,.lookup T x y false,ty,ps,af,g⟩ (fT z (look aD a)):=p.ex.elim fun R p=>EX.lookup hx hy p law hT hz
theorem EX.QI {α:Type} [DecidableEq α] {enc:α→Value} {aD:List (α × Value)} {K:TypeId} {d g T E x y ty ps af a z} (hx:ev kn x=some (.map (some b))) [p:fX L b enc aD] (hy:ev kn y=some (enc a)) (law:dX P K enc) (hT:P.underlying T=some (.map K E)) (hz:ZV P E z) :
  EX P W0 kn L ⟨d,.lookup T x y true,ty,ps,af,g⟩ (.tuple #[fT z (look aD a),.bool (look aD a).isSome]):=p.ex.elim fun R p=>EX.ES hx hy p law hT hz
theorem EU.mu {α:Type} [DecidableEq α] {enc:α→Value} {aD:List (α × Value)} {K:TypeId} {d g T E x y z ty ps af a v} (hx:ev kn x=some (.map (some b))) [p:fX L b enc aD] (hy:ev kn y=some (enc a)) (hz:ev kn z=some v) [q:SE L enc b aD (cG a v aD) L'] (law:dX P K enc) (hT:P.underlying T=some (.map K E)) :
  EU P W0 kn L ⟨d,.mapUpdate T x y z,ty,ps,af,g⟩ L':=EU.mapUpdate hx hy hz q.sw law hT
theorem L.v {o:Oper} {v:Value} {d:Nat} (hx:EX P W0 kn L o v) (hd:o.dst=some d) (hN:Nat.blt d N=true) (hg:o.guard=none) (h:GL P W0 N ds ops Q r ((d,v)::kn) L):GL P W0 N ds ops Q (o::r) kn L:=GL.val hx hd hN (.free hg) h
theorem L.f {α:Type} {o:Oper} {v:α→Value} {T:α→List aA} {C:α→Prop} {d:Nat} (hx:EF P W0 kn L o v T C) (hd:o.dst=some d) (hN:Nat.blt d N=true) (hg:o.guard=none) (h:∀ x,C x→GL P W0 N ds ops Q r ((d,v x)::kn) (T x)):GL P W0 N ds ops Q (o::r) kn L :=
 GL.nB hx hd hN (.free hg) h
theorem L.u {o:Oper} {T:List aA} (hx:EU P W0 kn L o T) (hd:o.dst=none) (hg:o.guard=none) (h:GL P W0 N ds ops Q r kn T):GL P W0 N ds ops Q (o::r) kn L:=GL.do hx hd (.free hg) h
theorem GL.case (d:Nat) {b:Bool} (hb:lk kn d=some (.bool b)) (ht:b=true→GL P W0 N ds ops Q r kn L) (hf:b=false→GL P W0 N ds ops Q r kn L):GL P W0 N ds ops Q r kn L:=by
 cases b with
 | true=>exact ht rfl
 | false=>exact hf rfl
theorem GD.case (d:Nat) {b:Bool} {F1:List aA} {s:Nat} (hb:lk kn d=some (.bool b)) (ht:b=true→GD P W0 N ds ops F F1 s Q fuel listed kn L) (hf:b=false→GD P W0 N ds ops F F1 s Q fuel listed kn L):GD P W0 N ds ops F F1 s Q fuel listed kn L:=by
 cases b with
 | true=>exact ht rfl
 | false=>exact hf rfl
inductive Sub (kn:Kn):Kn→Prop
 | n:Sub kn []
 | c {d v cZ} (h:lk kn d=some v) (r:Sub kn cZ):Sub kn ((d,v)::cZ)
theorem Sub.all {kn cZ:Kn} (h:Sub kn cZ):∀ p∈cZ,lk kn p.1=some p.2:=by
 induction h with
 | n=>intro p hp; exact (List.not_mem_nil hp).elim
 | c h _ ih =>
  intro p hp;rcases List.mem_cons.1 hp with rfl | hp
  ·exact h
  exact ih p hp
theorem GC.lp {σ:Type} {c:Code} (k:σ→Kn) (T:σ→List aA) (C:σ→Prop) (m:σ→Nat) (s0:σ) (hk:Sub kn (k s0)) (hL:Part L (T s0)) (hc:C s0)
  (h:∀ s,C s→GC P W0 N ds c (Exit.then (fun a w=>∃ s',(m s' < m s∧C s')∧Has N ds (k s') a∧aB W0 w (T s')) Q) (k s) (T s)):GC P W0 N ds (.loop c) Q kn L:=by
 refine GC.loop (σ:={s // C s}) (fun s=>k s.1) (fun s=>T s.1) (fun s=>m s.1) ⟨s0,hc⟩ (fun s a w ha hs=>?_) hk.all hL;refine wp_mono (h s.1 s.2 a w ha hs) ?_;intro e a' w' hq;cases e with
 | normal=>obtain ⟨s',⟨h1,h2⟩,h3,h4⟩:=hq; exact ⟨⟨s',h2⟩,h1,h3,h4⟩
 | _=>exact hq
theorem GE.ag {σ:Type} {k:σ→Kn} {T:σ→List aA} {C:σ→Prop} {m:σ→Nat} {s:σ} (s':σ) (hk:Sub kn (k s')) (hL:Part L (T s')) (hm:m s' < m s) (hc:C s') :
  GE W0 N ds .normal (Exit.then (fun a w=>∃ s',(m s' < m s∧C s')∧Has N ds (k s') a∧aB W0 w (T s')) Q) kn L:=fun a w ha hs=>⟨s',⟨hm,hc⟩,ha.sub hk.all,hs.part hL⟩
theorem GC.ls {c:Code} (hk:Sub kn cZ) (hL:Part L L') (h:GC P W0 N ds c Q cZ L'):GC P W0 N ds c Q kn L:=GC.less h hk.all hL
theorem GC.join {σ:Type} {x y:Code} (k:σ→Kn) (T:σ→List aA) (C:σ→Prop) (hy:∀ s,C s→GC P W0 N ds y Q (k s) (T s)) (hx:GC P W0 N ds x (Exit.then (fun a w=>∃ s,C s∧Has N ds (k s) a∧aB W0 w (T s)) Q) kn L):GC P W0 N ds (.seq x y) Q kn L:=by
 intro a w ha hs;refine wp_seq (wp_mono (hx a w ha hs) ?_);intro e a' w' hq;cases e with
 | normal=>obtain ⟨s,hc,ha',hs'⟩:=hq; exact hy s hc a' w' ha' hs'
 | _=>exact hq
theorem GE.jn {σ:Type} {k:σ→Kn} {T:σ→List aA} {C:σ→Prop} (s:σ) (hk:Sub kn (k s)) (hL:Part L (T s)) (hc:C s):GE W0 N ds .normal (Exit.then (fun a w=>∃ s,C s∧Has N ds (k s) a∧aB W0 w (T s)) Q) kn L :=
 fun a w ha hs=>⟨s,hc,ha.sub hk.all,hs.part hL⟩
theorem GE.ON {next:Act→World→Prop} {i:Nat} (h:GE W0 N ds (.goto i) Q kn L):GE W0 N ds (.goto i) (Exit.then next Q) kn L:=h
theorem GE.KC {i j:Nat} (h:GE W0 N ds (.goto i) Q kn L):GE W0 N ds (.goto i) (Exit.inBlock j Q) kn L:=h
theorem GC.label {i:Nat} (h:GE W0 N ds .normal Q kn L):GC P W0 N ds (.label i) Q kn L:=fun a w ha hs=>wp_label (h a w ha hs)
theorem GC.goto {i:Nat} (h:GE W0 N ds (.goto i) Q kn L):GC P W0 N ds (.goto i) Q kn L:=fun a w ha hs=>wp_goto (h a w ha hs)
theorem GC.scope {σ:Type} {c rest:Code} (l:Nat) (k:σ→Kn) (T:σ→List aA) (C:σ→Prop) (hf:findLabel c l=some rest)
  (hr:∀ s,C s→GC P W0 N ds rest (Exit.jump l (fun _ _=>False) Q) (k s) (T s)) (h:GC P W0 N ds c (Exit.jump l (fun a w=>∃ s,C s∧Has N ds (k s) a∧aB W0 w (T s)) Q) kn L):GC P W0 N ds (.scope c) Q kn L:=by
 intro a w ha hs;refine wp_scope_jumps l (fun a w=>∃ s,C s∧Has N ds (k s) a∧aB W0 w (T s)) (fun _ _=>0) hf (h a w ha hs) ?_;rintro a w ⟨s,hc,ha',hs'⟩;refine wp_mono (hr s hc a w ha' hs') ?_;intro e a' w' hq;cases e with
 | goto j=>exact hq.2.elim
 | _=>exact hq
theorem GE.FG {l:Nat} {J:Act→World→Prop} (h:GE W0 N ds .normal Q kn L):GE W0 N ds .normal (Exit.jump l J Q) kn L:=h
theorem GE.XT {l:Nat} {J:Act→World→Prop} (h:GE W0 N ds .ret Q kn L):GE W0 N ds .ret (Exit.jump l J Q) kn L:=h
theorem GE.JC {l:Nat} {J:Act→World→Prop} {ch:List PanicEntry} (h:GE W0 N ds (.panic ch) Q kn L):GE W0 N ds (.panic ch) (Exit.jump l J Q) kn L:=h
theorem GE.QR {σ:Type} {l:Nat} {k:σ→Kn} {T:σ→List aA} {C:σ→Prop} (s:σ) (hk:Sub kn (k s)) (hL:Part L (T s)) (hc:C s):GE W0 N ds (.goto l) (Exit.jump l (fun a w=>∃ s,C s∧Has N ds (k s) a∧aB W0 w (T s)) Q) kn L :=
 fun a w ha hs=>⟨rfl,s,hc,ha.sub hk.all,hs.part hL⟩
theorem GC.ex {σ:Type} {c:Code} {T:σ→List aA} (hL:∀ w,aB W0 w L→∃ s,aB W0 w (T s)) (h:∀ s,GC P W0 N ds c Q kn (T s)):GC P W0 N ds c Q kn L:=fun a w ha hs=>(hL w hs).elim fun s hs'=>h s a w ha hs'
theorem GL.ex {σ:Type} {T:σ→List aA} (hL:∀ w,aB W0 w L→∃ s,aB W0 w (T s)) (h:∀ s,GL P W0 N ds ops Q r kn (T s)):GL P W0 N ds ops Q r kn L:=fun a w ha hs=>(hL w hs).elim fun s hs'=>h s a w ha hs'
theorem K.c {o:Oper} {f:FuncId} {args:List Value} {M':List aA} {v:Value} {d:Nat} (hx:EC P kn o f args) (hc:tD P f args.toArray M v M') (hp:eC L M R) (ha:App M' R L'') (hd:o.dst=some d) (hN:Nat.blt d N=true) (hon:On ops kn o)
  (h:GL P W0 N ds ops Q r ((d,v)::kn) L''):GL P W0 N ds ops Q (o::r) kn L:=GL.call hx hc hp hd hN hon (ha.eq ▸ h)
theorem K.x {α:Type} {o:Oper} {f:FuncId} {args:List Value} {v:α→Value} {M':α→List aA} {C:α→Prop} {L3:α→List aA} {d:Nat} (hx:EC P kn o f args) (hc:bQ P f args M v M' C) (hp:eC L M R) (ha:∀ x,App (M' x) R (L3 x)) (hd:o.dst=some d)
  (hN:Nat.blt d N=true) (hon:On ops kn o) (h:∀ x,C x→GL P W0 N ds ops Q r ((d,v x)::kn) (L3 x)):GL P W0 N ds ops Q (o::r) kn L:=GL.aAr hx hc hp hd hN hon (fun x hcx=>(ha x).eq ▸ h x hcx)
theorem K.x0 {α:Type} {o:Oper} {f:FuncId} {args:List Value} {v:α→Value} {M':α→List aA} {C:α→Prop} {L3:α→List aA} (hx:EC P kn o f args) (hc:bQ P f args M v M' C) (hp:eC L M R) (ha:∀ x,App (M' x) R (L3 x)) (hd:o.dst=none)
  (hon:On ops kn o) (h:∀ x,C x→GL P W0 N ds ops Q r kn (L3 x)):GL P W0 N ds ops Q (o::r) kn L:=GL.aFy hx hc hp hd hon (fun x hcx=>(ha x).eq ▸ h x hcx)
theorem K.p {α β:Type} {o:Oper} {f:FuncId} {args:List Value} {v:α→Value} {M':α→List aA} {C:α→Prop} {ch:β→List PanicEntry} {M'':β→List aA} {D:β→Prop} {L3:α→List aA} {L4:β→List aA} {d:Nat} (hx:EC P kn o f args)
  (hc:GT P f args M v M' C ch M'' D) (hp:eC L M R) (ha:∀ x,App (M' x) R (L3 x)) (hb:∀ y,App (M'' y) R (L4 y)) (hd:o.dst=some d) (hN:Nat.blt d N=true) (hon:On ops kn o) (h:∀ x,C x→GL P W0 N ds ops Q r ((d,v x)::kn) (L3 x))
  (h':∀ y,D y→GE W0 N ds (.panic (ch y)) Q kn (L4 y)):GL P W0 N ds ops Q (o::r) kn L:=GL.aMt hx hc hp hd hN hon (fun x hcx=>(ha x).eq ▸ h x hcx) (fun y hy=>(hb y).eq ▸ h' y hy)
theorem K.p0 {α β:Type} {o:Oper} {f:FuncId} {args:List Value} {v:α→Value} {M':α→List aA} {C:α→Prop} {ch:β→List PanicEntry} {M'':β→List aA} {D:β→Prop} {L3:α→List aA} {L4:β→List aA} (hx:EC P kn o f args)
  (hc:GT P f args M v M' C ch M'' D) (hp:eC L M R) (ha:∀ x,App (M' x) R (L3 x)) (hb:∀ y,App (M'' y) R (L4 y)) (hd:o.dst=none) (hon:On ops kn o) (h:∀ x,C x→GL P W0 N ds ops Q r kn (L3 x))
  (h':∀ y,D y→GE W0 N ds (.panic (ch y)) Q kn (L4 y)):GL P W0 N ds ops Q (o::r) kn L:=GL.aFz hx hc hp hd hon (fun x hcx=>(ha x).eq ▸ h x hcx) (fun y hy=>(hb y).eq ▸ h' y hy)
theorem GC.dr {id:Nat} (F1:List aA) (s n:Nat) (hn:ops.size=n) (hm:P.follows .mixedOrders=true) (hL:Split L F X) (h:GD P W0 N ds ops F F1 s Q n (Array.replicate n false) kn L):GC P W0 N ds (.region id ops true) Q kn L :=
 GC.draw F F1 X s n hn hm hL.perm h
theorem GC.dr1 {id:Nat} (n:Nat) (hn:ops.size=n) (hm:P.follows .mixedOrders=true) (hL:Split L F X) (h:GD P W0 N ds ops F F n Q n (Array.replicate n false) kn L):GC P W0 N ds (.region id ops true) Q kn L :=
 GC.draw F F X n n hn hm hL.perm h
theorem BM:∀ p w,Cls W0 F F p w→Cls W0 F F 0 w:=fun p w h=>by unfold Cls at *; cases p <;> exact h
theorem D.v (i:Nat) {o:Oper} {v:Value} {d n:Nat} (hB:dQ ops n listed i=true) (hi:ops[i]?=some o) (hx:∀ X,EX P W0 kn (F++X) o v) (hd:o.dst=some d) (hN:Nat.blt d N=true) (hg:o.guard=none)
  (h:GD P W0 N ds ops F F n Q fuel (listed.setIfInBounds i true) ((d,v)::kn) L):GD P W0 N ds ops F F n Q (fuel + 1) listed kn L:=GD.val hB (.inr BM) hi hx hd hN (.free hg) h
theorem D.g (i:Nat) {o:Oper} {v:Value} {d n:Nat} (hB:dQ ops n listed i=true) (hi:ops[i]?=some o) (hx:∀ X,EX P W0 kn (F++X) o v) (hd:o.dst=some d) (hN:Nat.blt d N=true) (hon:On ops kn o)
  (h:GD P W0 N ds ops F F n Q fuel (listed.setIfInBounds i true) ((d,v)::kn) L):GD P W0 N ds ops F F n Q (fuel + 1) listed kn L:=GD.val hB (.inr BM) hi hx hd hN hon h
theorem D.e (i:Nat) {o:Oper} {v:Value} {d s:Nat} {F1:List aA} (hB:dQ ops s listed i=true) (he:oW ops s i=true) (hi:ops[i]?=some o) (hx:∀ X,EX P W0 kn (F++X) o v) (hd:o.dst=some d) (hN:Nat.blt d N=true) (hg:o.guard=none)
  (h:GD P W0 N ds ops F F1 s Q fuel (listed.setIfInBounds i true) ((d,v)::kn) L):GD P W0 N ds ops F F1 s Q (fuel + 1) listed kn L:=GD.val hB (.inl he) hi hx hd hN (.free hg) h
theorem D.p (i:Nat) {o:Oper} {v:Value} {d s:Nat} {F1:List aA} (hB:dQ ops s listed i=true) (hi:ops[i]?=some o) (hx:∀ L,EX P W0 kn L o v) (hd:o.dst=some d) (hN:Nat.blt d N=true) (hg:o.guard=none)
  (h:GD P W0 N ds ops F F1 s Q fuel (listed.setIfInBounds i true) ((d,v)::kn) L):GD P W0 N ds ops F F1 s Q (fuel + 1) listed kn L:=GD.pure hB hi hx hd hN (.free hg) h
theorem D.pg (i:Nat) {o:Oper} {v:Value} {d s:Nat} {F1:List aA} (hB:dQ ops s listed i=true) (hi:ops[i]?=some o) (hx:∀ L,EX P W0 kn L o v) (hd:o.dst=some d) (hN:Nat.blt d N=true) (hon:On ops kn o)
  (h:GD P W0 N ds ops F F1 s Q fuel (listed.setIfInBounds i true) ((d,v)::kn) L):GD P W0 N ds ops F F1 s Q (fuel + 1) listed kn L:=GD.pure hB hi hx hd hN hon h
theorem D.off (i:Nat) {o:Oper} {d s:Nat} {F1:List aA} (hB:dQ ops s listed i=true) (hi:ops[i]?=some o) (hd:o.dst=some d) (hN:Nat.blt d N=true) (hoff:Off ops kn o)
  (h:GD P W0 N ds ops F F1 s Q fuel (listed.setIfInBounds i true) ((d,undef)::kn) L):GD P W0 N ds ops F F1 s Q (fuel + 1) listed kn L:=GD.off hB hi hd hN hoff h
theorem D.n {n:Nat} (hL:Part L (F++X)) (h:GD P W0 N ds ops F F n Q fuel listed kn L):GL P W0 N ds ops (QD P W0 ops F F n Q fuel listed) [] kn L :=
 fun a w ha hs hcl=>by
  have hc:Cls W0 F F (ph n listed) w:=by unfold Cls; cases ph n listed <;> exact ⟨X,hs.part hL⟩
  exact ⟨hc,h a w ha hs hcl hc⟩
theorem D.n0 {s:Nat} {F1:List aA} (hp:ph s listed=0) (hL:Part L (F++X)) (h:GD P W0 N ds ops F F1 s Q fuel listed kn L):GL P W0 N ds ops (QD P W0 ops F F1 s Q fuel listed) [] kn L :=
 fun a w ha hs hcl=>by
  have hc:Cls W0 F F1 (ph s listed) w:=by rw [hp]; exact ⟨X,hs.part hL⟩
  exact ⟨hc,h a w ha hs hcl hc⟩
theorem D.n1 {s:Nat} {F1:List aA} (hp:ph s listed=1) (hL:Part L (F1++X)) (h:GD P W0 N ds ops F F1 s Q fuel listed kn L):GL P W0 N ds ops (QD P W0 ops F F1 s Q fuel listed) [] kn L :=
 fun a w ha hs hcl=>by
  have hc:Cls W0 F F1 (ph s listed) w:=by rw [hp]; exact ⟨X,hs.part hL⟩
  exact ⟨hc,h a w ha hs hcl hc⟩
theorem Fn.go {f:FuncId} {fn:Func} {c:Code} {args:List Value} {post:Ending→(List aA→Prop)→Prop} (hf:P.funcs[f]?=some fn) (hb:fn.body=some c) (hn:fn.ntmps=N) (hN:Nat.ble args.length N=true)
  (h:∀ W0 R,GC P W0 N [] c (bodyPost P fn (fun e w'=>post e (fun T=>aB W0 w' (T++R)))) (iQ 0 args) (M++R)):Fn P f args.toArray M post:=Fn.enter hf hb hn hN h
theorem GC.app {c:Code} (ha:App M R L) (h:GC P W0 N ds c Q kn L):GC P W0 N ds c Q kn (M++R):=ha.eq ▸ h
end
end
section
theorem wi {n:Int} (h:-9223372036854775808≤n∧n≤9223372036854775807):IntKind.i64.wrap n=n:=IntWalk.i64_in n h
theorem wu {n:Int} (h:0≤n∧n≤18446744073709551615):IntKind.u64.wrap n=n:=IntWalk.u64_in n h
theorem wb {n:Int} (h:0≤n∧n≤255):IntKind.u8.wrap n=n:=IntWalk.u8_in n h
def C2 (P:Program) (T e size bytes:Nat) (z:Value):Prop:=P.underlying T=some (.slice e)∧(P.info? e).map (fun i=>(i.zero,i.size,i.bytes))=some (some z,size,bytes)∧(vc z).length=size∧0 < size
def Sl (n:Nat) (v:Value):Prop:=∃ a c,v=.slice a n c
section
variable {P:Program} {W0 W w:World} {L L' R:List aA} {kn:Kn} {b g:Nat}
theorem aB.kH {e size n m:Nat} {v v':Value} {xs ys:List Value} (h:aB W0 W (Rw e size v n xs::L)) (hown:w.ownsRow 0 e size v' m ys) (hg:W.grownBy w v.ownBlock) (hat:v'.ownBlock=v.ownBlock∨v'.ownBlock=some W.heap.size):aB W0 w (Rw e size v' m ys::L):=by
 unfold Rw at *;refine h.append hown hg (fun b hb=>?_);rcases hat with e | e
 ·exact .inl (e ▸ hb)
 rw [e] at hb; injection hb with hb; exact .inr (by omega)
theorem iR {T e size bytes:Nat} {z:Value} (hT:C2 P T e size bytes z) {v:Value} {n:Nat} {xs:List Value} (hown:W.ownsRow 0 e size v n xs) {a:Addr} {m c:Nat} {news:List Value} (hl:news.length=m * size) (hnews:∀ j u,news[j]?=some u→W.cell? (a.add j)=some u)
  (h1:∀ u∈news,u.oneCell'=true) (h63:n + m≤maxLen) (hby:(n + m) * bytes≤140737488355328) (ty:TypeId) :
  ∃ v' w',(Builtin.append_ #[T,T] ty #[v,.slice (some a) m c]).run P W=.ok v' w'∧w'.ownsRow 0 e size v' (n + m) (xs++news)∧W.grownBy w' v.ownBlock∧(v'.ownBlock=v.ownBlock∨v'.ownBlock=some W.heap.size):=by
 obtain ⟨h2,h3,h4,h5⟩:=hT;obtain ⟨i,hi,hz,hs,hb⟩:∃ i,P.info? e=some i∧i.zero=some z∧i.size=size∧i.bytes=bytes:=by
  cases hi:P.info? e with
  | none=>simp [hi] at h3
  | some i=>rw [hi] at h3; simp at h3; exact ⟨i,rfl,h3⟩
 obtain ⟨v',w',r1,r2,r3,r4,r5⟩:=run_append_own_at (P:=P) W 0 T ty e i z size bytes h2 hi hz hs hb (by rw [KQ]; simpa using h4) h5 v n xs hown a m c news hl hnews h1 h63 hby (Nat.zero_le _);exact ⟨v',w',r1,r2,r3,r5⟩
theorem EF.append {d gu x y ty pos af T e size bytes z v n xs m c t} {C:List Value} {L3:Value→List aA} (hx:ev kn x=some v) (hy:ev kn y=some (.slice (some ⟨b,0,none⟩) m c)) (hT:C2 P T e size bytes z) (p:∀ v',Swap L (Rw e size v n xs) (Rw e size v' (n + m) (xs++C)) (L3 v'))
  (q:Pick L (Bk b t C) R) (hl:C.length=m * size) (h1:ones C=true) (h63:n + m≤maxLen) (hby:(n + m) * bytes≤140737488355328) :
  EF P W0 kn L ⟨d,.call { callee:=.builtin .append,args:=#[x,y],argTypes:=#[T,T] },ty,pos,af,gu⟩ (fun v':Value=>v') L3 (Sl (n + m)):=fun ρ w he hs=>by
 obtain ⟨R',p1,p2⟩:=(p v).perm;have hs2:=hs.perm p1;have hown:=hs2.rw .here;have hat:=hs.bk q;obtain ⟨v',w',r1,r2,r3,r4⟩:=iR (P:=P) (a:=⟨b,0,none⟩) (c:=c) hT hown hl (fun j u hj=>by rw [dI,Nat.zero_add,hat.rd]; simpa using hj) (jW h1) h63 hby ty;have hs3:=hs2.kH r2 r3 r4;have hf:=iJ r2;obtain ⟨a,c',e1,_⟩:=hf;refine ⟨v',w',⟨a,c',e1⟩,?_,?_⟩
 ·simp only [execOp,resolve,invoke,builtin,Sem.run_bind,Sem.run_pure,Result.andThen_ok,List.map_toArray,List.map_cons,List.map_nil,he x _ hx,he y _ hy,r1]
 obtain ⟨R2,q1,q2⟩:=(p v').perm;have hR:(Rw e size v n xs::R').Perm (Rw e size v n xs::R2):=p1.symm.trans q1;exact (hs3.perm (List.Perm.cons _ ((List.perm_cons _).1 hR))).perm q2
theorem EF.W9 {d gu x y ty pos af T e size bytes z v n xs m c e' s'} {C:List Value} {L3:Value→List aA} (hx:ev kn x=some v) (hy:ev kn y=some (.slice (some ⟨b,0,none⟩) m c)) (hT:C2 P T e size bytes z) (p:∀ v',Swap L (Rw e size v n xs) (Rw e size v' (n + m) (xs++C)) (L3 v'))
  (q:Pick L (Rw e' s' (.slice (some ⟨b,0,none⟩) m c) m C) R) (hl:C.length=m * size) (h1:∀ u∈C,u.oneCell'=true) (h63:n + m≤maxLen) (hby:(n + m) * bytes≤140737488355328) :
  EF P W0 kn L ⟨d,.call { callee:=.builtin .append,args:=#[x,y],argTypes:=#[T,T] },ty,pos,af,gu⟩ (fun v':Value=>v') L3 (Sl (n + m)):=fun ρ w he hs=>by
 obtain ⟨R',p1,p2⟩:=(p v).perm;have hs2:=hs.perm p1;have hown:=hs2.rw .here;have hat:=hs.rw q;obtain ⟨v',w',r1,r2,r3,r4⟩:=iR (P:=P) (a:=⟨b,0,none⟩) (c:=c) hT hown hl (fun j u hj=>by rw [dI,Nat.zero_add]; exact pQ hat hj) h1 h63 hby ty;have hs3:=hs2.kH r2 r3 r4;obtain ⟨a,c',e1,_⟩:=iJ r2;refine ⟨v',w',⟨a,c',e1⟩,?_,?_⟩
 ·simp only [execOp,resolve,invoke,builtin,Sem.run_bind,Sem.run_pure,Result.andThen_ok,List.map_toArray,List.map_cons,List.map_nil,he x _ hx,he y _ hy,r1]
 obtain ⟨R2,q1,q2⟩:=(p v').perm;have hR:(Rw e size v n xs::R').Perm (Rw e size v n xs::R2):=p1.symm.trans q1;exact (hs3.perm (List.Perm.cons _ ((List.perm_cons _).1 hR))).perm q2
theorem EX.T8 {d g T ty' x y ty ps af a e} (hx:ev kn x=some (.pointer a)) (hy:ev kn y=some (.pointer none)) (hT:P.underlying T=some (.pointer e)):EX P W0 kn L ⟨d,.binOp .eql T x y ty',ty,ps,af,g⟩ (.bool a.isNone):=fun ρ w he hs=>by
 have hp:P.underlying T=some (.pointer (P.pointee T)):=by unfold Program.pointee; rw [hT]
 have h1:=run_eql_pointer_nil (P:=P) w T a hp;have h2:(eqGuard .eql T x y (.pointer a) (.pointer none)).run P w=.ok () w:=by simp [eqGuard]
 simp only [execOp,he x _ hx,he y _ hy,Sem.run_bind,h1,h2,Result.andThen_ok];cases a <;> rfl
theorem EX.WM {d g T ty' x y ty ps af a e} (hx:ev kn x=some (.pointer a)) (hy:ev kn y=some (.pointer none)) (hT:P.underlying T=some (.pointer e)):EX P W0 kn L ⟨d,.binOp .neq T x y ty',ty,ps,af,g⟩ (.bool a.isSome):=fun ρ w he hs=>by
 have hp:P.underlying T=some (.pointer (P.pointee T)):=by unfold Program.pointee; rw [hT]
 have h1:=run_neq_pointer_nil (P:=P) w T a hp;have h2:(eqGuard .neq T x y (.pointer a) (.pointer none)).run P w=.ok () w:=by simp [eqGuard]
 simp only [execOp,he x _ hx,he y _ hy,Sem.run_bind,h1,h2,Result.andThen_ok];cases a <;> rfl
theorem EX.max2 {d g ty ps af x y k m n r tys} (hx:ev kn x=some (.int k m)) (hy:ev kn y=some (.int k n)) (hr:(if n > m then n else m)=r):EX P W0 kn L ⟨d,.call { callee:=.builtin .max,args:=#[x,y],argTypes:=tys },ty,ps,af,g⟩ (.int k r):=fun ρ w he hs=>by
 subst hr; simp [execOp,resolve,invoke,builtin,Builtin.max_,Builtin.max2,he x _ hx,he y _ hy]
theorem EX.aIw {d g ty ps af x y z k m n q r tys} (hx:ev kn x=some (.int k m)) (hy:ev kn y=some (.int k n)) (hz:ev kn z=some (.int k q)) (hr:(if q > (if n > m then n else m) then q else (if n > m then n else m))=r):EX P W0 kn L ⟨d,.call { callee:=.builtin .max,args:=#[x,y,z],argTypes:=tys },ty,ps,af,g⟩ (.int k r):=fun ρ w he hs=>by
 subst hr; simp [execOp,resolve,invoke,builtin,Builtin.max_,Builtin.max2,he x _ hx,he y _ hy,he z _ hz]
theorem EX.sB {d g T x i ty ps af s k m} (hx:ev kn x=some (.string s)) (hi:ev kn i=some (.int k m)) (hT:P.underlying T=some .string) (hb:0≤m∧m.toNat < s.size):EX P W0 kn L ⟨d,.index T x i,ty,ps,af,g⟩ (.int .u8 (s[m.toNat]'hb.2).toNat):=fun ρ w he hs=>by
 simp only [execOp,he x _ hx,he i _ hi,Instr.index,asIntOf,underlying,Sem.run_bind,Sem.run_pure,run_program,Result.andThen_ok,hT,hb.1,if_true,getElem?_pos s m.toNat hb.2]
theorem EX.aEo {d g T x i ty ps af cs k m n s r} (hx:ev kn x=some (.agg cs)) (hi:ev kn i=some (.int k m)) (hT:AR P T n s) (h1:Bool) (hb:0≤m∧m < (n:Int)) (hp:∀ e w,P.underlying T=some (.array n e)→(part e cs (m.toNat * s)).run P w=.ok r w) :
  EX P W0 kn L ⟨d,.index T x i,ty,ps,af,g⟩ r:=fun ρ w he hs=>by
 obtain ⟨e,h1,h2⟩:=hT;have hsz:(sizeOf e).run P w=.ok s w:=by
  cases hi:P.info? e with
  | none=>simp [hi] at h2
  | some i=>rw [hi] at h2; simp at h2; simp [sizeOf,typeInfo,hi,h2]
 simp only [execOp,he x _ hx,he i _ hi,Instr.index,asIntOf,underlying,Sem.run_bind,Sem.run_pure,run_program,Result.andThen_ok,h1,hb,and_self,if_true,hsz,hp e w h1]
end
end
section
structure Tm where
 kind:Int
 s:ByteArray
 n:Int
 a:Int
 b:Int
 c:Int
theorem Tm.ext' {x y:Tm} (h:x.kind=y.kind∧x.s=y.s∧x.n=y.n∧x.a=y.a∧x.b=y.b∧x.c=y.c):x=y:=by
 cases x; cases y; simp only at h; obtain ⟨rfl,rfl,rfl,rfl,rfl,rfl⟩:=h; rfl
instance:DecidableEq Tm:=fun x y=>decidable_of_iff (x.kind=y.kind∧x.s=y.s∧x.n=y.n∧x.a=y.a∧x.b=y.b∧x.c=y.c) ⟨Tm.ext',fun h=>by rw [h]; exact ⟨rfl,rfl,rfl,rfl,rfl,rfl⟩⟩
def i64 (x:Int):Prop:=-9223372036854775808≤x∧x≤9223372036854775807
def u64 (x:Int):Prop:=0≤x∧x≤18446744073709551615
structure Tm.Fits (t:Tm):Prop where
 kind:i64 t.kind
 s:t.s.size≤140737488355328
 n:u64 t.n
 a:i64 t.a
 b:i64 t.b
 c:i64 t.c
def cW:Tm:=⟨0,⟨#[]⟩,0,0,0,0⟩
def Tm.parts (t:Tm):List Int :=
 if t.kind=3∨t.kind=5∨t.kind=9 then [t.a]
 else if t.kind=4∨t.kind=6∨t.kind=7∨t.kind=8∨t.kind=11 then [t.a,t.b]
 else if t.kind=10 then [t.a,t.b,t.c]
 else []
def Tm.only (t : Tm) : Tm :=
  { kind := t.kind, s := if t.kind = 1 then t.s else ⟨#[]⟩, n := if t.kind = 2 ∨ t.kind = 9 ∨ t.kind = 10 then t.n else 0,
    a := t.parts[0]?.getD 0, b := t.parts[1]?.getD 0, c := t.parts[2]?.getD 0 }
def Tm.may (l:List Tm) (t:Tm):Bool :=
 decide (1≤t.kind) && decide (t.kind < 12) && decide (t=t.only) && decide (t.s.size≤1000) && !(decide (t.kind=4) && decide (t.b < t.a)) && t.parts.all (fun p=>decide (1≤p) && decide (p≤l.length))
def bF (l:List Tm) (most:Int) (t:Tm):Int × Int × List Tm :=
 if t.may l then
  match l.findIdx? (·=t) with
  | some i=>((i:Int) + 1,0,l)
  | none=>if most≤(l.length:Int) then (0,4,l) else ((l.length:Int) + 1,0,l++[t])
 else (0,1,l)
def aO (l:List Tm) (name:Int):Tm:=if 1≤name∧name≤l.length then l.getD (name.toNat - 1) cW else cW
def eI (l:List Tm) (name:Int):Bool:=decide (1≤name) && decide (name≤l.length)
end
section
def eK (t:Tm):List Value:=[.int .i64 t.kind,.string t.s,.int .u64 t.n,.int .i64 t.a,.int .i64 t.b,.int .i64 t.c]
def dE (t:Tm):Value:=.agg #[.int .i64 t.kind,.string t.s,.int .u64 t.n,.int .i64 t.a,.int .i64 t.b,.int .i64 t.c]
theorem aLo (t u:Tm) (w:World):(Op.equalIn 10000 94 (dE t) (dE u)).run Tryz.prog w=.ok (decide (t=u)) w:=by
 have hS:Tryz.prog.underlying 94=some (.struct (Tryz.prog.fieldsOf 94)):=by kernel_rfl
 have u3:=Tryz.underlying3;have u9:=Tryz.underlying9;have u30:=Tryz.underlying30;unfold dE;rw [run_equalIn_agg w 9999 94 _ _ hS (by kernel_rfl)];simp only [Program.fieldsOf,Tryz.underlying94]
 go_simp
 obtain ⟨k,s,n,a,b,c⟩:=t;obtain ⟨k',s',n',a',b',c'⟩:=u;have hs:=bytes_beq s s';simp only [beq_iff_eq] at hs ⊢;simp only [Tm.mk.injEq]
 by_cases h1:k=k' <;> by_cases h2:s=s' <;> by_cases h3:n=n' <;> by_cases h4:a=a' <;> by_cases h5:b=b' <;> by_cases h6:c=c' <;> simp_all
theorem EX.aIo {W0 kn L d g ty' x y ty ps af} {t u:Tm} (hx:ev kn x=some (dE t)) (hy:ev kn y=some (dE u)):EX Tryz.prog W0 kn L ⟨d,.binOp .neq 94 x y ty',ty,ps,af,g⟩ (.bool (decide (t≠u))):=fun ρ w he hs=>by
 have hg:(eqGuard .neq 94 x y (dE t) (dE u)).run Tryz.prog w=.ok () w:=run_eqGuard_agg w .neq 94 x y _ _ (by kernel_rfl);have hb:(binOp .neq 94 (dE t) (dE u)).run Tryz.prog w=.ok (.bool (!decide (t=u))) w:=by
  have:=run_neq_struct (P:=Tryz.prog) w 94 #[.int .i64 t.kind,.string t.s,.int .u64 t.n,.int .i64 t.a,.int .i64 t.b,.int .i64 t.c] #[.int .i64 u.kind,.string u.s,.int .u64 u.n,.int .i64 u.a,.int .i64 u.b,.int .i64 u.c];unfold dE at *;rw [this];have h2:=aLo t u w;unfold dE at h2;rw [h2]; rfl
 simp only [execOp,he x _ hx,he y _ hy,Sem.run_bind,hg,Result.andThen_ok,hb]
 by_cases e:t=u <;> simp [e]
end
section
section
variable {A B C D E F G H I J K L M N O P Q R S U V X Y Z T:aA} {l m:List aA}
theorem Pick.p4:Pick (A::B::C::D::T::l) T (A::B::C::D::l):=.there .p3
theorem Pick.p5:Pick (A::B::C::D::E::T::l) T (A::B::C::D::E::l):=.there .p4
theorem Pick.p6:Pick (A::B::C::D::E::F::T::l) T (A::B::C::D::E::F::l):=.there .p5
theorem Pick.p7:Pick (A::B::C::D::E::F::G::T::l) T (A::B::C::D::E::F::G::l):=.there .p6
theorem Pick.p8:Pick (A::B::C::D::E::F::G::H::T::l) T (A::B::C::D::E::F::G::H::l):=.there .p7
theorem Pick.p9:Pick (A::B::C::D::E::F::G::H::I::T::l) T (A::B::C::D::E::F::G::H::I::l):=.there .p8
theorem Pick.eZ:Pick (A::B::C::D::E::F::G::H::I::J::T::l) T (A::B::C::D::E::F::G::H::I::J::l):=.there .p9
theorem Pick.hO:Pick (A::B::C::D::E::F::G::H::I::J::K::T::l) T (A::B::C::D::E::F::G::H::I::J::K::l):=.there .eZ
theorem Pick.eO:Pick (A::B::C::D::E::F::G::H::I::J::K::L::T::l) T (A::B::C::D::E::F::G::H::I::J::K::L::l):=.there .hO
theorem Pick.lP:Pick (A::B::C::D::E::F::G::H::I::J::K::L::M::T::l) T (A::B::C::D::E::F::G::H::I::J::K::L::M::l):=.there .eO
theorem Pick.nR:Pick (A::B::C::D::E::F::G::H::I::J::K::L::M::N::T::l) T (A::B::C::D::E::F::G::H::I::J::K::L::M::N::l):=.there .lP
theorem Pick.oK:Pick (A::B::C::D::E::F::G::H::I::J::K::L::M::N::O::T::l) T (A::B::C::D::E::F::G::H::I::J::K::L::M::N::O::l):=.there .nR
theorem Pick.p16:Pick (A::B::C::D::E::F::G::H::I::J::K::L::M::N::O::P::T::l) T (A::B::C::D::E::F::G::H::I::J::K::L::M::N::O::P::l):=.there .oK
theorem Pick.wA:Pick (A::B::C::D::E::F::G::H::I::J::K::L::M::N::O::P::Q::T::l) T (A::B::C::D::E::F::G::H::I::J::K::L::M::N::O::P::Q::l):=.there .p16
theorem Pick.II:Pick (A::B::C::D::E::F::G::H::I::J::K::L::M::N::O::P::Q::R::T::l) T (A::B::C::D::E::F::G::H::I::J::K::L::M::N::O::P::Q::R::l):=.there .wA
theorem Part.t0 (h:Part (l) m):Part (T::l) (T::m):=.take .p0 h
theorem Part.t1 (h:Part (A::l) m):Part (A::T::l) (T::m):=.take .p1 h
theorem Part.t2 (h:Part (A::B::l) m):Part (A::B::T::l) (T::m):=.take .p2 h
theorem Part.t3 (h:Part (A::B::C::l) m):Part (A::B::C::T::l) (T::m):=.take .p3 h
theorem Part.t4 (h:Part (A::B::C::D::l) m):Part (A::B::C::D::T::l) (T::m):=.take .p4 h
theorem Part.t5 (h:Part (A::B::C::D::E::l) m):Part (A::B::C::D::E::T::l) (T::m):=.take .p5 h
theorem Part.t6 (h:Part (A::B::C::D::E::F::l) m):Part (A::B::C::D::E::F::T::l) (T::m):=.take .p6 h
theorem Part.t7 (h:Part (A::B::C::D::E::F::G::l) m):Part (A::B::C::D::E::F::G::T::l) (T::m):=.take .p7 h
theorem Part.t8 (h:Part (A::B::C::D::E::F::G::H::l) m):Part (A::B::C::D::E::F::G::H::T::l) (T::m):=.take .p8 h
theorem Part.t9 (h:Part (A::B::C::D::E::F::G::H::I::l) m):Part (A::B::C::D::E::F::G::H::I::T::l) (T::m):=.take .p9 h
theorem Part.pL (h:Part (A::B::C::D::E::F::G::H::I::J::l) m):Part (A::B::C::D::E::F::G::H::I::J::T::l) (T::m):=.take .eZ h
theorem Part.HA (h:Part (A::B::C::D::E::F::G::H::I::J::K::l) m):Part (A::B::C::D::E::F::G::H::I::J::K::T::l) (T::m):=.take .hO h
theorem Part.t12 (h:Part (A::B::C::D::E::F::G::H::I::J::K::L::l) m):Part (A::B::C::D::E::F::G::H::I::J::K::L::T::l) (T::m):=.take .eO h
theorem Part.d (h:Part l m):Part (T::l) m:=.drop h
end
section
inductive Lr (P:Program) (W0:World) (ops:Array Oper) (L:List aA):Kn→List Oper→Kn→List Oper→Prop
 | s {kn r}:Lr P W0 ops L kn r kn r
 | v {kn o d v r cZ r'} (hx:EX P W0 kn L o v) (hd:o.dst=some d) (hg:o.guard=none) (h:Lr P W0 ops L ((d,v)::kn) r cZ r'):Lr P W0 ops L kn (o::r) cZ r'
 | g {kn o d v r cZ r'} (hx:EX P W0 kn L o v) (hd:o.dst=some d) (hon:On ops kn o) (h:Lr P W0 ops L ((d,v)::kn) r cZ r'):Lr P W0 ops L kn (o::r) cZ r'
 | o {kn o d r cZ r'} (hd:o.dst=some d) (hoff:Off ops kn o) (h:Lr P W0 ops L ((d,undef)::kn) r cZ r'):Lr P W0 ops L kn (o::r) cZ r'
inductive Dr (P:Program) (W0:World) (ops:Array Oper) (F:List aA):Kn→List Oper→Kn→Prop
 | s {kn}:Dr P W0 ops F kn [] kn
 | v {kn o d v r cZ} (hx:∀ X,EX P W0 kn (F++X) o v) (hd:o.dst=some d) (hg:o.guard=none) (h:Dr P W0 ops F ((d,v)::kn) r cZ):Dr P W0 ops F kn (o::r) cZ
 | g {kn o d v r cZ} (hx:∀ X,EX P W0 kn (F++X) o v) (hd:o.dst=some d) (hon:On ops kn o) (h:Dr P W0 ops F ((d,v)::kn) r cZ):Dr P W0 ops F kn (o::r) cZ
 | o {kn o d r cZ} (hd:o.dst=some d) (hoff:Off ops kn o) (h:Dr P W0 ops F ((d,undef)::kn) r cZ):Dr P W0 ops F kn (o::r) cZ
variable {P:Program} {W0:World} {L F X:List aA} {kn cZ:Kn} {r r' os:List Oper} {d:Nat} {v:Value} {y:Operand} {ty:TypeId} {ps:String} {af:Array Edge} {N n:Nat} {ds:List Deferred} {ops:Array Oper} {Q:Exit→Act→World→Prop} {b o off:Nat} {C:List Value} {t s i:Nat}
theorem Lr.m (hx:ev kn y=some v) (h:Lr P W0 ops L ((d,v)::kn) r cZ r'):Lr P W0 ops L kn (⟨some d,.move y,ty,ps,af,none⟩::r) cZ r':=.v (EX.move hx) rfl rfl h
theorem Lr.a (hx:ev kn y=some v) (h:Lr P W0 ops L ((d,v)::kn) r cZ r'):Lr P W0 ops L kn (⟨some d,.assign y,ty,ps,af,none⟩::r) cZ r':=.v (EX.assign hx) rfl rfl h
theorem Lr.c {a:Addr} (hx:ev kn y=some (.pointer (some a))) (h:Lr P W0 ops L ((d,.pointer (some a))::kn) r cZ r'):Lr P W0 ops L kn (⟨some d,.nilCheck y,ty,ps,af,none⟩::r) cZ r':=.v (EX.nilCheck hx) rfl rfl h
theorem Lr.x {vs:Array Value} (hx:ev kn y=some (.tuple vs)) (hv:lc vs.toList i=some v) (h:Lr P W0 ops L ((d,v)::kn) r cZ r'):Lr P W0 ops L kn (⟨some d,.extract y i,ty,ps,af,none⟩::r) cZ r':=.v (EX.extract hx hv) rfl rfl h
theorem Lr.f (hx:ev kn y=some (.pointer (some ⟨b,o,none⟩))) (hf:FA P s i off) (h:Lr P W0 ops L ((d,.pointer (some ⟨b,o + off,none⟩))::kn) r cZ r'):Lr P W0 ops L kn (⟨some d,.fieldAddr s y i,ty,ps,af,none⟩::r) cZ r':=.v (EX.fieldAddr hx hf) rfl rfl h
theorem Lr.l {t':TypeId} (hx:ev kn y=some (.pointer (some ⟨b,o,none⟩))) [p:eJ L b t C] (hc:lc C o=some v) (h1:One P t') (h:Lr P W0 ops L ((d,v)::kn) r cZ r'):Lr P W0 ops L kn (⟨some d,.load t' y,ty,ps,af,none⟩::r) cZ r':=.v (EX.ld hx hc h1) rfl rfl h
theorem Lr.k {t':TypeId} {n:Nat} {cs:List Value} (hx:ev kn y=some (.pointer (some ⟨b,o,none⟩))) [p:eJ L b t C] (h1:Many P t' n) (hc:lN C o n=some cs) (h:Lr P W0 ops L ((d,.agg cs.toArray)::kn) r cZ r'):Lr P W0 ops L kn (⟨some d,.load t' y,ty,ps,af,none⟩::r) cZ r':=.v (EX.EZ hx h1 hc) rfl rfl h
theorem Dr.m (hx:ev kn y=some v) (h:Dr P W0 ops F ((d,v)::kn) r cZ):Dr P W0 ops F kn (⟨some d,.move y,ty,ps,af,none⟩::r) cZ:=.v (fun _=>EX.move hx) rfl rfl h
theorem Dr.a (hx:ev kn y=some v) (h:Dr P W0 ops F ((d,v)::kn) r cZ):Dr P W0 ops F kn (⟨some d,.assign y,ty,ps,af,none⟩::r) cZ:=.v (fun _=>EX.assign hx) rfl rfl h
theorem Dr.c {a:Addr} (hx:ev kn y=some (.pointer (some a))) (h:Dr P W0 ops F ((d,.pointer (some a))::kn) r cZ):Dr P W0 ops F kn (⟨some d,.nilCheck y,ty,ps,af,none⟩::r) cZ:=.v (fun _=>EX.nilCheck hx) rfl rfl h
theorem Dr.x {vs:Array Value} (hx:ev kn y=some (.tuple vs)) (hv:lc vs.toList i=some v) (h:Dr P W0 ops F ((d,v)::kn) r cZ):Dr P W0 ops F kn (⟨some d,.extract y i,ty,ps,af,none⟩::r) cZ:=.v (fun _=>EX.extract hx hv) rfl rfl h
theorem Dr.f (hx:ev kn y=some (.pointer (some ⟨b,o,none⟩))) (hf:FA P s i off) (h:Dr P W0 ops F ((d,.pointer (some ⟨b,o + off,none⟩))::kn) r cZ):Dr P W0 ops F kn (⟨some d,.fieldAddr s y i,ty,ps,af,none⟩::r) cZ:=.v (fun _=>EX.fieldAddr hx hf) rfl rfl h
theorem Dr.l {t':TypeId} (hx:ev kn y=some (.pointer (some ⟨b,o,none⟩))) [p:∀ X,eJ (F++X) b t C] (hc:lc C o=some v) (h1:One P t') (h:Dr P W0 ops F ((d,v)::kn) r cZ):Dr P W0 ops F kn (⟨some d,.load t' y,ty,ps,af,none⟩::r) cZ:=.v (fun _=>EX.ld hx hc h1) rfl rfl h
theorem Dr.k {t':TypeId} {n:Nat} {cs:List Value} (hx:ev kn y=some (.pointer (some ⟨b,o,none⟩))) [p:∀ X,eJ (F++X) b t C] (h1:Many P t' n) (hc:lN C o n=some cs) (h:Dr P W0 ops F ((d,.agg cs.toArray)::kn) r cZ):Dr P W0 ops F kn (⟨some d,.load t' y,ty,ps,af,none⟩::r) cZ:=.v (fun _=>EX.EZ hx h1 hc) rfl rfl h
theorem On.q {o:Oper} {j d:Nat} {want b:Bool} (e:b=want) {oj:Oper} (h:o.guard=some (j,want):=by exact rfl) (hj:ops[j]?=some oj:=by exact rfl) (hd:oj.dst=some d:=by exact rfl) (hb:lk kn d=some (.bool b):=by exact rfl):On ops kn o:=.guard h hj hd hb e
theorem Off.q {o:Oper} {j d:Nat} {want b:Bool} (e:b=!want) {oj:Oper} (h:o.guard=some (j,want):=by exact rfl) (hj:ops[j]?=some oj:=by exact rfl) (hd:oj.dst=some d:=by exact rfl) (hb:lk kn d=some (.bool b):=by exact rfl):Off ops kn o:=.guard h hj hd hb e
theorem Zn {z:Code} (k:GC P W0 N ds z Q kn L):GL P W0 N ds ops (Exit.then (z.wp P Q) Q) [] kn L:=k
theorem Zt {z:Code} {id:Nat} (h:GL P W0 N ds ops (Exit.then (z.wp P Q) Q) ops.toList kn L):GC P W0 N ds (.seq (.region id ops false) z) Q kn L:=GC.seq (GC.region h)
theorem Zr {id:Nat} (h:GL P W0 N ds ops Q ops.toList kn L):GC P W0 N ds (.region id ops false) Q kn L:=GC.region h
theorem Zs {x y:Code} (h:GC P W0 N ds x (Exit.then (y.wp P Q) Q) kn L):GC P W0 N ds (.seq x y) Q kn L:=GC.seq h
theorem Ze {y:Code} (h:GC P W0 N ds y Q kn L):GE W0 N ds .normal (Exit.then (y.wp P Q) Q) kn L:=h
def dOk (N:Nat) (o:Oper):Bool:=match o.dst with
 | some d=>Nat.blt d N
 | none=>true
theorem sV {o:Oper} (h:dOk N o=true) (hd:o.dst=some d):Nat.blt d N=true:=by
 unfold dOk at h;rw [hd] at h;exact h
theorem Lr.run (h:Lr P W0 ops L kn r cZ r') (hN:(r.all (dOk N))=true) (k:GL P W0 N ds ops Q r' cZ L):GL P W0 N ds ops Q r kn L:=by
 induction h with
 | s=>exact k
 | v hx hd hg _ ih =>
  simp only [List.all_cons,Bool.and_eq_true] at hN;exact GL.val hx hd (sV hN.1 hd) (.free hg) (ih hN.2 k)
 | g hx hd hon _ ih =>
  simp only [List.all_cons,Bool.and_eq_true] at hN;exact GL.val hx hd (sV hN.1 hd) hon (ih hN.2 k)
 | o hd hoff _ ih =>
  simp only [List.all_cons,Bool.and_eq_true] at hN;exact GL.off hd (sV hN.1 hd) hoff (ih hN.2 k)
theorem Lr.jF {z:Code} (h:Lr P W0 ops L kn r cZ []) (hN:(r.all (dOk N))=true) (k:GC P W0 N ds z Q cZ L):GL P W0 N ds ops (Exit.then (z.wp P Q) Q) r kn L:=h.run hN (GL.nil (GE.seq k))
def nY (ops:Array Oper) (n N:Nat):Array Bool→List Nat→Bool
 | _,[]=>true
 | l,i::is=>dQ ops n l i && ((match ops[i]? with | some o=>dOk N o | none=>false) && nY ops n N (l.setIfInBounds i true) is)
def BE:Array Bool→List Nat→Array Bool
 | l,[]=>l
 | l,i::is=>BE (l.setIfInBounds i true) is
def getAll (ops:Array Oper):List Nat→Option (List Oper)
 | []=>some []
 | i::is=>match nn ops.toList i,getAll ops is with
  | some o,some r=>some (o::r)
  | _,_=>none
theorem mC {ops:Array Oper} {i:Nat} {is:List Nat} {o:Oper} {r:List Oper} (h:getAll ops (i::is)=some (o::r)):ops[i]?=some o∧getAll ops is=some r:=by
 simp only [getAll] at h;split at h
 ·rename_i o' r' h1 h2;injection h with h;injection h with h3 h4;subst h3; subst h4;exact ⟨by rw [← Array.getElem?_toList,← tQ]; exact h1,h2⟩
 cases h
theorem JN {ops:Array Oper} {i:Nat} {is:List Nat} (h:getAll ops (i::is)=some []):False:=by
 simp only [getAll] at h;split at h
 ·injection h with h; cases h
 cases h
theorem Dr.aN6 {is:List Nat} {f:Nat} (hx:Dr P W0 ops F kn os cZ):∀ {listed:Array Bool},nY ops n N listed is=true→getAll ops is=some os→GD P W0 N ds ops F F n Q f (BE listed is) cZ L→GD P W0 N ds ops F F n Q (f + is.length) listed kn L:=by
 induction hx generalizing is with
 | s =>
  intro listed hB ho h;cases is with
  | nil=>exact h
  | cons i is=>exact (JN ho).elim
 | v hx hd hg _ ih =>
  intro listed hB ho h;cases is with
  | nil=>cases ho
  | cons i is =>
   have ho:=mC ho;simp only [nY,ho.1,Bool.and_eq_true] at hB;exact D.v i hB.1 ho.1 hx hd (sV hB.2.1 hd) hg (ih hB.2.2 ho.2 h)
 | g hx hd hon _ ih =>
  intro listed hB ho h;cases is with
  | nil=>cases ho
  | cons i is =>
   have ho:=mC ho;simp only [nY,ho.1,Bool.and_eq_true] at hB;exact D.g i hB.1 ho.1 hx hd (sV hB.2.1 hd) hon (ih hB.2.2 ho.2 h)
 | o hd hoff _ ih =>
  intro listed hB ho h;cases is with
  | nil=>cases ho
  | cons i is =>
   have ho:=mC ho;simp only [nY,ho.1,Bool.and_eq_true] at hB;exact D.off i hB.1 ho.1 hd (sV hB.2.1 hd) hoff (ih hB.2.2 ho.2 h)
theorem Dr.run (f:Nat) (is:List Nat) {f0:Nat} {listed:Array Bool} (hf:f0=f + is.length) (hB:nY ops n N listed is=true) (ho:getAll ops is=some os) (hx:Dr P W0 ops F kn os cZ) (h:GD P W0 N ds ops F F n Q f (BE listed is) cZ L):GD P W0 N ds ops F F n Q f0 listed kn L:=by
 subst hf;exact Dr.aN6 hx hB ho h
end
section
variable {P:Program} {W0:World} {N n s fuel:Nat} {ds:List Deferred} {ops:Array Oper} {Q:Exit→Act→World→Prop} {kn cZ:Kn} {L L' L'' F F1 X M R:List aA} {r os:List Oper} {listed:Array Bool} {d:Nat} {o:Oper} {v:Value}
theorem dB:(∀ (p:Prop) [Decidable p],(decide p=true)=p)∧∀ (p:Prop) [Decidable p],(decide p=false)=¬p:=⟨fun p _=>decide_eq_true_eq,fun p _=>propext decide_eq_false_iff_not⟩
theorem dC:(∀ (p:Prop) [Decidable p],(¬¬p)=p)∧(∀ b:Bool,(¬b=true)=(b=false))∧(∀ b:Bool,(¬b=false)=(b=true))∧(∀ b:Bool,((!b)=true)=(b=false))∧∀ b:Bool,((!b)=false)=(b=true):=⟨fun p _=>propext Decidable.not_not,by decide,by decide,by decide,by decide⟩
theorem xo (op:Op) {d:Option Tmp} {ty:TypeId} {ps:String} {af:Array Edge} {g:Option (Nat × Bool)} (h:EX P W0 kn L ⟨d,op,ty,ps,af,g⟩ v):EX P W0 kn L ⟨d,op,ty,ps,af,g⟩ v:=h
theorem eb {a b:Bool} (h:a=b:=by with_reducible first | assumption | exact rfl):a=b:=h
def gv (ops:Array Oper) (kn:Kn) (j:Nat):Option Bool:=match nn ops.toList j with
 | some o=>match o.dst with
  | some d=>match lk kn d with
   | some (.bool b)=>some b
   | _=>none
  | none=>none
 | none=>none
def gu (ops:Array Oper) (kn:Kn) (j:Nat):Option Value:=match nn ops.toList j with
 | some o=>match o.dst with
  | some d=>lk kn d
  | none=>none
 | none=>none
theorem aAh {j:Nat} {b:Bool} (h:gv ops kn j=some b):∃ o d,ops[j]?=some o∧o.dst=some d∧lk kn d=some (.bool b):=by
 unfold gv at h;split at h
 ·rename_i o ho;split at h
  ·rename_i d hd;split at h
   ·rename_i b' hb; injection h with h; subst h;exact ⟨o,d,by rw [← Array.getElem?_toList,← tQ]; exact ho,hd,hb⟩
   cases h
  cases h
 cases h
theorem aLd {j:Nat} (h:gu ops kn j=some undef):∃ o d,ops[j]?=some o∧o.dst=some d∧lk kn d=some undef:=by
 unfold gu at h;split at h
 ·rename_i o ho;split at h
  ·rename_i d hd; exact ⟨o,d,by rw [← Array.getElem?_toList,← tQ]; exact ho,hd,h⟩
  cases h
 cases h
section
variable {op:Op} {ty:TypeId} {ps:String} {af:Array Edge} {j:Nat} {b:Bool} {w:Bool}
theorem On.vl (h:gv ops kn j=some b) (e:b=w):On ops kn ⟨some d,op,ty,ps,af,some (j,w)⟩:=by
 obtain ⟨o,d',h1,h2,h3⟩:=aAh h;exact .guard rfl h1 h2 h3 e
theorem Off.vl (h:gv ops kn j=some b) (e:b=!w):Off ops kn ⟨some d,op,ty,ps,af,some (j,w)⟩:=by
 obtain ⟨o,d',h1,h2,h3⟩:=aAh h;exact .guard rfl h1 h2 h3 e
theorem Off.u (h:gu ops kn j=some Go.undef):Off ops kn ⟨some d,op,ty,ps,af,some (j,w)⟩:=by
 obtain ⟨o,d',h1,h2,h3⟩:=aLd h;exact .undef rfl h1 h2 h3
end
theorem ex (h:EX P W0 kn L o v:=by first
 | ((with_reducible apply xo (.move _)); exact EX.move rfl)
 | ((with_reducible apply xo (.assign _)); exact EX.assign rfl)
 | ((with_reducible apply xo (.fieldAddr _ _ _)); exact EX.fieldAddr rfl fA)
 | ((with_reducible apply xo (.load _ _)); first | exact EX.ld rfl rfl oN | exact EX.EZ rfl mN rfl)
 | ((with_reducible apply xo (.extract _ _)); exact EX.extract rfl rfl)
 | ((with_reducible apply xo (.nilCheck _)); exact EX.nilCheck rfl)
 | ((with_reducible apply xo (.binOp .lss _ _ _ _)); exact EX.lss rfl rfl)
 | ((with_reducible apply xo (.binOp .eql _ _ _ _)); exact EX.eql rfl rfl)
 | ((with_reducible apply xo (.binOp .neq _ _ _ _)); first | exact EX.neq rfl rfl | exact EX.WM rfl rfl uN)
 | ((with_reducible apply xo (.binOp .gtr _ _ _ _)); exact EX.gtr rfl rfl)
 | ((with_reducible apply xo (.binOp .geq _ _ _ _)); exact EX.geq rfl rfl)
 | ((with_reducible apply xo (.binOp .leq _ _ _ _)); exact EX.leq rfl rfl)
 | ((with_reducible apply xo (.unOp .not _ _)); exact EX.not rfl)
 | ((with_reducible apply xo (.build _ _)); exact EX.build rfl bD rfl)
 | ((with_reducible apply xo (.call _)); first | exact EX.rT rfl uN | exact EX.QJ rfl uN)
 | ((with_reducible apply xo (.pick _ _ _)); first | exact EX.lG rfl eb rfl | exact EX.vX rfl eb rfl | exact EX.lG rfl rfl rfl | exact EX.vX rfl rfl rfl)):EX P W0 kn L o v:=h
section
variable {op:Op} {ty:TypeId} {ps:String} {af:Array Edge} {j:Nat} {b:Bool}
theorem Lc (k:GL P W0 N ds ops Q (⟨some d,op,ty,ps,af,none⟩::r) kn L):GL P W0 N ds ops Q (⟨some d,op,ty,ps,af,none⟩::r) kn L:=k
theorem Ld (k:GL P W0 N ds ops Q (⟨none,op,ty,ps,af,none⟩::r) kn L):GL P W0 N ds ops Q (⟨none,op,ty,ps,af,none⟩::r) kn L:=k
theorem Le (w:Bool) (k:GL P W0 N ds ops Q (⟨some d,op,ty,ps,af,some (j,w)⟩::r) kn L):GL P W0 N ds ops Q (⟨some d,op,ty,ps,af,some (j,w)⟩::r) kn L:=k
theorem Lu (hN:Nat.blt d N=true) (hx:EX P W0 kn L ⟨some d,op,ty,ps,af,none⟩ v) (k:GL P W0 N ds ops Q r ((d,v)::kn) L):GL P W0 N ds ops Q (⟨some d,op,ty,ps,af,none⟩::r) kn L:=GL.val hx rfl hN (.free rfl) k
theorem Lw {w:Bool} (hN:Nat.blt d N=true) (h:gv ops kn j=some b) (e:b=w) (hx:EX P W0 kn L ⟨some d,op,ty,ps,af,some (j,w)⟩ v) (k:GL P W0 N ds ops Q r ((d,v)::kn) L):GL P W0 N ds ops Q (⟨some d,op,ty,ps,af,some (j,w)⟩::r) kn L:=GL.val hx rfl hN (.vl h e) k
theorem Lo {w:Bool} (hN:Nat.blt d N=true) (h:gv ops kn j=some b) (e:b=!w) (k:GL P W0 N ds ops Q r ((d,undef)::kn) L):GL P W0 N ds ops Q (⟨some d,op,ty,ps,af,some (j,w)⟩::r) kn L:=GL.off rfl hN (.vl h e) k
theorem Lot (hN:Nat.blt d N=true) (h:gv ops kn j=some b) (e:b=false) (k:GL P W0 N ds ops Q r ((d,undef)::kn) L):GL P W0 N ds ops Q (⟨some d,op,ty,ps,af,some (j,true)⟩::r) kn L:=Lo hN h e k
theorem Lof (hN:Nat.blt d N=true) (h:gv ops kn j=some b) (e:b=true) (k:GL P W0 N ds ops Q r ((d,undef)::kn) L):GL P W0 N ds ops Q (⟨some d,op,ty,ps,af,some (j,false)⟩::r) kn L:=Lo hN h e k
theorem Lou {w:Bool} (hN:Nat.blt d N=true) (h:gu ops kn j=some undef) (k:GL P W0 N ds ops Q r ((d,undef)::kn) L):GL P W0 N ds ops Q (⟨some d,op,ty,ps,af,some (j,w)⟩::r) kn L:=GL.off rfl hN (.u h) k
theorem Lx {T:List aA} (hx:EU P W0 kn L ⟨none,op,ty,ps,af,none⟩ T) (k:GL P W0 N ds ops Q r kn T):GL P W0 N ds ops Q (⟨none,op,ty,ps,af,none⟩::r) kn L:=GL.do hx rfl (.free rfl) k
end
theorem Yt {z:Code} {id:Nat} {l:List Oper} (h:GL P W0 N ds l.toArray (Exit.then (z.wp P Q) Q) l kn L):GC P W0 N ds (.seq (.region id l.toArray false) z) Q kn L:=Zt h
theorem Yr {id:Nat} {l:List Oper} (h:GL P W0 N ds l.toArray Q l kn L):GC P W0 N ds (.region id l.toArray false) Q kn L:=Zr h
theorem uo (op:Op) {d:Option Tmp} {ty:TypeId} {ps:String} {af:Array Edge} {g:Option (Nat × Bool)} {T:List aA} (h:EU P W0 kn L ⟨d,op,ty,ps,af,g⟩ T):EU P W0 kn L ⟨d,op,ty,ps,af,g⟩ T:=h
structure Hd (q:Prop):Prop where
 out:q
theorem Au {p q:Prop} (k:q) (h:Hd q→p:=by
 intro k;repeat (first
  | with_reducible refine GL.nil ?_
  | ((with_reducible refine Lc ?_); refine Lu rfl ex ?_)
  | ((with_reducible refine Ld ?_); refine Lx (by (with_reducible apply uo (.store _ _ _)); exact EU.st rfl rfl sZ rfl rfl rfl) ?_)
  | ((with_reducible refine Le true ?_); first | refine Lot rfl rfl eb ?_ | refine Lw rfl rfl eb ex ?_ | refine Lou rfl rfl ?_ | refine Lo rfl rfl rfl ?_ | refine Lw rfl rfl rfl ex ?_)
  | ((with_reducible refine Le false ?_); first | refine Lof rfl rfl eb ?_ | refine Lw rfl rfl eb ex ?_ | refine Lou rfl rfl ?_ | refine Lo rfl rfl rfl ?_ | refine Lw rfl rfl rfl ex ?_)
  | with_reducible first
   | refine Ze ?_
   | refine GE.block ?_
   | refine Yt ?_
   | refine Zs ?_
   | refine Yr ?_
   | refine GC.skip ?_
   | refine GC.block ?_
   | refine GC.ret ?_
   | refine GC.exit ?_
   | refine GE.iH ?_
   | refine GE.nG ?_
   | refine GE.bE ?_
   | refine GE.dT ?_
   | refine GE.XT ?_
   | refine GE.FG ?_
   | refine GE.JC ?_
   | refine GE.dY ?_
   | refine GE.GP ?_
   | refine GE.ON ?_
   | refine GE.KC ?_
   | refine GC.label ?_
   | refine GC.goto ?_
   | refine GE.KB (by with_unfolding_all exact rfl) ?_)
 exact k.out):p:=h ⟨k⟩
def DK (P:Program) (W0:World) (ops:Array Oper) (F:List aA) (K:Kn→Prop) (kn:Kn) (os:List Oper):Prop:=∃ cZ,Dr P W0 ops F kn os cZ∧K cZ
theorem DK.nl {K:Kn→Prop} (h:K kn):DK P W0 ops F K kn []:=⟨_,.s,h⟩
section
variable {K:Kn→Prop} {op:Op} {ty:TypeId} {ps:String} {af:Array Edge} {j:Nat} {b:Bool}
theorem DK.c (k:DK P W0 ops F K kn (⟨some d,op,ty,ps,af,none⟩::os)):DK P W0 ops F K kn (⟨some d,op,ty,ps,af,none⟩::os):=k
theorem DK.e (w:Bool) (k:DK P W0 ops F K kn (⟨some d,op,ty,ps,af,some (j,w)⟩::os)):DK P W0 ops F K kn (⟨some d,op,ty,ps,af,some (j,w)⟩::os):=k
theorem DK.vl (hx:∀ X,EX P W0 kn (F++X) ⟨some d,op,ty,ps,af,none⟩ v) (h:DK P W0 ops F K ((d,v)::kn) os):DK P W0 ops F K kn (⟨some d,op,ty,ps,af,none⟩::os):=h.elim fun _ h=>⟨_,.v hx rfl rfl h.1,h.2⟩
theorem DK.gd {w:Bool} (hg:gv ops kn j=some b) (e:b=w) (hx:∀ X,EX P W0 kn (F++X) ⟨some d,op,ty,ps,af,some (j,w)⟩ v) (h:DK P W0 ops F K ((d,v)::kn) os):DK P W0 ops F K kn (⟨some d,op,ty,ps,af,some (j,w)⟩::os):=h.elim fun _ h=>⟨_,.g hx rfl (.vl hg e) h.1,h.2⟩
theorem DK.of {w:Bool} (hg:gv ops kn j=some b) (e:b=!w) (h:DK P W0 ops F K ((d,undef)::kn) os):DK P W0 ops F K kn (⟨some d,op,ty,ps,af,some (j,w)⟩::os):=h.elim fun _ h=>⟨_,.o rfl (.vl hg e) h.1,h.2⟩
theorem DK.ot (hg:gv ops kn j=some b) (e:b=false) (h:DK P W0 ops F K ((d,undef)::kn) os):DK P W0 ops F K kn (⟨some d,op,ty,ps,af,some (j,true)⟩::os):=DK.of hg e h
theorem DK.on (hg:gv ops kn j=some b) (e:b=true) (h:DK P W0 ops F K ((d,undef)::kn) os):DK P W0 ops F K kn (⟨some d,op,ty,ps,af,some (j,false)⟩::os):=DK.of hg e h
theorem DK.ou {w:Bool} (hg:gu ops kn j=some undef) (h:DK P W0 ops F K ((d,undef)::kn) os):DK P W0 ops F K kn (⟨some d,op,ty,ps,af,some (j,w)⟩::os):=h.elim fun _ h=>⟨_,.o rfl (.u hg) h.1,h.2⟩
end
theorem Dq {q:Prop} (f:Nat) (is:List Nat) {f0:Nat} (k:q) (hf:f0=f + is.length:=by exact rfl) (hB:nY ops n N listed is=true:=by kernel_rfl) (ho:getAll ops is=some os:=by exact rfl)
  (hx:Hd q→DK P W0 ops F (fun cZ=>GD P W0 N ds ops F F n Q f (BE listed is) cZ L) kn os:=by
 intro k;repeat (first
  | ((with_reducible refine DK.c ?_); refine DK.vl (fun X=>by first | exact ex | exact EX.add rfl rfl (wi (by omega)) | exact EX.sub rfl rfl (wi (by omega))) ?_)
  | ((with_reducible refine DK.e true ?_); first | refine DK.ot rfl eb ?_ | refine DK.gd rfl eb (fun X=>ex) ?_ | refine DK.ou rfl ?_ | refine DK.of rfl rfl ?_ | refine DK.gd rfl rfl (fun X=>ex) ?_)
  | ((with_reducible refine DK.e false ?_); first | refine DK.on rfl eb ?_ | refine DK.gd rfl eb (fun X=>ex) ?_ | refine DK.ou rfl ?_ | refine DK.of rfl rfl ?_ | refine DK.gd rfl rfl (fun X=>ex) ?_))
 exact DK.nl k.out):GD P W0 N ds ops F F n Q f0 listed kn L:=(hx ⟨k⟩).elim fun _ h=>Dr.run f is hf hB ho h.1 h.2
end
section
variable {P:Program} {W0:World} {N n s fuel:Nat} {ds:List Deferred} {ops:Array Oper} {Q:Exit→Act→World→Prop} {kn cZ:Kn} {L L' L'' F F1 X M R:List aA} {r os:List Oper} {listed:Array Bool} {d:Nat} {o:Oper} {v:Value}
theorem La (k:GL P W0 N ds ops Q r ((d,v)::kn) L) (hx:EX P W0 kn L o v:=by first | exact EX.add rfl rfl (wi (by omega)) | exact EX.sub rfl rfl (wi (by omega))) (hd:o.dst=some d:=by exact rfl) (hN:Nat.blt d N=true:=by exact rfl) (hg:o.guard=none:=by exact rfl):GL P W0 N ds ops Q (o::r) kn L:=GL.val hx hd hN (.free hg) k
theorem Lt {T:List aA} {op:Op} {ty:TypeId} {ps:String} {af:Array Edge} (k:GL P W0 N ds ops Q r kn T) (hx:EU P W0 kn L ⟨none,op,ty,ps,af,none⟩ T:=by exact EU.st rfl rfl sZ rfl rfl rfl):GL P W0 N ds ops Q (⟨none,op,ty,ps,af,none⟩::r) kn L:=Lx hx k
theorem Ed {T:List aA} (hx:EU P W0 kn L o T) (k:GL P W0 N ds ops Q r kn T) (hd:o.dst=none:=by exact rfl) (hg:o.guard=none:=by exact rfl):GL P W0 N ds ops Q (o::r) kn L:=GL.do hx hd (.free hg) k
theorem Ef {α:Type} {v:α→Value} {T:α→List aA} {C:α→Prop} (hx:EF P W0 kn L o v T C) (k:∀ x,C x→GL P W0 N ds ops Q r ((d,v x)::kn) (T x)) (hd:o.dst=some d:=by exact rfl) (hN:Nat.blt d N=true:=by exact rfl) (hg:o.guard=none:=by exact rfl):GL P W0 N ds ops Q (o::r) kn L:=GL.nB hx hd hN (.free hg) k
theorem Kx {α:Type} {f:FuncId} {args:List Value} {v:α→Value} {M':α→List aA} {C:α→Prop} {L3:α→List aA} (hc:bQ P f args M v M' C) (hp:eC L M R) (k:∀ x,C x→GL P W0 N ds ops Q r ((d,v x)::kn) (L3 x)) (hx:EC P kn o f args:=by exact EC.direct eN rfl)
  (ha:∀ x,App (M' x) R (L3 x):=by intro x; first | exact .a0 | exact .a1 | exact .a2 | exact .a3 | exact .a4 | exact .c .a4 | exact .c (.c .a4) | exact .c (.c (.c .a4)) | exact .c (.c (.c (.c .a4)))) (hd:o.dst=some d:=by exact rfl) (hN:Nat.blt d N=true:=by exact rfl) (hg:o.guard=none:=by exact rfl):GL P W0 N ds ops Q (o::r) kn L :=
 K.x hx hc hp ha hd hN (.free hg) k
theorem Kw {α:Type} {f:FuncId} {args:List Value} {v:α→Value} {M':α→List aA} {C:α→Prop} {L3:α→List aA} (hx:EC P kn o f args) (hc:bQ P f args M v M' C) (hp:eC L M R) (k:∀ x,C x→GL P W0 N ds ops Q r ((d,v x)::kn) (L3 x))
  (ha:∀ x,App (M' x) R (L3 x):=by intro x; first | exact .a0 | exact .a1 | exact .a2 | exact .a3 | exact .a4 | exact .c .a4 | exact .c (.c .a4) | exact .c (.c (.c .a4)) | exact .c (.c (.c (.c .a4)))) (hd:o.dst=some d:=by exact rfl) (hN:Nat.blt d N=true:=by exact rfl) (hg:o.guard=none:=by exact rfl):GL P W0 N ds ops Q (o::r) kn L :=
 K.x hx hc hp ha hd hN (.free hg) k
theorem Ky {α:Type} {f:FuncId} {args:List Value} {v:α→Value} {M':α→List aA} {C:α→Prop} {L3:α→List aA} (hc:bQ P f args [] v M' C) (k:∀ x,C x→GL P W0 N ds ops Q r ((d,v x)::kn) (L3 x)) (hx:EC P kn o f args:=by exact EC.direct eN rfl)
  (ha:∀ x,App (M' x) L (L3 x):=by intro x; first | exact .a0 | exact .a1 | exact .a2 | exact .a3 | exact .a4 | exact .c .a4) (hd:o.dst=some d:=by exact rfl) (hN:Nat.blt d N=true:=by exact rfl) (hg:o.guard=none:=by exact rfl):GL P W0 N ds ops Q (o::r) kn L :=
 K.x hx hc .nil ha hd hN (.free hg) k
theorem Kc {f:FuncId} {args:List Value} {M':List aA} (hc:tD P f args.toArray M v M') (hp:eC L M R) (k:GL P W0 N ds ops Q r ((d,v)::kn) L'') (hx:EC P kn o f args:=by exact EC.direct eN rfl)
  (ha:App M' R L'':=by first | exact .a0 | exact .a1 | exact .a2 | exact .a3 | exact .a4 | exact .c .a4) (hd:o.dst=some d:=by exact rfl) (hN:Nat.blt d N=true:=by exact rfl) (hg:o.guard=none:=by exact rfl):GL P W0 N ds ops Q (o::r) kn L :=
 K.c hx hc hp ha hd hN (.free hg) k
theorem Kp {α β:Type} {f:FuncId} {args:List Value} {v:α→Value} {M':α→List aA} {C:α→Prop} {ch:β→List PanicEntry} {M'':β→List aA} {D:β→Prop} {L3:α→List aA} {L4:β→List aA} (hc:GT P f args M v M' C ch M'' D) (hp:eC L M R)
  (k:∀ x,C x→GL P W0 N ds ops Q r ((d,v x)::kn) (L3 x)) (k':∀ y,D y→GE W0 N ds (.panic (ch y)) Q kn (L4 y)) (hx:EC P kn o f args:=by exact EC.direct eN rfl)
  (ha:∀ x,App (M' x) R (L3 x):=by intro x; first | exact .a0 | exact .a1 | exact .a2 | exact .a3 | exact .a4 | exact .c .a4) (hb:∀ x,App (M'' x) R (L4 x):=by intro x; first | exact .a0 | exact .a1 | exact .a2 | exact .a3 | exact .a4 | exact .c .a4)
  (hd:o.dst=some d:=by exact rfl) (hN:Nat.blt d N=true:=by exact rfl) (hg:o.guard=none:=by exact rfl):GL P W0 N ds ops Q (o::r) kn L :=
 K.p hx hc hp ha hb hd hN (.free hg) k k'
theorem Fg {f:FuncId} {fn:Func} {c:Code} {args:List Value} {post:Ending→(List aA→Prop)→Prop} {LL:List aA→List aA} (hf:P.funcs[f]?=some fn) (hn:fn.ntmps=N)
  (k:∀ W0 R,GC P W0 N [] c (bodyPost P fn (fun e w'=>post e (fun T=>aB W0 w' (T++R)))) (iQ 0 args) (LL R)) (hb:fn.body=some c:=by exact rfl) (hN:Nat.ble args.length N=true:=by exact rfl)
  (ha:∀ R,App M R (LL R):=by intro R; first | exact .a0 | exact .a1 | exact .a2 | exact .a3 | exact .a4 | exact .c .a4 | exact .c (.c .a4) | exact .c (.c (.c .a4)) | exact .c (.c (.c (.c .a4))) | exact .c (.c (.c (.c (.c .a4))))):Fn P f args.toArray M post :=
 Fn.go hf hb hn hN (fun W0 R=>GC.app (ha R) (k W0 R))
theorem Ga (i:Nat) {o:Oper} (h:GL P W0 N ds ops (QD P W0 ops F F1 s Q fuel (listed.setIfInBounds i true)) [o] kn L) (hr:Region.ready .any ops listed=[i]:=by kernel_rfl) (hi:nn ops.toList i=some o:=by exact rfl):GD P W0 N ds ops F F1 s Q (fuel + 1) listed kn L:=GD.act i hr (by rw [← Array.getElem?_toList,← tQ]; exact hi) h
theorem Gd (h:GE W0 N ds .normal Q kn L) (hr:Region.ready .any ops listed=[]:=by kernel_rfl):GD P W0 N ds ops F F1 s Q fuel listed kn L:=GD.done hr h
theorem Gr {id:Nat} (n:Nat) (hL:Split L F X) (h:GD P W0 N ds ops F F n Q n (Array.replicate n false) kn L) (hn:ops.size=n:=by exact rfl) (hm:P.follows .mixedOrders=true:=by kernel_rfl):GC P W0 N ds (.region id ops true) Q kn L:=GC.dr1 n hn hm hL h
theorem Dp (i:Nat) (hi:ops[i]?=some o) {s:Nat} {F1:List aA} (hx:∀ L,EX P W0 kn L o v) (h:GD P W0 N ds ops F F1 s Q fuel (listed.setIfInBounds i true) ((d,v)::kn) L) (hB:dQ ops s listed i=true:=by kernel_rfl) (hd:o.dst=some d:=by exact rfl) (hN:Nat.blt d N=true:=by exact rfl) (hg:o.guard=none:=by exact rfl):GD P W0 N ds ops F F1 s Q (fuel + 1) listed kn L :=
 D.p i hB hi hx hd hN hg h
theorem Dv (i:Nat) (hi:ops[i]?=some o) (hx:∀ X,EX P W0 kn (F++X) o v) (h:GD P W0 N ds ops F F n Q fuel (listed.setIfInBounds i true) ((d,v)::kn) L) (hB:dQ ops n listed i=true:=by kernel_rfl) (hd:o.dst=some d:=by exact rfl) (hN:Nat.blt d N=true:=by exact rfl) (hg:o.guard=none:=by exact rfl):GD P W0 N ds ops F F n Q (fuel + 1) listed kn L :=
 D.v i hB hi hx hd hN hg h
theorem Dh (i:Nat) (hi:ops[i]?=some o) (hx:∀ X,EX P W0 kn (F++X) o v) (hg:On ops kn o) (h:GD P W0 N ds ops F F n Q fuel (listed.setIfInBounds i true) ((d,v)::kn) L) (hB:dQ ops n listed i=true:=by kernel_rfl) (hd:o.dst=some d:=by exact rfl) (hN:Nat.blt d N=true:=by exact rfl):GD P W0 N ds ops F F n Q (fuel + 1) listed kn L :=
 D.g i hB hi hx hd hN hg h
theorem Ds (i:Nat) {s:Nat} {F1:List aA} (h:GD P W0 N ds ops F F1 s Q fuel (listed.setIfInBounds i true) ((d,v)::kn) L) (hB:dQ ops s listed i=true:=by kernel_rfl) (hi:nn ops.toList i=some o:=by exact rfl) (hd:o.dst=some d:=by exact rfl) (hN:Nat.blt d N=true:=by exact rfl) (hg:o.guard=none:=by exact rfl) (hx:∀ L,EX P W0 kn L o v:=by intro X; exact ex):GD P W0 N ds ops F F1 s Q (fuel + 1) listed kn L :=
 D.p i hB (by rw [← Array.getElem?_toList,← tQ]; exact hi) hx hd hN hg h
theorem Dt (i:Nat) (h:GD P W0 N ds ops F F n Q fuel (listed.setIfInBounds i true) ((d,v)::kn) L) (hB:dQ ops n listed i=true:=by kernel_rfl) (hi:nn ops.toList i=some o:=by exact rfl) (hd:o.dst=some d:=by exact rfl) (hN:Nat.blt d N=true:=by exact rfl) (hg:o.guard=none:=by exact rfl) (hx:∀ X,EX P W0 kn (F++X) o v:=by intro X; exact ex):GD P W0 N ds ops F F n Q (fuel + 1) listed kn L :=
 D.v i hB (by rw [← Array.getElem?_toList,← tQ]; exact hi) hx hd hN hg h
theorem Go {fn:Func} {Rr:Ending→World→Prop} {t:Nat} (h:∀ w,aB W0 w L→Rr (.returned v) w) (hr:fn.results=#[.tmp t]:=by exact rfl) (hv:lk kn t=some v:=by exact rfl):GE W0 N [] .ret (bodyPost P fn Rr) kn L:=GE.out hr hv h
theorem Gs {fn:Func} {Rr:Ending→World→Prop} {ts:List Nat} {vs:List Value} (h:∀ w,aB W0 w L→Rr (.returned (.tuple vs.toArray)) w) (hr:tmpsOf fn.results.toList=some ts:=by exact rfl) (hv:lks kn ts=some vs:=by exact rfl) (h1:Nat.beq vs.length 1=false:=by exact rfl):GE W0 N [] .ret (bodyPost P fn Rr) kn L:=GE.outs hr hv h1 h
theorem RV.cn {p ty b t C n} (h:lk kn p=some (.pointer (some ⟨b,0,none⟩))) [hp:eJ L b t C] (h1:Many P ty n) (hc:Nat.beq C.length n=true):RV P kn L (.cell p ty) (.agg C.toArray):=hp.ex.elim fun R q=>.fV h q h1 hc
theorem rv {r:ResultVar} (h:RV P kn L r v:=by first | exact .tmp rfl | exact .cn rfl mN rfl):RV P kn L r v:=h
theorem Gq {fn:Func} {Rr:Ending→World→Prop} {rs:List ResultVar} {vs:List Value} (h:∀ w,aB W0 w L→Rr (.returned (.tuple vs.toArray)) w) (hr:fn.results.toList=rs:=by exact rfl)
  (hv:KI P kn L rs vs:=by first | exact .cons rv (.cons rv .nil) | exact .cons rv (.cons rv (.cons rv .nil))) (h1:Nat.beq vs.length 1=false:=by exact rfl):GE W0 N [] .ret (bodyPost P fn Rr) kn L:=GE.aPw hr hv h1 h
theorem NV {T e s b:Nat} {z:Value} (h:lu apT T=some (e,s,b,z):=by exact rfl) (h1:(vc z).length=s:=by exact rfl) (h2:Nat.ble 1 s=true:=by exact rfl):C2 Tryz.prog T e s b z:=⟨(ap h).1,(ap h).2,h1,Nat.le_of_ble_eq_true h2⟩
end
end
section
def aJ (l:List Int):List Value:=l.map fun x=>Value.int .i64 x
theorem wO (l:List Int):(aJ l).length=l.length:=by simp [aJ]
theorem kC {l:List Int} {k:Nat} (h:k < l.length):(aJ l)[k]?=some (.int .i64 (l[k]?.getD 0)):=by simp [aJ,h]
theorem YH {l:List Int} {k:Nat} (h:k < l.length):(aJ l)[k]?=some (.int .i64 l[k]):=by simp [aJ,h]
def fL (l:List Tm):List Value:=l.flatMap eK
theorem XN {p:Prop} (h:p:=by
  refine Au ?_;refine Ef (EF.buildSlice rfl bS rfl rfl rfl) fun b22 _=>?_;refine Au ?_;refine Go fun w h=>?_;simp only [dB] at *;exact oJ (l:=[t.a,t.b]) h ((if_neg (by omega)).trans (if_pos (by omega)))):p:=h
theorem aEi {p:Prop} (h:p:=by
  refine Au ?_;refine Ef (EF.buildSlice rfl bS rfl rfl rfl) fun b11 _=>?_;refine Au ?_;refine Go fun w h=>?_;simp only [dB] at *;exact oJ (l:=[t.a]) h (if_pos (by omega))):p:=h
theorem mO (l:List Tm):(fL l).length=l.length * 6:=by
 unfold fL;induction l with
 | nil=>rfl
 | cons x l ih=>simp only [List.flatMap_cons,List.length_append,ih,List.length_cons,eK,List.length_nil]; omega
theorem uL (l m:List Tm):fL (l++m)=fL l++fL m:=by unfold fL; rw [List.flatMap_append]
theorem TE {l:List Tm} {k:Nat} (hk:k < l.length):∀ j,j < 6→(fL l)[k * 6 + j]?=(eK l[k])[j]?:=by
 intro j hj;induction l generalizing k with
 | nil=>simp at hk
 | cons x l ih =>
  have e:fL (x::l)=eK x++fL l:=rfl;have h6:(eK x).length=6:=rfl;rw [e];cases k with
  | zero=>rw [List.getElem?_append_left (by omega),Nat.zero_mul,Nat.zero_add]; rfl
  | succ k =>
   rw [List.getElem?_append_right (by omega),h6,show (k + 1) * 6 + j - 6=k * 6 + j by omega];exact ih (by simpa using hk)
theorem jT (t:Tm):t.parts.length≤3:=by
 unfold Tm.parts;split
 ·simp
 split
 ·simp
 split <;> simp
theorem oJ {W0 w:World} {R:List aA} {b b1:Nat} {C1:List Value} {t:Tm} {l:List Int} (h:aB W0 w (Bk b 3 (aJ l)::Bk b1 94 C1::R)) (hp:t.parts=l) :
  ∃ v,Sl t.parts.length v∧Ending.returned (.slice (some ⟨b,0,none⟩) l.length l.length)=.returned v∧aB W0 w ([Rw 3 1 v t.parts.length (aJ t.parts)]++R):=by
 rw [hp];have hl:l.length≤maxLen:=by have:=jT t; rw [hp] at this; unfold maxLen; omega
 exact ⟨_,⟨_,_,rfl⟩,rfl,(h.part (.take .p0 (.drop .refl))).uC (by simp [aJ]) hl⟩
theorem IH {W0 w:World} {R:List aA} {b1:Nat} {C1:List Value} {t:Tm} (h:aB W0 w (Bk b1 94 C1::R)) (hp:t.parts=[]) :
  ∃ v,Sl t.parts.length v∧Ending.returned (.slice none 0 0)=.returned v∧aB W0 w ([Rw 3 1 v t.parts.length (aJ t.parts)]++R):=by
 rw [hp];exact ⟨_,⟨_,_,rfl⟩,rfl,(h.part (.drop .refl)).eP 3 1⟩
theorem vZ (t:Tm) :
  bQ Tryz.prog 70 [dE t] [] (fun v:Value=>v) (fun v=>[Rw 3 1 v t.parts.length (aJ t.parts)]) (Sl t.parts.length):=by
 refine Fg Tryz.func70 Tryz.ntmps70 fun W0 R=>?_;refine Au ?_;refine Ef (EF.bV rfl) fun b1 _=>?_;refine Au ?_;refine GC.cond rfl (fun c5=>?_) (fun c5=>?_)
 ·refine Au ?_;refine GC.aQ rfl c5 ?_;exact aEi
 refine Au ?_;refine GC.cond rfl (fun aMz=>?_) (fun aMz=>?_)
 ·refine Au ?_;refine GC.aQ rfl aMz ?_;exact aEi
 refine Au ?_;refine GC.cond rfl (fun aSv=>?_) (fun aSv=>?_)
 ·exact aEi
 refine Au ?_;refine GC.cond rfl (fun c12=>?_) (fun c12=>?_)
 ·refine Au ?_;refine GC.aQ rfl c12 ?_;exact XN
 refine Au ?_;refine GC.cond rfl (fun aAw=>?_) (fun aAw=>?_)
 ·refine Au ?_;refine GC.aQ rfl aAw ?_;exact XN
 refine Au ?_;refine GC.cond rfl (fun aAv=>?_) (fun aAv=>?_)
 ·refine Au ?_;refine GC.aQ rfl aAv ?_;exact XN
 refine Au ?_;refine GC.cond rfl (fun aAu=>?_) (fun aAu=>?_)
 ·refine Au ?_;refine GC.aQ rfl aAu ?_;exact XN
 refine Au ?_;refine GC.cond rfl (fun aM3=>?_) (fun aM3=>?_)
 ·exact XN
 refine Au ?_;refine GC.cond rfl (fun c23=>?_) (fun c23=>?_)
 ·refine Au ?_;refine Ef (EF.buildSlice rfl bS rfl rfl rfl) fun b31 _=>?_;refine Au ?_;refine Go fun w h=>?_;simp only [dB] at *;exact oJ (l:=[t.a,t.b,t.c]) h ((if_neg (by omega)).trans ((if_neg (by omega)).trans (if_pos (by omega))))
 refine Au ?_;refine Go fun w h=>?_;simp only [dB] at *;exact IH h ((if_neg (by omega)).trans ((if_neg (by omega)).trans (if_neg (by omega))))
end
end Go.Proofs.YtadggjnohohedaaGreatDoor
